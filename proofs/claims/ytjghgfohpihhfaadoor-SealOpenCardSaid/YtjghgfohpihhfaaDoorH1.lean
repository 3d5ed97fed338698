/- What is known of the types and the package variables of this program. Printed by a program. -/
import Derived.Test.YtjghgfohpihhfaaDoorProg
import Derived.Test.YtjghgfohpihhfaaDoorK3
namespace Go.Proofs.YtjghgfohpihhfaaDoor
open Go.Tw
set_option linter.unusedVariables false
set_option maxRecDepth 100000
def cD : Nat → Option TypeDesc
  | 3 => some (TypeDesc.int IntKind.i64)
  | 4 => some TypeDesc.bool
  | 5 => some (TypeDesc.int IntKind.u8)
  | 9 => some TypeDesc.string
  | 22 => some (TypeDesc.int IntKind.i64)
  | 27 => some (TypeDesc.slice 5)
  | 36 => some (TypeDesc.struct #[(Field.mk "Name" 9 0 false "" "" 0), (Field.mk "Stream" 9 1 false "" "" 16), (Field.mk "Check" 9 2 false "" "" 32), (Field.mk "Index" 9 3 false "" "" 48), (Field.mk "Token" 9 4 false "" "" 64)])
  | 44 => some (TypeDesc.struct #[(Field.mk "Name" 9 0 false "" "" 0), (Field.mk "Gen" 3 1 false "" "" 16), (Field.mk "Size" 3 2 false "" "" 24)])
  | 57 => some (TypeDesc.slice 3)
  | 60 => some (TypeDesc.int IntKind.u64)
  | 64 => some (TypeDesc.slice 27)
  | 67 => some (TypeDesc.pointer 82)
  | 72 => some (TypeDesc.struct #[(Field.mk "B" 27 0 false "" "" 0), (Field.mk "At" 3 1 false "" "" 24), (Field.mk "Last" 3 2 false "" "" 32), (Field.mk "E" 22 3 false "" "" 40)])
  | 74 => some (TypeDesc.struct #[(Field.mk "Kind" 3 0 false "" "" 0), (Field.mk "U" 60 1 false "" "" 8), (Field.mk "N" 3 2 false "" "" 16), (Field.mk "B" 4 3 false "" "" 24), (Field.mk "S" 9 4 false "" "" 32), (Field.mk "Most" 3 5 false "" "" 48)])
  | 80 => some (TypeDesc.int IntKind.u64)
  | 82 => some (TypeDesc.struct #[(Field.mk "data" 27 0 false "" "kinkeep/wire" 0), (Field.mk "offset" 3 1 false "" "kinkeep/wire" 24), (Field.mk "last" 3 2 false "" "kinkeep/wire" 32), (Field.mk "err" 22 3 false "" "kinkeep/wire" 40)])
  | 88 => some (TypeDesc.slice 9)
  | 97 => some (TypeDesc.int IntKind.u32)
  | 101 => some (TypeDesc.array 64 5)
  | 103 => some (TypeDesc.array 8 97)
  | 105 => some (TypeDesc.struct #[(Field.mk "words" 103 0 false "" "kinkeep/sha256" 0), (Field.mk "buffer" 101 8 false "" "kinkeep/sha256" 32), (Field.mk "length" 3 72 false "" "kinkeep/sha256" 96)])
  | 108 => some (TypeDesc.array 2 5)
  | 110 => some (TypeDesc.struct #[(Field.mk "State" 105 0 true "" "" 0), (Field.mk "outer" 101 73 false "" "kinkeep/hmac" 104)])
  | 112 => some (TypeDesc.struct #[(Field.mk "state" 110 0 false "" "kinkeep/hmac" 0)])
  | 115 => some (TypeDesc.array 16 97)
  | 117 => some (TypeDesc.array 4 3)
  | 118 => some (TypeDesc.array 8 117)
  | 123 => some (TypeDesc.array 64 97)
  | _ => none
def cZ : Nat → Option Nat
  | 3 => some 1
  | 4 => some 1
  | 5 => some 1
  | 9 => some 1
  | 22 => some 1
  | 27 => some 1
  | 36 => some 5
  | 44 => some 3
  | 57 => some 1
  | 60 => some 1
  | 64 => some 1
  | 67 => some 1
  | 72 => some 4
  | 74 => some 6
  | 80 => some 1
  | 82 => some 4
  | 88 => some 1
  | 97 => some 1
  | 101 => some 64
  | 103 => some 8
  | 105 => some 73
  | 108 => some 2
  | 110 => some 137
  | 112 => some 137
  | 115 => some 16
  | 117 => some 4
  | 118 => some 32
  | 123 => some 64
  | _ => none
def cI : Nat → Option ZD
  | 3 => some (.t .i)
  | 4 => some (.t .bo)
  | 5 => some (.t .u8)
  | 9 => some (.t .s)
  | 22 => some (.t .i)
  | 27 => some (.t (.sl .u8))
  | 36 => some (.t (.pr .s (.pr .s (.pr .s (.pr .s (.pr .s .un))))))
  | 44 => some (.t (.pr .s (.pr .i (.pr .i .un))))
  | 57 => some (.t (.sl .i))
  | 60 => some (.t .u64)
  | 64 => some (.t (.sl (.sl .u8)))
  | 67 => some (.v (.pointer none))
  | 72 => some (.t (.pr (.sl .u8) (.pr .i (.pr .i (.pr .i .un)))))
  | 74 => some (.t (.pr .i (.pr .u64 (.pr .i (.pr .bo (.pr .s (.pr .i .un)))))))
  | 80 => some (.t .u64)
  | 82 => some (.t (.pr (.sl .u8) (.pr .i (.pr .i (.pr .i .un)))))
  | 88 => some (.t (.sl .s))
  | 97 => some (.t .u32)
  | 101 => some (.t (.ar 64 .u8))
  | 103 => some (.t (.ar 8 .u32))
  | 105 => some (.t (.pr (.ar 8 .u32) (.pr (.ar 64 .u8) (.pr .i .un))))
  | 108 => some (.t (.ar 2 .u8))
  | 110 => some (.t (.pr (.pr (.ar 8 .u32) (.pr (.ar 64 .u8) (.pr .i .un))) (.pr (.ar 64 .u8) .un)))
  | 112 => some (.t (.pr (.pr (.pr (.ar 8 .u32) (.pr (.ar 64 .u8) (.pr .i .un))) (.pr (.ar 64 .u8) .un)) .un))
  | 115 => some (.t (.ar 16 .u32))
  | 117 => some (.t (.ar 4 .i))
  | 118 => some (.t (.ar 8 (.ar 4 .i)))
  | 123 => some (.t (.ar 64 .u32))
  | _ => none
def cE : Nat → Option Ty
  | 3 => some .i
  | 5 => some .u8
  | 9 => some .s
  | 27 => some (.sl .u8)
  | _ => none
def gv0 : Vector UInt8 2 := #v[54, 92]
def gv1 : Vector UInt32 8 := #v[1779033703, 3144134277, 1013904242, 2773480762, 1359893119, 2600822924, 528734635, 1541459225]
def gv2 : Vector UInt32 64 := #v[1116352408, 1899447441, 3049323471, 3921009573, 961987163, 1508970993, 2453635748, 2870763221, 3624381080, 310598401, 607225278, 1426881987, 1925078388, 2162078206, 2614888103, 3248222580, 3835390401, 4022224774, 264347078, 604807628, 770255983, 1249150122, 1555081692, 1996064986, 2554220882, 2821834349, 2952996808, 3210313671, 3336571891, 3584528711, 113926993, 338241895, 666307205, 773529912, 1294757372, 1396182291, 1695183700, 1986661051, 2177026350, 2456956037, 2730485921, 2820302411, 3259730800, 3345764771, 3516065817, 3600352804, 4094571909, 275423344, 430227734, 506948616, 659060556, 883997877, 958139571, 1322822218, 1537002063, 1747873779, 1955562222, 2024104815, 2227730452, 2361852424, 2428436474, 2756734187, 3204031479, 3329325298]
def cG : Nat → Option ((t : Ty) × t.den)
  | 0 => some ⟨(.ar 2 .u8), (gv0 : Ty.den (.ar 2 .u8))⟩
  | 1 => some ⟨(.ar 8 .u32), (gv1 : Ty.den (.ar 8 .u32))⟩
  | 2 => some ⟨(.ar 64 .u32), (gv2 : Ty.den (.ar 64 .u32))⟩
  | _ => none
def cQ : Nat → Bool
  | 36 => true
  | 44 => true
  | 74 => true
  | _ => false
def cfg : Cfg := ⟨cD, cZ, fun t => match cI t with | some d => some d.iv | none => none, cE, cG, cQ⟩
theorem tok : TOk Tryd.prog cD cZ := ⟨fun t d h => by
  unfold cD at h
  split at h <;> first | (cases h; done) | skip
  · cases h; exact Tryd.underlying3
  · cases h; exact Tryd.underlying4
  · cases h; exact Tryd.underlying5
  · cases h; exact Tryd.underlying9
  · cases h; exact Tryd.underlying22
  · cases h; exact Tryd.underlying27
  · cases h; exact Tryd.underlying36
  · cases h; exact Tryd.underlying44
  · cases h; exact Tryd.underlying57
  · cases h; exact Tryd.underlying60
  · cases h; exact Tryd.underlying64
  · cases h; exact Tryd.underlying67
  · cases h; exact Tryd.underlying72
  · cases h; exact Tryd.underlying74
  · cases h; exact Tryd.underlying80
  · cases h; exact Tryd.underlying82
  · cases h; exact Tryd.underlying88
  · cases h; exact Tryd.underlying97
  · cases h; exact Tryd.underlying101
  · cases h; exact Tryd.underlying103
  · cases h; exact Tryd.underlying105
  · cases h; exact Tryd.underlying108
  · cases h; exact Tryd.underlying110
  · cases h; exact Tryd.underlying112
  · cases h; exact Tryd.underlying115
  · cases h; exact Tryd.underlying117
  · cases h; exact Tryd.underlying118
  · cases h; exact Tryd.underlying123
  , fun t n h => by
  unfold cZ at h
  split at h <;> first | (cases h; done) | skip
  · cases h; exact fun w => by kernel_rfl
  · cases h; exact fun w => by kernel_rfl
  · cases h; exact fun w => by kernel_rfl
  · cases h; exact fun w => by kernel_rfl
  · cases h; exact fun w => by kernel_rfl
  · cases h; exact fun w => by kernel_rfl
  · cases h; exact fun w => by kernel_rfl
  · cases h; exact fun w => by kernel_rfl
  · cases h; exact fun w => by kernel_rfl
  · cases h; exact fun w => by kernel_rfl
  · cases h; exact fun w => by kernel_rfl
  · cases h; exact fun w => by kernel_rfl
  · cases h; exact fun w => by kernel_rfl
  · cases h; exact fun w => by kernel_rfl
  · cases h; exact fun w => by kernel_rfl
  · cases h; exact fun w => by kernel_rfl
  · cases h; exact fun w => by kernel_rfl
  · cases h; exact fun w => by kernel_rfl
  · cases h; exact fun w => by kernel_rfl
  · cases h; exact fun w => by kernel_rfl
  · cases h; exact fun w => by kernel_rfl
  · cases h; exact fun w => by kernel_rfl
  · cases h; exact fun w => by kernel_rfl
  · cases h; exact fun w => by kernel_rfl
  · cases h; exact fun w => by kernel_rfl
  · cases h; exact fun w => by kernel_rfl
  · cases h; exact fun w => by kernel_rfl
  · cases h; exact fun w => by kernel_rfl
⟩
theorem zr3 : ∃ z cs, (∀ w, (zeroValue 3).run Tryd.prog w = .ok z w) ∧ z.cells = cs.toArray ∧ ∀ O ρ, R O ρ false ((.t .i) : ZD).iv cs := zero_of (z := (.int .i64 0)) (fun w => by kernel_rfl) (by kernel_rfl) rfl
theorem zr4 : ∃ z cs, (∀ w, (zeroValue 4).run Tryd.prog w = .ok z w) ∧ z.cells = cs.toArray ∧ ∀ O ρ, R O ρ false ((.t .bo) : ZD).iv cs := zero_of (z := (.bool false)) (fun w => by kernel_rfl) (by kernel_rfl) rfl
theorem zr5 : ∃ z cs, (∀ w, (zeroValue 5).run Tryd.prog w = .ok z w) ∧ z.cells = cs.toArray ∧ ∀ O ρ, R O ρ false ((.t .u8) : ZD).iv cs := zero_of (z := (.int .u8 0)) (fun w => by kernel_rfl) (by kernel_rfl) rfl
theorem zr9 : ∃ z cs, (∀ w, (zeroValue 9).run Tryd.prog w = .ok z w) ∧ z.cells = cs.toArray ∧ ∀ O ρ, R O ρ false ((.t .s) : ZD).iv cs := zero_of (z := (.string ⟨#[]⟩)) (fun w => by kernel_rfl) (by kernel_rfl) rfl
theorem zr22 : ∃ z cs, (∀ w, (zeroValue 22).run Tryd.prog w = .ok z w) ∧ z.cells = cs.toArray ∧ ∀ O ρ, R O ρ false ((.t .i) : ZD).iv cs := zero_of (z := (.int .i64 0)) (fun w => by kernel_rfl) (by kernel_rfl) rfl
theorem zr27 : ∃ z cs, (∀ w, (zeroValue 27).run Tryd.prog w = .ok z w) ∧ z.cells = cs.toArray ∧ ∀ O ρ, R O ρ false ((.t (.sl .u8)) : ZD).iv cs := zero_of (z := (.slice none 0 0)) (fun w => by kernel_rfl) (by kernel_rfl) rfl
theorem zr36 : ∃ z cs, (∀ w, (zeroValue 36).run Tryd.prog w = .ok z w) ∧ z.cells = cs.toArray ∧ ∀ O ρ, R O ρ false ((.t (.pr .s (.pr .s (.pr .s (.pr .s (.pr .s .un)))))) : ZD).iv cs := zero_of (z := (.agg #[(.string ⟨#[]⟩), (.string ⟨#[]⟩), (.string ⟨#[]⟩), (.string ⟨#[]⟩), (.string ⟨#[]⟩)])) (fun w => by kernel_rfl) (by kernel_rfl) rfl
theorem zr44 : ∃ z cs, (∀ w, (zeroValue 44).run Tryd.prog w = .ok z w) ∧ z.cells = cs.toArray ∧ ∀ O ρ, R O ρ false ((.t (.pr .s (.pr .i (.pr .i .un)))) : ZD).iv cs := zero_of (z := (.agg #[(.string ⟨#[]⟩), (.int .i64 0), (.int .i64 0)])) (fun w => by kernel_rfl) (by kernel_rfl) rfl
theorem zr57 : ∃ z cs, (∀ w, (zeroValue 57).run Tryd.prog w = .ok z w) ∧ z.cells = cs.toArray ∧ ∀ O ρ, R O ρ false ((.t (.sl .i)) : ZD).iv cs := zero_of (z := (.slice none 0 0)) (fun w => by kernel_rfl) (by kernel_rfl) rfl
theorem zr60 : ∃ z cs, (∀ w, (zeroValue 60).run Tryd.prog w = .ok z w) ∧ z.cells = cs.toArray ∧ ∀ O ρ, R O ρ false ((.t .u64) : ZD).iv cs := zero_of (z := (.int .u64 0)) (fun w => by kernel_rfl) (by kernel_rfl) rfl
theorem zr64 : ∃ z cs, (∀ w, (zeroValue 64).run Tryd.prog w = .ok z w) ∧ z.cells = cs.toArray ∧ ∀ O ρ, R O ρ false ((.t (.sl (.sl .u8))) : ZD).iv cs := zero_of (z := (.slice none 0 0)) (fun w => by kernel_rfl) (by kernel_rfl) rfl
theorem zr67 : ∃ z cs, (∀ w, (zeroValue 67).run Tryd.prog w = .ok z w) ∧ z.cells = cs.toArray ∧ ∀ O ρ, R O ρ false ((.v (.pointer none)) : ZD).iv cs := zero_of (z := (.pointer none)) (fun w => by kernel_rfl) (by kernel_rfl) rfl
theorem zr72 : ∃ z cs, (∀ w, (zeroValue 72).run Tryd.prog w = .ok z w) ∧ z.cells = cs.toArray ∧ ∀ O ρ, R O ρ false ((.t (.pr (.sl .u8) (.pr .i (.pr .i (.pr .i .un))))) : ZD).iv cs := zero_of (z := (.agg #[(.slice none 0 0), (.int .i64 0), (.int .i64 0), (.int .i64 0)])) (fun w => by kernel_rfl) (by kernel_rfl) rfl
theorem zr74 : ∃ z cs, (∀ w, (zeroValue 74).run Tryd.prog w = .ok z w) ∧ z.cells = cs.toArray ∧ ∀ O ρ, R O ρ false ((.t (.pr .i (.pr .u64 (.pr .i (.pr .bo (.pr .s (.pr .i .un))))))) : ZD).iv cs := zero_of (z := (.agg #[(.int .i64 0), (.int .u64 0), (.int .i64 0), (.bool false), (.string ⟨#[]⟩), (.int .i64 0)])) (fun w => by kernel_rfl) (by kernel_rfl) rfl
theorem zr80 : ∃ z cs, (∀ w, (zeroValue 80).run Tryd.prog w = .ok z w) ∧ z.cells = cs.toArray ∧ ∀ O ρ, R O ρ false ((.t .u64) : ZD).iv cs := zero_of (z := (.int .u64 0)) (fun w => by kernel_rfl) (by kernel_rfl) rfl
theorem zr82 : ∃ z cs, (∀ w, (zeroValue 82).run Tryd.prog w = .ok z w) ∧ z.cells = cs.toArray ∧ ∀ O ρ, R O ρ false ((.t (.pr (.sl .u8) (.pr .i (.pr .i (.pr .i .un))))) : ZD).iv cs := zero_of (z := (.agg #[(.slice none 0 0), (.int .i64 0), (.int .i64 0), (.int .i64 0)])) (fun w => by kernel_rfl) (by kernel_rfl) rfl
theorem zr88 : ∃ z cs, (∀ w, (zeroValue 88).run Tryd.prog w = .ok z w) ∧ z.cells = cs.toArray ∧ ∀ O ρ, R O ρ false ((.t (.sl .s)) : ZD).iv cs := zero_of (z := (.slice none 0 0)) (fun w => by kernel_rfl) (by kernel_rfl) rfl
theorem zr97 : ∃ z cs, (∀ w, (zeroValue 97).run Tryd.prog w = .ok z w) ∧ z.cells = cs.toArray ∧ ∀ O ρ, R O ρ false ((.t .u32) : ZD).iv cs := zero_of (z := (.int .u32 0)) (fun w => by kernel_rfl) (by kernel_rfl) rfl
theorem zr101 : ∃ z cs, (∀ w, (zeroValue 101).run Tryd.prog w = .ok z w) ∧ z.cells = cs.toArray ∧ ∀ O ρ, R O ρ false ((.t (.ar 64 .u8)) : ZD).iv cs := zero_of (z := (.agg (List.replicate 64 (.int .u8 0)).toArray)) (fun w => by kernel_rfl) (by kernel_rfl) rfl
theorem zr103 : ∃ z cs, (∀ w, (zeroValue 103).run Tryd.prog w = .ok z w) ∧ z.cells = cs.toArray ∧ ∀ O ρ, R O ρ false ((.t (.ar 8 .u32)) : ZD).iv cs := zero_of (z := (.agg #[(.int .u32 0), (.int .u32 0), (.int .u32 0), (.int .u32 0), (.int .u32 0), (.int .u32 0), (.int .u32 0), (.int .u32 0)])) (fun w => by kernel_rfl) (by kernel_rfl) rfl
theorem zr105 : ∃ z cs, (∀ w, (zeroValue 105).run Tryd.prog w = .ok z w) ∧ z.cells = cs.toArray ∧ ∀ O ρ, R O ρ false ((.t (.pr (.ar 8 .u32) (.pr (.ar 64 .u8) (.pr .i .un)))) : ZD).iv cs := zero_of (z := (.agg #[(.int .u32 0), (.int .u32 0), (.int .u32 0), (.int .u32 0), (.int .u32 0), (.int .u32 0), (.int .u32 0), (.int .u32 0), (.int .u8 0), (.int .u8 0), (.int .u8 0), (.int .u8 0), (.int .u8 0), (.int .u8 0), (.int .u8 0), (.int .u8 0), (.int .u8 0), (.int .u8 0), (.int .u8 0), (.int .u8 0), (.int .u8 0), (.int .u8 0), (.int .u8 0), (.int .u8 0), (.int .u8 0), (.int .u8 0), (.int .u8 0), (.int .u8 0), (.int .u8 0), (.int .u8 0), (.int .u8 0), (.int .u8 0), (.int .u8 0), (.int .u8 0), (.int .u8 0), (.int .u8 0), (.int .u8 0), (.int .u8 0), (.int .u8 0), (.int .u8 0), (.int .u8 0), (.int .u8 0), (.int .u8 0), (.int .u8 0), (.int .u8 0), (.int .u8 0), (.int .u8 0), (.int .u8 0), (.int .u8 0), (.int .u8 0), (.int .u8 0), (.int .u8 0), (.int .u8 0), (.int .u8 0), (.int .u8 0), (.int .u8 0), (.int .u8 0), (.int .u8 0), (.int .u8 0), (.int .u8 0), (.int .u8 0), (.int .u8 0), (.int .u8 0), (.int .u8 0), (.int .u8 0), (.int .u8 0), (.int .u8 0), (.int .u8 0), (.int .u8 0), (.int .u8 0), (.int .u8 0), (.int .u8 0), (.int .i64 0)])) (fun w => by kernel_rfl) (by kernel_rfl) rfl
theorem zr108 : ∃ z cs, (∀ w, (zeroValue 108).run Tryd.prog w = .ok z w) ∧ z.cells = cs.toArray ∧ ∀ O ρ, R O ρ false ((.t (.ar 2 .u8)) : ZD).iv cs := zero_of (z := (.agg #[(.int .u8 0), (.int .u8 0)])) (fun w => by kernel_rfl) (by kernel_rfl) rfl
theorem zr110 : ∃ z cs, (∀ w, (zeroValue 110).run Tryd.prog w = .ok z w) ∧ z.cells = cs.toArray ∧ ∀ O ρ, R O ρ false ((.t (.pr (.pr (.ar 8 .u32) (.pr (.ar 64 .u8) (.pr .i .un))) (.pr (.ar 64 .u8) .un))) : ZD).iv cs := zero_of (z := (.agg #[(.int .u32 0), (.int .u32 0), (.int .u32 0), (.int .u32 0), (.int .u32 0), (.int .u32 0), (.int .u32 0), (.int .u32 0), (.int .u8 0), (.int .u8 0), (.int .u8 0), (.int .u8 0), (.int .u8 0), (.int .u8 0), (.int .u8 0), (.int .u8 0), (.int .u8 0), (.int .u8 0), (.int .u8 0), (.int .u8 0), (.int .u8 0), (.int .u8 0), (.int .u8 0), (.int .u8 0), (.int .u8 0), (.int .u8 0), (.int .u8 0), (.int .u8 0), (.int .u8 0), (.int .u8 0), (.int .u8 0), (.int .u8 0), (.int .u8 0), (.int .u8 0), (.int .u8 0), (.int .u8 0), (.int .u8 0), (.int .u8 0), (.int .u8 0), (.int .u8 0), (.int .u8 0), (.int .u8 0), (.int .u8 0), (.int .u8 0), (.int .u8 0), (.int .u8 0), (.int .u8 0), (.int .u8 0), (.int .u8 0), (.int .u8 0), (.int .u8 0), (.int .u8 0), (.int .u8 0), (.int .u8 0), (.int .u8 0), (.int .u8 0), (.int .u8 0), (.int .u8 0), (.int .u8 0), (.int .u8 0), (.int .u8 0), (.int .u8 0), (.int .u8 0), (.int .u8 0), (.int .u8 0), (.int .u8 0), (.int .u8 0), (.int .u8 0), (.int .u8 0), (.int .u8 0), (.int .u8 0), (.int .u8 0), (.int .i64 0), (.int .u8 0), (.int .u8 0), (.int .u8 0), (.int .u8 0), (.int .u8 0), (.int .u8 0), (.int .u8 0), (.int .u8 0), (.int .u8 0), (.int .u8 0), (.int .u8 0), (.int .u8 0), (.int .u8 0), (.int .u8 0), (.int .u8 0), (.int .u8 0), (.int .u8 0), (.int .u8 0), (.int .u8 0), (.int .u8 0), (.int .u8 0), (.int .u8 0), (.int .u8 0), (.int .u8 0), (.int .u8 0), (.int .u8 0), (.int .u8 0), (.int .u8 0), (.int .u8 0), (.int .u8 0), (.int .u8 0), (.int .u8 0), (.int .u8 0), (.int .u8 0), (.int .u8 0), (.int .u8 0), (.int .u8 0), (.int .u8 0), (.int .u8 0), (.int .u8 0), (.int .u8 0), (.int .u8 0), (.int .u8 0), (.int .u8 0), (.int .u8 0), (.int .u8 0), (.int .u8 0), (.int .u8 0), (.int .u8 0), (.int .u8 0), (.int .u8 0), (.int .u8 0), (.int .u8 0), (.int .u8 0), (.int .u8 0), (.int .u8 0), (.int .u8 0), (.int .u8 0), (.int .u8 0), (.int .u8 0), (.int .u8 0), (.int .u8 0), (.int .u8 0), (.int .u8 0)])) (fun w => by kernel_rfl) (by kernel_rfl) rfl
theorem zr112 : ∃ z cs, (∀ w, (zeroValue 112).run Tryd.prog w = .ok z w) ∧ z.cells = cs.toArray ∧ ∀ O ρ, R O ρ false ((.t (.pr (.pr (.pr (.ar 8 .u32) (.pr (.ar 64 .u8) (.pr .i .un))) (.pr (.ar 64 .u8) .un)) .un)) : ZD).iv cs := zero_of (z := (.agg #[(.int .u32 0), (.int .u32 0), (.int .u32 0), (.int .u32 0), (.int .u32 0), (.int .u32 0), (.int .u32 0), (.int .u32 0), (.int .u8 0), (.int .u8 0), (.int .u8 0), (.int .u8 0), (.int .u8 0), (.int .u8 0), (.int .u8 0), (.int .u8 0), (.int .u8 0), (.int .u8 0), (.int .u8 0), (.int .u8 0), (.int .u8 0), (.int .u8 0), (.int .u8 0), (.int .u8 0), (.int .u8 0), (.int .u8 0), (.int .u8 0), (.int .u8 0), (.int .u8 0), (.int .u8 0), (.int .u8 0), (.int .u8 0), (.int .u8 0), (.int .u8 0), (.int .u8 0), (.int .u8 0), (.int .u8 0), (.int .u8 0), (.int .u8 0), (.int .u8 0), (.int .u8 0), (.int .u8 0), (.int .u8 0), (.int .u8 0), (.int .u8 0), (.int .u8 0), (.int .u8 0), (.int .u8 0), (.int .u8 0), (.int .u8 0), (.int .u8 0), (.int .u8 0), (.int .u8 0), (.int .u8 0), (.int .u8 0), (.int .u8 0), (.int .u8 0), (.int .u8 0), (.int .u8 0), (.int .u8 0), (.int .u8 0), (.int .u8 0), (.int .u8 0), (.int .u8 0), (.int .u8 0), (.int .u8 0), (.int .u8 0), (.int .u8 0), (.int .u8 0), (.int .u8 0), (.int .u8 0), (.int .u8 0), (.int .i64 0), (.int .u8 0), (.int .u8 0), (.int .u8 0), (.int .u8 0), (.int .u8 0), (.int .u8 0), (.int .u8 0), (.int .u8 0), (.int .u8 0), (.int .u8 0), (.int .u8 0), (.int .u8 0), (.int .u8 0), (.int .u8 0), (.int .u8 0), (.int .u8 0), (.int .u8 0), (.int .u8 0), (.int .u8 0), (.int .u8 0), (.int .u8 0), (.int .u8 0), (.int .u8 0), (.int .u8 0), (.int .u8 0), (.int .u8 0), (.int .u8 0), (.int .u8 0), (.int .u8 0), (.int .u8 0), (.int .u8 0), (.int .u8 0), (.int .u8 0), (.int .u8 0), (.int .u8 0), (.int .u8 0), (.int .u8 0), (.int .u8 0), (.int .u8 0), (.int .u8 0), (.int .u8 0), (.int .u8 0), (.int .u8 0), (.int .u8 0), (.int .u8 0), (.int .u8 0), (.int .u8 0), (.int .u8 0), (.int .u8 0), (.int .u8 0), (.int .u8 0), (.int .u8 0), (.int .u8 0), (.int .u8 0), (.int .u8 0), (.int .u8 0), (.int .u8 0), (.int .u8 0), (.int .u8 0), (.int .u8 0), (.int .u8 0), (.int .u8 0), (.int .u8 0), (.int .u8 0)])) (fun w => by kernel_rfl) (by kernel_rfl) rfl
theorem zr115 : ∃ z cs, (∀ w, (zeroValue 115).run Tryd.prog w = .ok z w) ∧ z.cells = cs.toArray ∧ ∀ O ρ, R O ρ false ((.t (.ar 16 .u32)) : ZD).iv cs := zero_of (z := (.agg #[(.int .u32 0), (.int .u32 0), (.int .u32 0), (.int .u32 0), (.int .u32 0), (.int .u32 0), (.int .u32 0), (.int .u32 0), (.int .u32 0), (.int .u32 0), (.int .u32 0), (.int .u32 0), (.int .u32 0), (.int .u32 0), (.int .u32 0), (.int .u32 0)])) (fun w => by kernel_rfl) (by kernel_rfl) rfl
theorem zr117 : ∃ z cs, (∀ w, (zeroValue 117).run Tryd.prog w = .ok z w) ∧ z.cells = cs.toArray ∧ ∀ O ρ, R O ρ false ((.t (.ar 4 .i)) : ZD).iv cs := zero_of (z := (.agg #[(.int .i64 0), (.int .i64 0), (.int .i64 0), (.int .i64 0)])) (fun w => by kernel_rfl) (by kernel_rfl) rfl
theorem zr118 : ∃ z cs, (∀ w, (zeroValue 118).run Tryd.prog w = .ok z w) ∧ z.cells = cs.toArray ∧ ∀ O ρ, R O ρ false ((.t (.ar 8 (.ar 4 .i))) : ZD).iv cs := zero_of (z := (.agg (List.replicate 32 (.int .i64 0)).toArray)) (fun w => by kernel_rfl) (by kernel_rfl) rfl
theorem zr123 : ∃ z cs, (∀ w, (zeroValue 123).run Tryd.prog w = .ok z w) ∧ z.cells = cs.toArray ∧ ∀ O ρ, R O ρ false ((.t (.ar 64 .u32)) : ZD).iv cs := zero_of (z := (.agg (List.replicate 64 (.int .u32 0)).toArray)) (fun w => by kernel_rfl) (by kernel_rfl) rfl
theorem czero : ∀ t v, cfg.I t = some v → ∃ z cs, (∀ w, (zeroValue t).run Tryd.prog w = .ok z w) ∧ z.cells = cs.toArray ∧ ∀ O ρ, R O ρ false v cs := by
  intro t v h
  simp only [cfg] at h
  split at h <;> first | (cases h; done) | skip
  rename_i d hd
  cases h
  unfold cI at hd
  split at hd <;> first | (cases hd; done) | skip
  · cases hd; exact zr3
  · cases hd; exact zr4
  · cases hd; exact zr5
  · cases hd; exact zr9
  · cases hd; exact zr22
  · cases hd; exact zr27
  · cases hd; exact zr36
  · cases hd; exact zr44
  · cases hd; exact zr57
  · cases hd; exact zr60
  · cases hd; exact zr64
  · cases hd; exact zr67
  · cases hd; exact zr72
  · cases hd; exact zr74
  · cases hd; exact zr80
  · cases hd; exact zr82
  · cases hd; exact zr88
  · cases hd; exact zr97
  · cases hd; exact zr101
  · cases hd; exact zr103
  · cases hd; exact zr105
  · cases hd; exact zr108
  · cases hd; exact zr110
  · cases hd; exact zr112
  · cases hd; exact zr115
  · cases hd; exact zr117
  · cases hd; exact zr118
  · cases hd; exact zr123
theorem el27 : ∃ bytes z zc, EOk Tryd.prog 27 5 (.u8 : Ty).size bytes z ∧ bytes ≤ 128 ∧ z.cells = zc.toArray ∧ ∀ O, TR O .u8 (.u8 : Ty).zero zc := elem_of (b := 1) (z := (.int .u8 0)) (eok_of Tryd.underlying27 (by kernel_rfl) (by kernel_rfl) (by decide)) (by decide) (by kernel_rfl)
theorem el57 : ∃ bytes z zc, EOk Tryd.prog 57 3 (.i : Ty).size bytes z ∧ bytes ≤ 128 ∧ z.cells = zc.toArray ∧ ∀ O, TR O .i (.i : Ty).zero zc := elem_of (b := 8) (z := (.int .i64 0)) (eok_of Tryd.underlying57 (by kernel_rfl) (by kernel_rfl) (by decide)) (by decide) (by kernel_rfl)
theorem el64 : ∃ bytes z zc, EOk Tryd.prog 64 27 ((.sl .u8) : Ty).size bytes z ∧ bytes ≤ 128 ∧ z.cells = zc.toArray ∧ ∀ O, TR O (.sl .u8) ((.sl .u8) : Ty).zero zc := elem_of (b := 24) (z := (.slice none 0 0)) (eok_of Tryd.underlying64 (by kernel_rfl) (by kernel_rfl) (by decide)) (by decide) (by kernel_rfl)
theorem el88 : ∃ bytes z zc, EOk Tryd.prog 88 9 (.s : Ty).size bytes z ∧ bytes ≤ 128 ∧ z.cells = zc.toArray ∧ ∀ O, TR O .s (.s : Ty).zero zc := elem_of (b := 16) (z := (.string ⟨#[]⟩)) (eok_of Tryd.underlying88 (by kernel_rfl) (by kernel_rfl) (by decide)) (by decide) (by kernel_rfl)
theorem celem : ∀ t e ty, cfg.D t = some (.slice e) → cfg.E e = some ty → ∃ bytes z zc, EOk Tryd.prog t e ty.size bytes z ∧ bytes ≤ 128 ∧ z.cells = zc.toArray ∧ ∀ O, TR O ty ty.zero zc := by
  intro t e ty h k
  have h : cD t = some (.slice e) := h
  have k : cE e = some ty := k
  unfold cD at h
  split at h <;> first | (cases h; done) | skip
  · cases h; cases k; exact el27
  · cases h; cases k; exact el57
  · cases h; cases k; exact el64
  · cases h; cases k; exact el88
theorem pl36 : ∃ pl : Array (Nat × Nat), (∀ w, ((#[(Field.mk "Name" 9 0 false "" "" 0), (Field.mk "Stream" 9 1 false "" "" 16), (Field.mk "Check" 9 2 false "" "" 32), (Field.mk "Index" 9 3 false "" "" 48), (Field.mk "Token" 9 4 false "" "" 64)] : Array Field).mapM (m := Sem) fun f => do pure (f.offset, ← sizeOf f.type)).run Tryd.prog w = .ok pl w) ∧ ∀ (i : Nat) (f : Field), (#[(Field.mk "Name" 9 0 false "" "" 0), (Field.mk "Stream" 9 1 false "" "" 16), (Field.mk "Check" 9 2 false "" "" 32), (Field.mk "Index" 9 3 false "" "" 48), (Field.mk "Token" 9 4 false "" "" 64)] : Array Field)[i]? = some f → ∃ z, pl[i]? = some (f.offset, z) ∧ cZ f.type = some z := places_of #[(0, 1), (1, 1), (2, 1), (3, 1), (4, 1)] (fun w => by kernel_rfl) (by kernel_rfl)
theorem pl44 : ∃ pl : Array (Nat × Nat), (∀ w, ((#[(Field.mk "Name" 9 0 false "" "" 0), (Field.mk "Gen" 3 1 false "" "" 16), (Field.mk "Size" 3 2 false "" "" 24)] : Array Field).mapM (m := Sem) fun f => do pure (f.offset, ← sizeOf f.type)).run Tryd.prog w = .ok pl w) ∧ ∀ (i : Nat) (f : Field), (#[(Field.mk "Name" 9 0 false "" "" 0), (Field.mk "Gen" 3 1 false "" "" 16), (Field.mk "Size" 3 2 false "" "" 24)] : Array Field)[i]? = some f → ∃ z, pl[i]? = some (f.offset, z) ∧ cZ f.type = some z := places_of #[(0, 1), (1, 1), (2, 1)] (fun w => by kernel_rfl) (by kernel_rfl)
theorem pl72 : ∃ pl : Array (Nat × Nat), (∀ w, ((#[(Field.mk "B" 27 0 false "" "" 0), (Field.mk "At" 3 1 false "" "" 24), (Field.mk "Last" 3 2 false "" "" 32), (Field.mk "E" 22 3 false "" "" 40)] : Array Field).mapM (m := Sem) fun f => do pure (f.offset, ← sizeOf f.type)).run Tryd.prog w = .ok pl w) ∧ ∀ (i : Nat) (f : Field), (#[(Field.mk "B" 27 0 false "" "" 0), (Field.mk "At" 3 1 false "" "" 24), (Field.mk "Last" 3 2 false "" "" 32), (Field.mk "E" 22 3 false "" "" 40)] : Array Field)[i]? = some f → ∃ z, pl[i]? = some (f.offset, z) ∧ cZ f.type = some z := places_of #[(0, 1), (1, 1), (2, 1), (3, 1)] (fun w => by kernel_rfl) (by kernel_rfl)
theorem pl74 : ∃ pl : Array (Nat × Nat), (∀ w, ((#[(Field.mk "Kind" 3 0 false "" "" 0), (Field.mk "U" 60 1 false "" "" 8), (Field.mk "N" 3 2 false "" "" 16), (Field.mk "B" 4 3 false "" "" 24), (Field.mk "S" 9 4 false "" "" 32), (Field.mk "Most" 3 5 false "" "" 48)] : Array Field).mapM (m := Sem) fun f => do pure (f.offset, ← sizeOf f.type)).run Tryd.prog w = .ok pl w) ∧ ∀ (i : Nat) (f : Field), (#[(Field.mk "Kind" 3 0 false "" "" 0), (Field.mk "U" 60 1 false "" "" 8), (Field.mk "N" 3 2 false "" "" 16), (Field.mk "B" 4 3 false "" "" 24), (Field.mk "S" 9 4 false "" "" 32), (Field.mk "Most" 3 5 false "" "" 48)] : Array Field)[i]? = some f → ∃ z, pl[i]? = some (f.offset, z) ∧ cZ f.type = some z := places_of #[(0, 1), (1, 1), (2, 1), (3, 1), (4, 1), (5, 1)] (fun w => by kernel_rfl) (by kernel_rfl)
theorem pl82 : ∃ pl : Array (Nat × Nat), (∀ w, ((#[(Field.mk "data" 27 0 false "" "kinkeep/wire" 0), (Field.mk "offset" 3 1 false "" "kinkeep/wire" 24), (Field.mk "last" 3 2 false "" "kinkeep/wire" 32), (Field.mk "err" 22 3 false "" "kinkeep/wire" 40)] : Array Field).mapM (m := Sem) fun f => do pure (f.offset, ← sizeOf f.type)).run Tryd.prog w = .ok pl w) ∧ ∀ (i : Nat) (f : Field), (#[(Field.mk "data" 27 0 false "" "kinkeep/wire" 0), (Field.mk "offset" 3 1 false "" "kinkeep/wire" 24), (Field.mk "last" 3 2 false "" "kinkeep/wire" 32), (Field.mk "err" 22 3 false "" "kinkeep/wire" 40)] : Array Field)[i]? = some f → ∃ z, pl[i]? = some (f.offset, z) ∧ cZ f.type = some z := places_of #[(0, 1), (1, 1), (2, 1), (3, 1)] (fun w => by kernel_rfl) (by kernel_rfl)
theorem pl105 : ∃ pl : Array (Nat × Nat), (∀ w, ((#[(Field.mk "words" 103 0 false "" "kinkeep/sha256" 0), (Field.mk "buffer" 101 8 false "" "kinkeep/sha256" 32), (Field.mk "length" 3 72 false "" "kinkeep/sha256" 96)] : Array Field).mapM (m := Sem) fun f => do pure (f.offset, ← sizeOf f.type)).run Tryd.prog w = .ok pl w) ∧ ∀ (i : Nat) (f : Field), (#[(Field.mk "words" 103 0 false "" "kinkeep/sha256" 0), (Field.mk "buffer" 101 8 false "" "kinkeep/sha256" 32), (Field.mk "length" 3 72 false "" "kinkeep/sha256" 96)] : Array Field)[i]? = some f → ∃ z, pl[i]? = some (f.offset, z) ∧ cZ f.type = some z := places_of #[(0, 8), (8, 64), (72, 1)] (fun w => by kernel_rfl) (by kernel_rfl)
theorem pl110 : ∃ pl : Array (Nat × Nat), (∀ w, ((#[(Field.mk "State" 105 0 true "" "" 0), (Field.mk "outer" 101 73 false "" "kinkeep/hmac" 104)] : Array Field).mapM (m := Sem) fun f => do pure (f.offset, ← sizeOf f.type)).run Tryd.prog w = .ok pl w) ∧ ∀ (i : Nat) (f : Field), (#[(Field.mk "State" 105 0 true "" "" 0), (Field.mk "outer" 101 73 false "" "kinkeep/hmac" 104)] : Array Field)[i]? = some f → ∃ z, pl[i]? = some (f.offset, z) ∧ cZ f.type = some z := places_of #[(0, 73), (73, 64)] (fun w => by kernel_rfl) (by kernel_rfl)
theorem pl112 : ∃ pl : Array (Nat × Nat), (∀ w, ((#[(Field.mk "state" 110 0 false "" "kinkeep/hmac" 0)] : Array Field).mapM (m := Sem) fun f => do pure (f.offset, ← sizeOf f.type)).run Tryd.prog w = .ok pl w) ∧ ∀ (i : Nat) (f : Field), (#[(Field.mk "state" 110 0 false "" "kinkeep/hmac" 0)] : Array Field)[i]? = some f → ∃ z, pl[i]? = some (f.offset, z) ∧ cZ f.type = some z := places_of #[(0, 137)] (fun w => by kernel_rfl) (by kernel_rfl)
theorem cplaces : ∀ t fs, cfg.D t = some (.struct fs) → ∃ pl : Array (Nat × Nat), (∀ w, (fs.mapM (m := Sem) fun f => do pure (f.offset, ← sizeOf f.type)).run Tryd.prog w = .ok pl w) ∧ ∀ (i : Nat) (f : Field), fs[i]? = some f → ∃ z, pl[i]? = some (f.offset, z) ∧ cfg.Z f.type = some z := by
  intro t fs h
  have h : cD t = some (.struct fs) := h
  unfold cD at h
  split at h <;> first | (cases h; done) | skip
  · cases h; exact pl36
  · cases h; exact pl44
  · cases h; exact pl72
  · cases h; exact pl74
  · cases h; exact pl82
  · cases h; exact pl105
  · cases h; exact pl110
  · cases h; exact pl112
theorem ceqs : ∀ t fs, cfg.D t = some (.struct fs) → cfg.Q t = true → Tryd.prog.stoodInHeld t = false ∧ Tryd.prog.eqGuardType Tryd.prog.depth t = false ∧ ∀ f ∈ fs.toList, f.name ≠ "_" := by
  intro t fs h k
  have h : cD t = some (.struct fs) := h
  have k : cQ t = true := k
  unfold cD at h
  split at h <;> first | (cases h; done) | skip
  · cases h; exact ⟨by kernel_rfl, by kernel_rfl, names_of (by kernel_rfl)⟩
  · cases h; exact ⟨by kernel_rfl, by kernel_rfl, names_of (by kernel_rfl)⟩
  · exact absurd k (by decide)
  · cases h; exact ⟨by kernel_rfl, by kernel_rfl, names_of (by kernel_rfl)⟩
  · exact absurd k (by decide)
  · exact absurd k (by decide)
  · exact absurd k (by decide)
  · exact absurd k (by decide)
theorem cok : COk Tryd.prog cfg := ⟨tok, czero, celem, cplaces, ceqs⟩
theorem mixed : Tryd.prog.follows .mixedOrders = true := by kernel_rfl
def bodyOf (f : Func) : Code := match f.body with
  | some c => c
  | none => .skip
end Go.Proofs.YtjghgfohpihhfaaDoor
/- kinkeep/wire.UintSize: its twin, and that the call does what the twin says. Printed by a program. -/
namespace Go.Proofs.YtjghgfohpihhfaaDoor
open Go.Tw
set_option linter.unusedSimpArgs false
set_option linter.unusedVariables false
def ord40 : Nat → List (Tag × Nat)
  | _ => []
def al40 : Nat → Option Nat
  | _ => none
def E40 (F : Nat) : Ev := ⟨cfg, 11, ctOf [], ord40, ctOf [], al40⟩
theorem cts40 (F : Nat) : CtsOk Tryd.prog (E40 F) := cts_of (l := []) (l' := []) rfl rfl trivial trivial
def L40_2c (F : Nat) (y4 : UInt64) (y5 : Int) {β : Type} (kA : (UInt64 × Int) → Option β) (kO : Int → Option β) : Option β :=
  (bif (decide ((UInt64.ofNat 128) ≤ y4)) then (kA ((shr64 y4 ((UInt64.ofNat 7).toNat)), (w64 (y5 + (1 : Int))))) else (kO y5))
def L40_2 (F : Nat) (y4 : UInt64) (y5 : Int) : Option ((UInt64 × Int) ⊕ (Int)) := L40_2c F y4 y5 (fun s => some (.inl s)) (fun z => some (.inr z))
theorem L40_2n (F : Nat) (y4 : UInt64) (y5 : Int) {β : Type} (kA : (UInt64 × Int) → Option β) (kO : Int → Option β) : L40_2c F y4 y5 kA kO = (L40_2 F y4 y5).bind (elimS kA kO) := by
  simp only [L40_2, L40_2c, Option.bind_assoc, cond_bind, Option.bind_some, elimS_l, elimS_r, elimS_bind]
@[reducible] def sA40_2 : List Sh := [.u64, .i]
@[reducible] def sA140_2 : List Sh := [.i]
@[reducible] def sT40_2 : List TSh := []
@[reducible] def sT140_2 : List TSh := []
def lc40_2 (F : Nat) : Lc := mkL [0, 3] sA40_2 sT40_2 [3] sA140_2 sT140_2 F (fun x y (s : UInt64 × Int) => L40_2 F s.1 s.2) (fun x y => (x.1, x.2.1)) (fun x y (z : Int) => ((z, ()), ()))
theorem le40_2 (F : Nat) (x : dens sA40_2) (y : tdens sT40_2) (s : UInt64 × Int) : sev (E40 F) 0 [] (cAt (bodyOf Tryd.f40) (0 :: 0 :: [0, 1, 1])) (0 :: 0 :: [0, 1, 1]) (mkSt [0, 3] sA40_2 sT40_2 (s.1, s.2, ()) ()) (kLoop 0 [0, 3] sA40_2 sT40_2 [3] sA140_2 sT140_2 [] [] [] 0 (fun x y => some (.inl (x, y))) (fun x y => some (.inr (.inl (x, y)))) (fun x y => some (.inr (.inr (x, y))))) =
    L40_2c (β := Full sA40_2 sT40_2 sA140_2 sT140_2 [] []) F s.1 s.2 (fun s => some (.inl ((s.1, s.2, ()), ()))) (fun z => some (.inr (.inl ((z, ()), ())))) := by kernel_rfl
theorem lo40_2 (F : Nat) : LcOk Tryd.prog (E40 F) 0 (lc40_2 F) (cAt (bodyOf Tryd.f40) [0, 1, 1]) :=
  mkL_ok (lp := []) (id := 0) (b := cAt (bodyOf Tryd.f40) (0 :: 0 :: [0, 1, 1])) cok (cts40 F) mixed trivial (by kernel_rfl) (by kernel_rfl) (fun x y s => (s.1, s.2, ())) (fun x y s => ()) (fun x y => rfl) (fun x y => rfl) (fun x y s kA kO => L40_2c F s.1 s.2 kA kO) (fun x y s kA kO => L40_2n F s.1 s.2 kA kO) (le40_2 F)
def T40c (F : Nat) (p0 : UInt64) {β : Type} (k : Int → Option β) : Option β :=
  (Option.bind (iter (fun s => L40_2 F s.1 s.2) F (p0, (1 : Int))) fun z6 => (k z6))
def T40 (F : Nat) (p0 : UInt64) : Option (Int) := T40c F p0 some
theorem T40n (F : Nat) (p0 : UInt64) {β : Type} (k : Int → Option β) : T40c F p0 k = (T40 F p0).bind k := by
  simp only [T40, T40c, Option.bind_assoc, cond_bind, Option.bind_some, elimS_bind]
@[reducible] def cA40 : List Sh := [.u64]
@[reducible] def cB40 : List Sh := [.i]
@[reducible] def cT40 : List TSh := []
@[reducible] def cU40 : List TSh := []
def ct40 (F : Nat) : Ct := mkC 0 cA40 cT40 cB40 cU40 (fun x y => T40 F x.1) (fun x y (z : Int) => ((z, ()), ()))
theorem eq40 (F : Nat) (x : dens cA40) (y : tdens cT40) : sev (E40 F) 0 [([0, 1, 1], lc40_2 F)] (bodyOf Tryd.f40) [] (mkSt (rng 1) cA40 cT40 x y) (kFn (E40 F) 0 Tryd.f40.results.toList cB40 cU40 fun p q => some (p, q)) =
    T40c F x.1 (fun z => some ((z, ()), ())) := by kernel_rfl
theorem ok40 (F : Nat) : Sound Tryd.prog cfg 40 (ct40 F) :=
  mkC_ok (E := E40 F) (lp := [([0, 1, 1], lc40_2 F)]) (code := bodyOf Tryd.f40) Tryd.func40 rfl Tryd.ntmps40 rfl rfl cok (cts40 F) mixed ⟨lo40_2 F, trivial⟩ (by kernel_rfl) (fun x y k => T40c F x.1 k) (fun x y k => T40n F x.1 k) (eq40 F)
end Go.Proofs.YtjghgfohpihhfaaDoor
/- kinkeep/seal.classes: its twin, and that the call does what the twin says. Printed by a program. -/
namespace Go.Proofs.YtjghgfohpihhfaaDoor
open Go.Tw
set_option linter.unusedSimpArgs false
set_option linter.unusedVariables false
def ord41 : Nat → List (Tag × Nat)
  | _ => []
def al41 : Nat → Option Nat
  | _ => none
def E41 (F : Nat) : Ev := ⟨cfg, 4, ctOf [], ord41, ctOf [], al41⟩
theorem cts41 (F : Nat) : CtsOk Tryd.prog (E41 F) := cts_of (l := []) (l' := []) rfl rfl trivial trivial
def T41c (F : Nat) {β : Type} (k : (Int × Int) → Option β) : Option β :=
  (k ((1 : Int), (0 : Int)))
def T41 (F : Nat) : Option (Int × Int) := T41c F some
theorem T41n (F : Nat) {β : Type} (k : (Int × Int) → Option β) : T41c F k = (T41 F).bind k := by
  simp only [T41, T41c, Option.bind_assoc, cond_bind, Option.bind_some, elimS_bind]
@[reducible] def cA41 : List Sh := []
@[reducible] def cB41 : List Sh := [(.fn 59 .un (.pr (.pt 0 []) (.pr (.pt 1 []) .un)))]
@[reducible] def cT41 : List TSh := []
@[reducible] def cU41 : List TSh := [.blk 3 .i, .blk 3 .i]
def ct41 (F : Nat) : Ct := mkC 0 cA41 cT41 cB41 cU41 (fun x y => T41 F) (fun x y (z : Int × Int) => ((((), ((), (), ())), ()), (z.1, z.2, ())))
theorem eq41 (F : Nat) (x : dens cA41) (y : tdens cT41) : sev (E41 F) 0 [] (bodyOf Tryd.f41) [] (mkSt (rng 0) cA41 cT41 x y) (kFn (E41 F) 0 Tryd.f41.results.toList cB41 cU41 fun p q => some (p, q)) =
    T41c F (fun z => some ((((), ((), (), ())), ()), (z.1, z.2, ()))) := by kernel_rfl
theorem ok41 (F : Nat) : Sound Tryd.prog cfg 41 (ct41 F) :=
  mkC_ok (E := E41 F) (lp := []) (code := bodyOf Tryd.f41) Tryd.func41 rfl Tryd.ntmps41 rfl rfl cok (cts41 F) mixed trivial (by kernel_rfl) (fun x y k => T41c F k) (fun x y k => T41n F k) (eq41 F)
end Go.Proofs.YtjghgfohpihhfaaDoor
/- kinkeep/seal.classes$1: its twin, and that the call does what the twin says. Printed by a program. -/
namespace Go.Proofs.YtjghgfohpihhfaaDoor
open Go.Tw
set_option linter.unusedSimpArgs false
set_option linter.unusedVariables false
def ord59 : Nat → List (Tag × Nat)
  | _ => []
def al59 : Nat → Option Nat
  | _ => none
def E59 (F : Nat) : Ev := ⟨cfg, 16, ctOf [], ord59, ctOf [], al59⟩
theorem cts59 (F : Nat) : CtsOk Tryd.prog (E59 F) := cts_of (l := []) (l' := []) rfl rfl trivial trivial
def T59c (F : Nat) (p0 : Int) (p1 : Int) {β : Type} (k : (Int × Int × Int) → Option β) : Option β :=
  (bif ((w64 (p1 + (1 : Int))) == (4 : Int)) then (k ((w64 (p0 * (w64 ((64 : Int) + (w64 ((16 : Int) * p1)))))), (w64 ((2 : Int) * p0)), (0 : Int))) else (k ((w64 (p0 * (w64 ((64 : Int) + (w64 ((16 : Int) * p1)))))), p0, (w64 (p1 + (1 : Int))))))
def T59 (F : Nat) (p0 : Int) (p1 : Int) : Option (Int × Int × Int) := T59c F p0 p1 some
theorem T59n (F : Nat) (p0 : Int) (p1 : Int) {β : Type} (k : (Int × Int × Int) → Option β) : T59c F p0 p1 k = (T59 F p0 p1).bind k := by
  simp only [T59, T59c, Option.bind_assoc, cond_bind, Option.bind_some, elimS_bind]
@[reducible] def cA59 : List Sh := [(.pt 0 []), (.pt 1 [])]
@[reducible] def cB59 : List Sh := [.i]
@[reducible] def cT59 : List TSh := [.blk 3 .i, .blk 3 .i]
@[reducible] def cU59 : List TSh := [.blk 3 .i, .blk 3 .i]
def ct59 (F : Nat) : Ct := mkC 2 cA59 cT59 cB59 cU59 (fun x y => T59 F y.1 y.2.1) (fun x y (z : Int × Int × Int) => ((z.1, ()), (z.2.1, z.2.2, ())))
theorem eq59 (F : Nat) (x : dens cA59) (y : tdens cT59) : sev (E59 F) 2 [] (bodyOf Tryd.f59) [] (mkSt (rng 2) cA59 cT59 x y) (kFn (E59 F) 2 Tryd.f59.results.toList cB59 cU59 fun p q => some (p, q)) =
    T59c F y.1 y.2.1 (fun z => some ((z.1, ()), (z.2.1, z.2.2, ()))) := by kernel_rfl
theorem ok59 (F : Nat) : Sound Tryd.prog cfg 59 (ct59 F) :=
  mkC_ok (E := E59 F) (lp := []) (code := bodyOf Tryd.f59) Tryd.func59 rfl Tryd.ntmps59 rfl rfl cok (cts59 F) mixed trivial (by kernel_rfl) (fun x y k => T59c F y.1 y.2.1 k) (fun x y k => T59n F y.1 y.2.1 k) (eq59 F)
end Go.Proofs.YtjghgfohpihhfaaDoor
/- kinkeep/seal.Class: its twin, and that the call does what the twin says. Printed by a program. -/
namespace Go.Proofs.YtjghgfohpihhfaaDoor
open Go.Tw
set_option linter.unusedSimpArgs false
set_option linter.unusedVariables false
def ord14 : Nat → List (Tag × Nat)
  | _ => []
def al14 : Nat → Option Nat
  | _ => none
def E14 (F : Nat) : Ev := ⟨cfg, 26, ctOf [(40, ct40 F), (41, ct41 F), (59, ct59 F)], ord14, ctOf [], al14⟩
theorem cts14 (F : Nat) : CtsOk Tryd.prog (E14 F) := cts_of (l := [(40, ct40 F), (41, ct41 F), (59, ct59 F)]) (l' := []) rfl rfl ⟨⟨ok40 F, _, Tryd.func40, rfl, rfl⟩, ⟨⟨ok41 F, _, Tryd.func41, rfl, rfl⟩, ⟨⟨ok59 F, _, Tryd.func59, rfl, rfl⟩, trivial⟩⟩⟩ trivial
def L14_2c (F : Nat) (y14 : Int) (y15 : Int) (y16 : Int) (y17 : Int) {β : Type} (kA : (Int × Int × Int) → Option β) (kO : Int → Option β) : Option β :=
  (bif (decide (y15 < y14)) then (Option.bind (T59 F y16 y17) fun z19 => (kA (z19.1, z19.2.1, z19.2.2))) else (kO y15))
def L14_2 (F : Nat) (y14 : Int) (y15 : Int) (y16 : Int) (y17 : Int) : Option ((Int × Int × Int) ⊕ (Int)) := L14_2c F y14 y15 y16 y17 (fun s => some (.inl s)) (fun z => some (.inr z))
theorem L14_2n (F : Nat) (y14 : Int) (y15 : Int) (y16 : Int) (y17 : Int) {β : Type} (kA : (Int × Int × Int) → Option β) (kO : Int → Option β) : L14_2c F y14 y15 y16 y17 kA kO = (L14_2 F y14 y15 y16 y17).bind (elimS kA kO) := by
  simp only [L14_2, L14_2c, Option.bind_assoc, cond_bind, Option.bind_some, elimS_l, elimS_r, elimS_bind]
@[reducible] def sA14_2 : List Sh := [.i, (.fn 59 .un (.pr (.pt 0 []) (.pr (.pt 1 []) .un))), .i]
@[reducible] def sA114_2 : List Sh := [.i]
@[reducible] def sT14_2 : List TSh := [.blk 3 .i, .blk 3 .i]
@[reducible] def sT114_2 : List TSh := []
def lc14_2 (F : Nat) : Lc := mkL [4, 5, 6] sA14_2 sT14_2 [6] sA114_2 sT114_2 F (fun x y (s : Int × Int × Int) => L14_2 F x.1 s.1 s.2.1 s.2.2) (fun x y => (x.2.2.1, y.1, y.2.1)) (fun x y (z : Int) => ((z, ()), ()))
theorem le14_2 (F : Nat) (x : dens sA14_2) (y : tdens sT14_2) (s : Int × Int × Int) : sev (E14 F) 0 [] (cAt (bodyOf Tryd.f14) (0 :: 0 :: [0, 1, 1, 1, 1, 1, 1])) (0 :: 0 :: [0, 1, 1, 1, 1, 1, 1]) (mkSt [4, 5, 6] sA14_2 sT14_2 (x.1, ((), ((), (), ())), s.1, ()) (s.2.1, s.2.2, ())) (kLoop 0 [4, 5, 6] sA14_2 sT14_2 [6] sA114_2 sT114_2 [] [] [] 0 (fun x y => some (.inl (x, y))) (fun x y => some (.inr (.inl (x, y)))) (fun x y => some (.inr (.inr (x, y))))) =
    L14_2c (β := Full sA14_2 sT14_2 sA114_2 sT114_2 [] []) F x.1 s.1 s.2.1 s.2.2 (fun s => some (.inl ((x.1, ((), ((), (), ())), s.1, ()), (s.2.1, s.2.2, ())))) (fun z => some (.inr (.inl ((z, ()), ())))) := by kernel_rfl
theorem lo14_2 (F : Nat) : LcOk Tryd.prog (E14 F) 0 (lc14_2 F) (cAt (bodyOf Tryd.f14) [0, 1, 1, 1, 1, 1, 1]) :=
  mkL_ok (lp := []) (id := 0) (b := cAt (bodyOf Tryd.f14) (0 :: 0 :: [0, 1, 1, 1, 1, 1, 1])) cok (cts14 F) mixed trivial (by kernel_rfl) (by kernel_rfl) (fun x y s => (x.1, ((), ((), (), ())), s.1, ())) (fun x y s => (s.2.1, s.2.2, ())) (fun x y => rfl) (fun x y => rfl) (fun x y s kA kO => L14_2c F x.1 s.1 s.2.1 s.2.2 kA kO) (fun x y s kA kO => L14_2n F x.1 s.1 s.2.1 s.2.2 kA kO) (le14_2 F)
def T14c (F : Nat) (p0 : Int) {β : Type} (k : (Int × Int) → Option β) : Option β :=
  (bif (decide (p0 < (0 : Int))) then (k ((0 : Int), (1 : Int))) else (bif (decide ((32768 : Int) < p0)) then (k ((0 : Int), (2 : Int))) else (Option.bind (T40 F (UInt64.ofInt p0)) fun z11 => (Option.bind (T41 F) fun z12 => (Option.bind (T59 F z12.1 z12.2) fun z13 => (Option.bind (iter (fun s => L14_2 F (w64 ((w64 (z11 + p0)) + (16 : Int))) s.1 s.2.1 s.2.2) F (z13.1, z13.2.1, z13.2.2)) fun z20 => (k (z20, (0 : Int)))))))))
def T14 (F : Nat) (p0 : Int) : Option (Int × Int) := T14c F p0 some
theorem T14n (F : Nat) (p0 : Int) {β : Type} (k : (Int × Int) → Option β) : T14c F p0 k = (T14 F p0).bind k := by
  simp only [T14, T14c, Option.bind_assoc, cond_bind, Option.bind_some, elimS_bind]
@[reducible] def cA14 : List Sh := [.i]
@[reducible] def cB14 : List Sh := [.i, .i]
@[reducible] def cT14 : List TSh := []
@[reducible] def cU14 : List TSh := []
def ct14 (F : Nat) : Ct := mkC 0 cA14 cT14 cB14 cU14 (fun x y => T14 F x.1) (fun x y (z : Int × Int) => ((z.1, z.2, ()), ()))
theorem eq14 (F : Nat) (x : dens cA14) (y : tdens cT14) : sev (E14 F) 0 [([0, 1, 1, 1, 1, 1, 1], lc14_2 F)] (bodyOf Tryd.f14) [] (mkSt (rng 1) cA14 cT14 x y) (kFn (E14 F) 0 Tryd.f14.results.toList cB14 cU14 fun p q => some (p, q)) =
    T14c F x.1 (fun z => some ((z.1, z.2, ()), ())) := by kernel_rfl
theorem ok14 (F : Nat) : Sound Tryd.prog cfg 14 (ct14 F) :=
  mkC_ok (E := E14 F) (lp := [([0, 1, 1, 1, 1, 1, 1], lc14_2 F)]) (code := bodyOf Tryd.f14) Tryd.func14 rfl Tryd.ntmps14 rfl rfl cok (cts14 F) mixed ⟨lo14_2 F, trivial⟩ (by kernel_rfl) (fun x y k => T14c F x.1 k) (fun x y k => T14n F x.1 k) (eq14 F)
end Go.Proofs.YtjghgfohpihhfaaDoor
/- kinkeep/kinkeeplaw11.keys$1: its twin, and that the call does what the twin says. Printed by a program. -/
namespace Go.Proofs.YtjghgfohpihhfaaDoor
open Go.Tw
set_option linter.unusedSimpArgs false
set_option linter.unusedVariables false
def ord56 : Nat → List (Tag × Nat)
  | _ => []
def al56 : Nat → Option Nat
  | _ => none
def E56 (F : Nat) : Ev := ⟨cfg, 14, ctOf [], ord56, ctOf [], al56⟩
theorem cts56 (F : Nat) : CtsOk Tryd.prog (E56 F) := cts_of (l := []) (l' := []) rfl rfl trivial trivial
def T56c (F : Nat) (p0 : UInt8) (p1 : UInt8) {β : Type} (k : ((List UInt8)) → Option β) : Option β :=
  (Option.bind (gmake (0 : UInt8) (32 : Int) (32 : Int)) fun x4 => (Option.bind (inb x4.length (0 : Int)) fun x5 => (Option.bind (inb (List.set x4 x5 p1).length (1 : Int)) fun x6 => (k (List.set (List.set x4 x5 p1) x6 p0)))))
def T56 (F : Nat) (p0 : UInt8) (p1 : UInt8) : Option ((List UInt8)) := T56c F p0 p1 some
theorem T56n (F : Nat) (p0 : UInt8) (p1 : UInt8) {β : Type} (k : ((List UInt8)) → Option β) : T56c F p0 p1 k = (T56 F p0 p1).bind k := by
  simp only [T56, T56c, Option.bind_assoc, cond_bind, Option.bind_some, elimS_bind]
@[reducible] def cA56 : List Sh := [.u8, (.re .u8)]
@[reducible] def cB56 : List Sh := [.str]
@[reducible] def cT56 : List TSh := []
@[reducible] def cU56 : List TSh := []
def ct56 (F : Nat) : Ct := mkC 0 cA56 cT56 cB56 cU56 (fun x y => T56 F x.1 x.2.1) (fun x y (z : (List UInt8)) => ((z, ()), ()))
theorem eq56 (F : Nat) (x : dens cA56) (y : tdens cT56) : sev (E56 F) 0 [] (bodyOf Tryd.f56) [] (mkSt (rng 2) cA56 cT56 x y) (kFn (E56 F) 0 Tryd.f56.results.toList cB56 cU56 fun p q => some (p, q)) =
    T56c F x.1 x.2.1 (fun z => some ((z, ()), ())) := by kernel_rfl
theorem ok56 (F : Nat) : Sound Tryd.prog cfg 56 (ct56 F) :=
  mkC_ok (E := E56 F) (lp := []) (code := bodyOf Tryd.f56) Tryd.func56 rfl Tryd.ntmps56 rfl rfl cok (cts56 F) mixed trivial (by kernel_rfl) (fun x y k => T56c F x.1 x.2.1 k) (fun x y k => T56n F x.1 x.2.1 k) (eq56 F)
end Go.Proofs.YtjghgfohpihhfaaDoor
/- kinkeep/kinkeeplaw11.keys: its twin, and that the call does what the twin says. Printed by a program. -/
namespace Go.Proofs.YtjghgfohpihhfaaDoor
open Go.Tw
set_option linter.unusedSimpArgs false
set_option linter.unusedVariables false
def ord31 : Nat → List (Tag × Nat)
  | _ => []
def al31 : Nat → Option Nat
  | _ => none
def E31 (F : Nat) : Ev := ⟨cfg, 16, ctOf [(56, ct56 F)], ord31, ctOf [], al31⟩
theorem cts31 (F : Nat) : CtsOk Tryd.prog (E31 F) := cts_of (l := [(56, ct56 F)]) (l' := []) rfl rfl ⟨⟨ok56 F, _, Tryd.func56, rfl, rfl⟩, trivial⟩ trivial
def T31c (F : Nat) (p0 : UInt8) {β : Type} (k : ((List UInt8) × (List UInt8) × (List UInt8) × (List UInt8) × (List UInt8)) → Option β) : Option β :=
  (Option.bind (T56 F (UInt8.ofNat 1) p0) fun z6 => (Option.bind (T56 F (UInt8.ofNat 2) p0) fun z7 => (Option.bind (T56 F (UInt8.ofNat 3) p0) fun z8 => (Option.bind (T56 F (UInt8.ofNat 4) p0) fun z9 => (Option.bind (T56 F (UInt8.ofNat 5) p0) fun z10 => (k (z6, z7, z8, z9, z10)))))))
def T31 (F : Nat) (p0 : UInt8) : Option ((List UInt8) × (List UInt8) × (List UInt8) × (List UInt8) × (List UInt8)) := T31c F p0 some
theorem T31n (F : Nat) (p0 : UInt8) {β : Type} (k : ((List UInt8) × (List UInt8) × (List UInt8) × (List UInt8) × (List UInt8)) → Option β) : T31c F p0 k = (T31 F p0).bind k := by
  simp only [T31, T31c, Option.bind_assoc, cond_bind, Option.bind_some, elimS_bind]
@[reducible] def cA31 : List Sh := [.u8]
@[reducible] def cB31 : List Sh := [(.pr .str (.pr .str (.pr .str (.pr .str (.pr .str .un)))))]
@[reducible] def cT31 : List TSh := []
@[reducible] def cU31 : List TSh := []
def ct31 (F : Nat) : Ct := mkC 0 cA31 cT31 cB31 cU31 (fun x y => T31 F x.1) (fun x y (z : (List UInt8) × (List UInt8) × (List UInt8) × (List UInt8) × (List UInt8)) => (((z.1, z.2.1, z.2.2.1, z.2.2.2.1, z.2.2.2.2, ()), ()), ()))
theorem eq31 (F : Nat) (x : dens cA31) (y : tdens cT31) : sev (E31 F) 0 [] (bodyOf Tryd.f31) [] (mkSt (rng 1) cA31 cT31 x y) (kFn (E31 F) 0 Tryd.f31.results.toList cB31 cU31 fun p q => some (p, q)) =
    T31c F x.1 (fun z => some (((z.1, z.2.1, z.2.2.1, z.2.2.2.1, z.2.2.2.2, ()), ()), ())) := by kernel_rfl
theorem ok31 (F : Nat) : Sound Tryd.prog cfg 31 (ct31 F) :=
  mkC_ok (E := E31 F) (lp := []) (code := bodyOf Tryd.f31) Tryd.func31 rfl Tryd.ntmps31 rfl rfl cok (cts31 F) mixed trivial (by kernel_rfl) (fun x y k => T31c F x.1 k) (fun x y k => T31n F x.1 k) (eq31 F)
end Go.Proofs.YtjghgfohpihhfaaDoor
/- kinkeep/seal.valid: its twin, and that the call does what the twin says. Printed by a program. -/
namespace Go.Proofs.YtjghgfohpihhfaaDoor
open Go.Tw
set_option linter.unusedSimpArgs false
set_option linter.unusedVariables false
def ord50 : Nat → List (Tag × Nat)
  | _ => []
def al50 : Nat → Option Nat
  | _ => none
def E50 (F : Nat) : Ev := ⟨cfg, 25, ctOf [], ord50, ctOf [], al50⟩
theorem cts50 (F : Nat) : CtsOk Tryd.prog (E50 F) := cts_of (l := []) (l' := []) rfl rfl trivial trivial
def L50_2c (F : Nat) (y9 : Int) (y11 : List (List UInt8)) (y10 : Int) {β : Type} (kA : Int → Option β) (kO : Unit → Option β) (kR : Bool → Option β) : Option β :=
  (bif (decide (y10 < y9)) then (Option.bind (inb y11.length y10) fun x14 => (Option.bind (y11[x14]?) fun x15 => (bif ((x15.length : Int) != (32 : Int)) then (kR false) else (kA (w64 (y10 + (1 : Int))))))) else (kO ()))
def L50_2 (F : Nat) (y9 : Int) (y11 : List (List UInt8)) (y10 : Int) : Option ((Int) ⊕ ((Unit) ⊕ (Bool))) := L50_2c F y9 y11 y10 (fun s => some (.inl s)) (fun z => some (.inr (.inl z))) (fun z => some (.inr (.inr z)))
theorem L50_2n (F : Nat) (y9 : Int) (y11 : List (List UInt8)) (y10 : Int) {β : Type} (kA : Int → Option β) (kO : Unit → Option β) (kR : Bool → Option β) : L50_2c F y9 y11 y10 kA kO kR = (L50_2 F y9 y11 y10).bind (elimS kA (elimS kO kR)) := by
  simp only [L50_2, L50_2c, Option.bind_assoc, cond_bind, Option.bind_some, elimS_l, elimS_r, elimS_bind]
@[reducible] def sA50_2 : List Sh := [(.rw 0), .i, .i]
@[reducible] def sA150_2 : List Sh := []
@[reducible] def sA250_2 : List Sh := [.bo]
@[reducible] def sT50_2 : List TSh := [.row 9 .s]
@[reducible] def sT150_2 : List TSh := []
@[reducible] def sT250_2 : List TSh := []
def lc50_2 (F : Nat) : Lc := mkR [15, 16, 17] sA50_2 sT50_2 [] sA150_2 sT150_2 [2] sA250_2 sT250_2 F (fun x y (s : Int) => L50_2 F x.2.1 y.1 s) (fun x y => x.2.2.1) (fun x y (z : Unit) => ((), ())) (fun x y (z : Bool) => ((z, ()), ()))
theorem le50_2 (F : Nat) (x : dens sA50_2) (y : tdens sT50_2) (s : Int) : sev (E50 F) 0 [] (cAt (bodyOf Tryd.f50) (0 :: 0 :: [1, 0, 1])) (0 :: 0 :: [1, 0, 1]) (mkSt [15, 16, 17] sA50_2 sT50_2 ((), x.2.1, s, ()) (y.1, ())) (kLoop 0 [15, 16, 17] sA50_2 sT50_2 [] sA150_2 sT150_2 [2] sA250_2 sT250_2 0 (fun x y => some (.inl (x, y))) (fun x y => some (.inr (.inl (x, y)))) (fun x y => some (.inr (.inr (x, y))))) =
    L50_2c (β := Full sA50_2 sT50_2 sA150_2 sT150_2 sA250_2 sT250_2) F x.2.1 y.1 s (fun s => some (.inl (((), x.2.1, s, ()), (y.1, ())))) (fun z => some (.inr (.inl ((), ())))) (fun z => some (.inr (.inr ((z, ()), ())))) := by kernel_rfl
theorem lo50_2 (F : Nat) : LcOk Tryd.prog (E50 F) 0 (lc50_2 F) (cAt (bodyOf Tryd.f50) [1, 0, 1]) :=
  mkR_ok (lp := []) (id := 0) (b := cAt (bodyOf Tryd.f50) (0 :: 0 :: [1, 0, 1])) cok (cts50 F) mixed trivial (by kernel_rfl) (by kernel_rfl) (fun x y s => ((), x.2.1, s, ())) (fun x y s => (y.1, ())) (fun x y => rfl) (fun x y => rfl) (fun x y s kA kO kR => L50_2c F x.2.1 y.1 s kA kO kR) (fun x y s kA kO kR => L50_2n F x.2.1 y.1 s kA kO kR) (le50_2 F)
def T50c (F : Nat) (p0 : List UInt8) (p1 : List UInt8) (p2 : List UInt8) (p3 : List UInt8) (p4 : List UInt8) {β : Type} (k : Bool → Option β) : Option β :=
  (Option.bind (iter (fun s => L50_2 F (([p0, p1, p2, p3, p4] : List (List UInt8)).length : Int) ([p0, p1, p2, p3, p4] : List (List UInt8)) s) F (0 : Int)) fun z16 => elimS (fun z16 => (k true)) (fun z16 => (k z16)) z16)
def T50 (F : Nat) (p0 : List UInt8) (p1 : List UInt8) (p2 : List UInt8) (p3 : List UInt8) (p4 : List UInt8) : Option (Bool) := T50c F p0 p1 p2 p3 p4 some
theorem T50n (F : Nat) (p0 : List UInt8) (p1 : List UInt8) (p2 : List UInt8) (p3 : List UInt8) (p4 : List UInt8) {β : Type} (k : Bool → Option β) : T50c F p0 p1 p2 p3 p4 k = (T50 F p0 p1 p2 p3 p4).bind k := by
  simp only [T50, T50c, Option.bind_assoc, cond_bind, Option.bind_some, elimS_bind]
@[reducible] def cA50 : List Sh := [(.pr .str (.pr .str (.pr .str (.pr .str (.pr .str .un)))))]
@[reducible] def cB50 : List Sh := [.bo]
@[reducible] def cT50 : List TSh := []
@[reducible] def cU50 : List TSh := []
def ct50 (F : Nat) : Ct := mkC 0 cA50 cT50 cB50 cU50 (fun x y => T50 F x.1.1 x.1.2.1 x.1.2.2.1 x.1.2.2.2.1 x.1.2.2.2.2.1) (fun x y (z : Bool) => ((z, ()), ()))
theorem eq50 (F : Nat) (x : dens cA50) (y : tdens cT50) : sev (E50 F) 0 [([1, 0, 1], lc50_2 F)] (bodyOf Tryd.f50) [] (mkSt (rng 1) cA50 cT50 x y) (kFn (E50 F) 0 Tryd.f50.results.toList cB50 cU50 fun p q => some (p, q)) =
    T50c F x.1.1 x.1.2.1 x.1.2.2.1 x.1.2.2.2.1 x.1.2.2.2.2.1 (fun z => some ((z, ()), ())) := by kernel_rfl
theorem ok50 (F : Nat) : Sound Tryd.prog cfg 50 (ct50 F) :=
  mkC_ok (E := E50 F) (lp := [([1, 0, 1], lc50_2 F)]) (code := bodyOf Tryd.f50) Tryd.func50 rfl Tryd.ntmps50 rfl rfl cok (cts50 F) mixed ⟨lo50_2 F, trivial⟩ (by kernel_rfl) (fun x y k => T50c F x.1.1 x.1.2.1 x.1.2.2.1 x.1.2.2.2.1 x.1.2.2.2.2.1 k) (fun x y k => T50n F x.1.1 x.1.2.1 x.1.2.2.1 x.1.2.2.2.1 x.1.2.2.2.2.1 k) (eq50 F)
end Go.Proofs.YtjghgfohpihhfaaDoor
/- kinkeep/wire.extend: its twin, and that the call does what the twin says. Printed by a program. -/
namespace Go.Proofs.YtjghgfohpihhfaaDoor
open Go.Tw
set_option linter.unusedSimpArgs false
set_option linter.unusedVariables false
def ord60 : Nat → List (Tag × Nat)
  | _ => []
def al60 : Nat → Option Nat
  | _ => none
def E60 (F : Nat) : Ev := ⟨cfg, 20, ctOf [], ord60, ctOf [], al60⟩
theorem cts60 (F : Nat) : CtsOk Tryd.prog (E60 F) := cts_of (l := []) (l' := []) rfl rfl trivial trivial
def L60_2c (F : Nat) (y7 : UInt64) (y8 : List UInt8) {β : Type} (kA : (UInt64 × (List UInt8)) → Option β) (kO : (UInt64 × (List UInt8)) → Option β) : Option β :=
  (bif (decide ((UInt64.ofNat 128) ≤ y7)) then (Option.bind (gapp y8 ([((y7.toUInt8) ||| (UInt8.ofNat 128))] : List UInt8)) fun x10 => (kA ((shr64 y7 ((UInt64.ofNat 7).toNat)), x10))) else (kO (y7, y8)))
def L60_2 (F : Nat) (y7 : UInt64) (y8 : List UInt8) : Option ((UInt64 × (List UInt8)) ⊕ (UInt64 × (List UInt8))) := L60_2c F y7 y8 (fun s => some (.inl s)) (fun z => some (.inr z))
theorem L60_2n (F : Nat) (y7 : UInt64) (y8 : List UInt8) {β : Type} (kA : (UInt64 × (List UInt8)) → Option β) (kO : (UInt64 × (List UInt8)) → Option β) : L60_2c F y7 y8 kA kO = (L60_2 F y7 y8).bind (elimS kA kO) := by
  simp only [L60_2, L60_2c, Option.bind_assoc, cond_bind, Option.bind_some, elimS_l, elimS_r, elimS_bind]
@[reducible] def sA60_2 : List Sh := [(.rw 0), .u64]
@[reducible] def sA160_2 : List Sh := [(.rw 0), .u64]
@[reducible] def sT60_2 : List TSh := [.row 5 .u8]
@[reducible] def sT160_2 : List TSh := [.row 5 .u8]
def lc60_2 (F : Nat) : Lc := mkL [0, 1] sA60_2 sT60_2 [0, 1] sA160_2 sT160_2 F (fun x y (s : UInt64 × (List UInt8)) => L60_2 F s.1 s.2) (fun x y => (x.2.1, y.1)) (fun x y (z : UInt64 × (List UInt8)) => (((), z.1, ()), (z.2, ())))
theorem le60_2 (F : Nat) (x : dens sA60_2) (y : tdens sT60_2) (s : UInt64 × (List UInt8)) : sev (E60 F) 0 [] (cAt (bodyOf Tryd.f60) (0 :: 0 :: [0, 1])) (0 :: 0 :: [0, 1]) (mkSt [0, 1] sA60_2 sT60_2 ((), s.1, ()) (s.2, ())) (kLoop 0 [0, 1] sA60_2 sT60_2 [0, 1] sA160_2 sT160_2 [] [] [] 0 (fun x y => some (.inl (x, y))) (fun x y => some (.inr (.inl (x, y)))) (fun x y => some (.inr (.inr (x, y))))) =
    L60_2c (β := Full sA60_2 sT60_2 sA160_2 sT160_2 [] []) F s.1 s.2 (fun s => some (.inl (((), s.1, ()), (s.2, ())))) (fun z => some (.inr (.inl (((), z.1, ()), (z.2, ()))))) := by kernel_rfl
theorem lo60_2 (F : Nat) : LcOk Tryd.prog (E60 F) 0 (lc60_2 F) (cAt (bodyOf Tryd.f60) [0, 1]) :=
  mkL_ok (lp := []) (id := 0) (b := cAt (bodyOf Tryd.f60) (0 :: 0 :: [0, 1])) cok (cts60 F) mixed trivial (by kernel_rfl) (by kernel_rfl) (fun x y s => ((), s.1, ())) (fun x y s => (s.2, ())) (fun x y => rfl) (fun x y => rfl) (fun x y s kA kO => L60_2c F s.1 s.2 kA kO) (fun x y s kA kO => L60_2n F s.1 s.2 kA kO) (le60_2 F)
def T60c (F : Nat) (p0 : UInt64) (p1 : List UInt8) {β : Type} (k : ((List UInt8)) → Option β) : Option β :=
  (Option.bind (iter (fun s => L60_2 F s.1 s.2) F (p0, p1)) fun z11 => (Option.bind (gapp z11.2 ([(z11.1.toUInt8)] : List UInt8)) fun x12 => (k x12)))
def T60 (F : Nat) (p0 : UInt64) (p1 : List UInt8) : Option ((List UInt8)) := T60c F p0 p1 some
theorem T60n (F : Nat) (p0 : UInt64) (p1 : List UInt8) {β : Type} (k : ((List UInt8)) → Option β) : T60c F p0 p1 k = (T60 F p0 p1).bind k := by
  simp only [T60, T60c, Option.bind_assoc, cond_bind, Option.bind_some, elimS_bind]
@[reducible] def cA60 : List Sh := [(.rw 0), .u64]
@[reducible] def cB60 : List Sh := [(.rw 0)]
@[reducible] def cT60 : List TSh := [.row 5 .u8]
@[reducible] def cU60 : List TSh := [.row 5 .u8]
def ct60 (F : Nat) : Ct := mkC 0 cA60 cT60 cB60 cU60 (fun x y => T60 F x.2.1 y.1) (fun x y (z : (List UInt8)) => (((), ()), (z, ())))
theorem eq60 (F : Nat) (x : dens cA60) (y : tdens cT60) : sev (E60 F) 0 [([0, 1], lc60_2 F)] (bodyOf Tryd.f60) [] (mkSt (rng 2) cA60 cT60 x y) (kFn (E60 F) 0 Tryd.f60.results.toList cB60 cU60 fun p q => some (p, q)) =
    T60c F x.2.1 y.1 (fun z => some (((), ()), (z, ()))) := by kernel_rfl
theorem ok60 (F : Nat) : Sound Tryd.prog cfg 60 (ct60 F) :=
  mkC_ok (E := E60 F) (lp := [([0, 1], lc60_2 F)]) (code := bodyOf Tryd.f60) Tryd.func60 rfl Tryd.ntmps60 rfl rfl cok (cts60 F) mixed ⟨lo60_2 F, trivial⟩ (by kernel_rfl) (fun x y k => T60c F x.2.1 y.1 k) (fun x y k => T60n F x.2.1 y.1 k) (eq60 F)
end Go.Proofs.YtjghgfohpihhfaaDoor
/- kinkeep/wire.AppendUint: its twin, and that the call does what the twin says. Printed by a program. -/
namespace Go.Proofs.YtjghgfohpihhfaaDoor
open Go.Tw
set_option linter.unusedSimpArgs false
set_option linter.unusedVariables false
def ord44 : Nat → List (Tag × Nat)
  | _ => []
def al44 : Nat → Option Nat
  | _ => none
def E44 (F : Nat) : Ev := ⟨cfg, 13, ctOf [(60, ct60 F)], ord44, ctOf [], al44⟩
theorem cts44 (F : Nat) : CtsOk Tryd.prog (E44 F) := cts_of (l := [(60, ct60 F)]) (l' := []) rfl rfl ⟨⟨ok60 F, _, Tryd.func60, rfl, rfl⟩, trivial⟩ trivial
def T44c (F : Nat) (p0 : List UInt8) (p1 : UInt64) {β : Type} (k : ((List UInt8)) → Option β) : Option β :=
  (Option.bind (gmake (0 : UInt8) (0 : Int) (w64 ((p0.length : Int) + (10 : Int)))) fun x4 => (Option.bind (gapp x4 p0) fun x5 => (Option.bind (T60 F p1 x5) fun z6 => (k z6))))
def T44 (F : Nat) (p0 : List UInt8) (p1 : UInt64) : Option ((List UInt8)) := T44c F p0 p1 some
theorem T44n (F : Nat) (p0 : List UInt8) (p1 : UInt64) {β : Type} (k : ((List UInt8)) → Option β) : T44c F p0 p1 k = (T44 F p0 p1).bind k := by
  simp only [T44, T44c, Option.bind_assoc, cond_bind, Option.bind_some, elimS_bind]
@[reducible] def cA44 : List Sh := [(.ro .u8), .u64]
@[reducible] def cB44 : List Sh := [(.rw 0)]
@[reducible] def cT44 : List TSh := []
@[reducible] def cU44 : List TSh := [.row 5 .u8]
def ct44 (F : Nat) : Ct := mkC 0 cA44 cT44 cB44 cU44 (fun x y => T44 F x.1 x.2.1) (fun x y (z : (List UInt8)) => (((), ()), (z, ())))
theorem eq44 (F : Nat) (x : dens cA44) (y : tdens cT44) : sev (E44 F) 0 [] (bodyOf Tryd.f44) [] (mkSt (rng 2) cA44 cT44 x y) (kFn (E44 F) 0 Tryd.f44.results.toList cB44 cU44 fun p q => some (p, q)) =
    T44c F x.1 x.2.1 (fun z => some (((), ()), (z, ()))) := by kernel_rfl
theorem ok44 (F : Nat) : Sound Tryd.prog cfg 44 (ct44 F) :=
  mkC_ok (E := E44 F) (lp := []) (code := bodyOf Tryd.f44) Tryd.func44 rfl Tryd.ntmps44 rfl rfl cok (cts44 F) mixed trivial (by kernel_rfl) (fun x y k => T44c F x.1 x.2.1 k) (fun x y k => T44n F x.1 x.2.1 k) (eq44 F)
end Go.Proofs.YtjghgfohpihhfaaDoor
/- kinkeep/sha256.New: its twin, and that the call does what the twin says. Printed by a program. -/
namespace Go.Proofs.YtjghgfohpihhfaaDoor
open Go.Tw
set_option linter.unusedSimpArgs false
set_option linter.unusedVariables false
def ord81 : Nat → List (Tag × Nat)
  | _ => []
def al81 : Nat → Option Nat
  | _ => none
def E81 (F : Nat) : Ev := ⟨cfg, 4, ctOf [], ord81, ctOf [], al81⟩
theorem cts81 (F : Nat) : CtsOk Tryd.prog (E81 F) := cts_of (l := []) (l' := []) rfl rfl trivial trivial
def T81c (F : Nat) {β : Type} (k : ((Vector UInt32 8) × (Vector UInt8 64) × Int) → Option β) : Option β :=
  (k ((gv1), (Vector.replicate 64 (0 : UInt8)), (0 : Int)))
def T81 (F : Nat) : Option ((Vector UInt32 8) × (Vector UInt8 64) × Int) := T81c F some
theorem T81n (F : Nat) {β : Type} (k : ((Vector UInt32 8) × (Vector UInt8 64) × Int) → Option β) : T81c F k = (T81 F).bind k := by
  simp only [T81, T81c, Option.bind_assoc, cond_bind, Option.bind_some, elimS_bind]
@[reducible] def cA81 : List Sh := []
@[reducible] def cB81 : List Sh := [(.pt 0 [])]
@[reducible] def cT81 : List TSh := []
@[reducible] def cU81 : List TSh := [.blk 105 (.pr (.ar 8 .u32) (.pr (.ar 64 .u8) (.pr .i .un)))]
def ct81 (F : Nat) : Ct := mkC 0 cA81 cT81 cB81 cU81 (fun x y => T81 F) (fun x y (z : (Vector UInt32 8) × (Vector UInt8 64) × Int) => (((), ()), ((z.1, z.2.1, z.2.2, ()), ())))
theorem eq81 (F : Nat) (x : dens cA81) (y : tdens cT81) : sev (E81 F) 0 [] (bodyOf Tryd.f81) [] (mkSt (rng 0) cA81 cT81 x y) (kFn (E81 F) 0 Tryd.f81.results.toList cB81 cU81 fun p q => some (p, q)) =
    T81c F (fun z => some (((), ()), ((z.1, z.2.1, z.2.2, ()), ()))) := by kernel_rfl
theorem ok81 (F : Nat) : Sound Tryd.prog cfg 81 (ct81 F) :=
  mkC_ok (E := E81 F) (lp := []) (code := bodyOf Tryd.f81) Tryd.func81 rfl Tryd.ntmps81 rfl rfl cok (cts81 F) mixed trivial (by kernel_rfl) (fun x y k => T81c F k) (fun x y k => T81n F k) (eq81 F)
end Go.Proofs.YtjghgfohpihhfaaDoor
/- math/bits.RotateLeft32: its twin, and that the call does what the twin says. Printed by a program. -/
namespace Go.Proofs.YtjghgfohpihhfaaDoor
open Go.Tw
set_option linter.unusedSimpArgs false
set_option linter.unusedVariables false
def ord94 : Nat → List (Tag × Nat)
  | _ => []
def al94 : Nat → Option Nat
  | _ => none
def E94 (F : Nat) : Ev := ⟨cfg, 17, ctOf [], ord94, ctOf [], al94⟩
theorem cts94 (F : Nat) : CtsOk Tryd.prog (E94 F) := cts_of (l := []) (l' := []) rfl rfl trivial trivial
def T94c (F : Nat) (p0 : UInt32) (p1 : Int) {β : Type} (k : UInt32 → Option β) : Option β :=
  (k ((shl32 p0 (((UInt64.ofInt p1) &&& (UInt64.ofNat 31)).toNat)) ||| (shr32 p0 (((UInt64.ofNat 32) - ((UInt64.ofInt p1) &&& (UInt64.ofNat 31))).toNat))))
def T94 (F : Nat) (p0 : UInt32) (p1 : Int) : Option (UInt32) := T94c F p0 p1 some
theorem T94n (F : Nat) (p0 : UInt32) (p1 : Int) {β : Type} (k : UInt32 → Option β) : T94c F p0 p1 k = (T94 F p0 p1).bind k := by
  simp only [T94, T94c, Option.bind_assoc, cond_bind, Option.bind_some, elimS_bind]
@[reducible] def cA94 : List Sh := [.u32, .i]
@[reducible] def cB94 : List Sh := [.u32]
@[reducible] def cT94 : List TSh := []
@[reducible] def cU94 : List TSh := []
def ct94 (F : Nat) : Ct := mkC 0 cA94 cT94 cB94 cU94 (fun x y => T94 F x.1 x.2.1) (fun x y (z : UInt32) => ((z, ()), ()))
theorem eq94 (F : Nat) (x : dens cA94) (y : tdens cT94) : sev (E94 F) 0 [] (bodyOf Tryd.f94) [] (mkSt (rng 2) cA94 cT94 x y) (kFn (E94 F) 0 Tryd.f94.results.toList cB94 cU94 fun p q => some (p, q)) =
    T94c F x.1 x.2.1 (fun z => some ((z, ()), ())) := by kernel_rfl
theorem ok94 (F : Nat) : Sound Tryd.prog cfg 94 (ct94 F) :=
  mkC_ok (E := E94 F) (lp := []) (code := bodyOf Tryd.f94) Tryd.func94 rfl Tryd.ntmps94 rfl rfl cok (cts94 F) mixed trivial (by kernel_rfl) (fun x y k => T94c F x.1 x.2.1 k) (fun x y k => T94n F x.1 x.2.1 k) (eq94 F)
end Go.Proofs.YtjghgfohpihhfaaDoor
/- (*kinkeep/sha256.State).process: its twin, and that the call does what the twin says. Printed by a program. -/
namespace Go.Proofs.YtjghgfohpihhfaaDoor
open Go.Tw
set_option linter.unusedSimpArgs false
set_option linter.unusedVariables false
def ord91 : Nat → List (Tag × Nat)
  | 6 => [(.p, 0), (.p, 1), (.p, 2), (.r, 3), (.p, 4), (.p, 5), (.p, 6), (.p, 7), (.r, 8), (.p, 9), (.p, 10), (.p, 11), (.p, 12), (.p, 13), (.r, 14), (.p, 15), (.p, 16), (.p, 17), (.p, 18), (.p, 19), (.r, 20), (.p, 21), (.p, 22), (.p, 23), (.w, 24)]
  | 7 => [(.p, 0), (.p, 1), (.p, 2), (.r, 3), (.p, 4), (.p, 5), (.p, 6), (.r, 7), (.p, 8), (.p, 9)]
  | 10 => [(.p, 0), (.p, 1), (.p, 2), (.p, 3), (.p, 4), (.r, 5), (.p, 6), (.p, 7), (.p, 8), (.p, 9), (.p, 10), (.p, 11), (.r, 12), (.p, 13), (.p, 14), (.w, 15)]
  | 13 => [(.p, 0), (.r, 1), (.p, 2), (.r, 3), (.p, 4), (.r, 5), (.p, 6), (.r, 7), (.p, 8), (.r, 9), (.p, 10), (.r, 11), (.p, 12), (.r, 13), (.p, 14), (.r, 15), (.p, 16), (.p, 17), (.p, 18), (.p, 19), (.p, 20), (.p, 21), (.p, 22), (.p, 23)]
  | 19 => [(.p, 0), (.p, 1), (.p, 2), (.p, 3), (.p, 4), (.p, 5), (.p, 6), (.p, 7), (.p, 8), (.p, 9), (.p, 10), (.p, 11), (.p, 12), (.p, 13), (.r, 14), (.p, 15), (.p, 16), (.p, 17), (.r, 18), (.p, 19), (.p, 20)]
  | 26 => [(.p, 0), (.p, 1), (.p, 2), (.p, 3), (.r, 4), (.p, 5), (.p, 6), (.p, 7), (.p, 8), (.p, 9), (.w, 10)]
  | _ => []
def al91 : Nat → Option Nat
  | _ => none
def E91 (F : Nat) : Ev := ⟨cfg, 212, ctOf [(94, ct94 F)], ord91, ctOf [], al91⟩
theorem cts91 (F : Nat) : CtsOk Tryd.prog (E91 F) := cts_of (l := [(94, ct94 F)]) (l' := []) rfl rfl ⟨⟨ok94 F, _, Tryd.func94, rfl, rfl⟩, trivial⟩ trivial
def L91_4c (F : Nat) (y113 : Vector UInt8 64) (y110 : Nat × Nat) (y111 : Int) (y115 : Vector UInt32 64) {β : Type} (kA : ((Nat × Nat) × Int × (Vector UInt32 64)) → Option β) (kO : ((Vector UInt32 64)) → Option β) : Option β :=
  (bif (decide (y111 < (64 : Int))) then (bif (decide (y111 < (16 : Int))) then (Option.bind (gslb (y110.2 - y110.1) (w64 ((4 : Int) * y111)) (w64 ((w64 ((4 : Int) * y111)) + (4 : Int)))) fun x139 => (Option.bind (inb ((y110.1 + x139.2) - (y110.1 + x139.1)) (0 : Int)) fun x140 => (Option.bind (vat y113 ((y110.1 + x139.1) + x140)) fun x141 => (Option.bind (inb ((y110.1 + x139.2) - (y110.1 + x139.1)) (1 : Int)) fun x142 => (Option.bind (vat y113 ((y110.1 + x139.1) + x142)) fun x143 => (Option.bind (inb ((y110.1 + x139.2) - (y110.1 + x139.1)) (2 : Int)) fun x144 => (Option.bind (vat y113 ((y110.1 + x139.1) + x144)) fun x145 => (Option.bind (inb ((y110.1 + x139.2) - (y110.1 + x139.1)) (3 : Int)) fun x146 => (Option.bind (vat y113 ((y110.1 + x139.1) + x146)) fun x147 => (Option.bind (inb 64 y111) fun x148 => (kA ((y110.1, y110.2), (w64 (y111 + (1 : Int))), (Vector.setIfInBounds y115 x148 ((((shl32 (x141.toUInt32) ((UInt64.ofNat 24).toNat)) ||| (shl32 (x143.toUInt32) ((UInt64.ofNat 16).toNat))) ||| (shl32 (x145.toUInt32) ((UInt64.ofNat 8).toNat))) ||| (x147.toUInt32))))))))))))))) else (Option.bind (inb 64 (w64 (y111 - (2 : Int)))) fun x149 => (Option.bind (vat y115 x149) fun x150 => (Option.bind (inb 64 (w64 (y111 - (15 : Int)))) fun x151 => (Option.bind (vat y115 x151) fun x152 => (Option.bind (T94 F x150 (-17 : Int)) fun z153 => (Option.bind (T94 F x150 (-19 : Int)) fun z154 => (Option.bind (T94 F x152 (-7 : Int)) fun z155 => (Option.bind (T94 F x152 (-18 : Int)) fun z156 => (Option.bind (inb 64 (w64 (y111 - (7 : Int)))) fun x157 => (Option.bind (vat y115 x157) fun x158 => (Option.bind (inb 64 (w64 (y111 - (16 : Int)))) fun x159 => (Option.bind (vat y115 x159) fun x160 => (Option.bind (inb 64 y111) fun x161 => (kA ((y110.1, y110.2), (w64 (y111 + (1 : Int))), (Vector.setIfInBounds y115 x161 (((((z153 ^^^ z154) ^^^ (shr32 x150 ((UInt64.ofNat 10).toNat))) + x158) + ((z155 ^^^ z156) ^^^ (shr32 x152 ((UInt64.ofNat 3).toNat)))) + x160)))))))))))))))))) else (kO y115))
def L91_4 (F : Nat) (y113 : Vector UInt8 64) (y110 : Nat × Nat) (y111 : Int) (y115 : Vector UInt32 64) : Option (((Nat × Nat) × Int × (Vector UInt32 64)) ⊕ ((Vector UInt32 64))) := L91_4c F y113 y110 y111 y115 (fun s => some (.inl s)) (fun z => some (.inr z))
theorem L91_4n (F : Nat) (y113 : Vector UInt8 64) (y110 : Nat × Nat) (y111 : Int) (y115 : Vector UInt32 64) {β : Type} (kA : ((Nat × Nat) × Int × (Vector UInt32 64)) → Option β) (kO : ((Vector UInt32 64)) → Option β) : L91_4c F y113 y110 y111 y115 kA kO = (L91_4 F y113 y110 y111 y115).bind (elimS kA kO) := by
  simp only [L91_4, L91_4c, Option.bind_assoc, cond_bind, Option.bind_some, elimS_l, elimS_r, elimS_bind]
@[reducible] def sA91_4 : List Sh := [(.pt 0 []), (.ap 0 [1]), (.pt 1 []), .i]
@[reducible] def sA191_4 : List Sh := [(.pt 0 []), (.pt 1 [])]
@[reducible] def sT91_4 : List TSh := [.blk 105 (.pr (.ar 8 .u32) (.pr (.ar 64 .u8) (.pr .i .un))), .blk 123 (.ar 64 .u32)]
@[reducible] def sT191_4 : List TSh := [.blk 105 (.pr (.ar 8 .u32) (.pr (.ar 64 .u8) (.pr .i .un))), .blk 123 (.ar 64 .u32)]
def lc91_4 (F : Nat) : Lc := mkL [0, 1, 4, 27] sA91_4 sT91_4 [0, 4] sA191_4 sT191_4 F (fun x y (s : (Nat × Nat) × Int × (Vector UInt32 64)) => L91_4 F y.1.2.1 s.1 s.2.1 s.2.2) (fun x y => (x.2.1, x.2.2.2.1, y.2.1)) (fun x y (z : (Vector UInt32 64)) => (((), (), ()), ((y.1.1, y.1.2.1, y.1.2.2.1, ()), z, ())))
theorem le91_4 (F : Nat) (x : dens sA91_4) (y : tdens sT91_4) (s : (Nat × Nat) × Int × (Vector UInt32 64)) : sev (E91 F) 1 [] (cAt (bodyOf Tryd.f91) (0 :: 0 :: [1, 0, 1])) (0 :: 0 :: [1, 0, 1]) (mkSt [0, 1, 4, 27] sA91_4 sT91_4 ((), s.1, (), s.2.1, ()) ((y.1.1, y.1.2.1, y.1.2.2.1, ()), s.2.2, ())) (kLoop 1 [0, 1, 4, 27] sA91_4 sT91_4 [0, 4] sA191_4 sT191_4 [] [] [] 0 (fun x y => some (.inl (x, y))) (fun x y => some (.inr (.inl (x, y)))) (fun x y => some (.inr (.inr (x, y))))) =
    L91_4c (β := Full sA91_4 sT91_4 sA191_4 sT191_4 [] []) F y.1.2.1 s.1 s.2.1 s.2.2 (fun s => some (.inl (((), s.1, (), s.2.1, ()), ((y.1.1, y.1.2.1, y.1.2.2.1, ()), s.2.2, ())))) (fun z => some (.inr (.inl (((), (), ()), ((y.1.1, y.1.2.1, y.1.2.2.1, ()), z, ()))))) := by kernel_rfl
theorem lo91_4 (F : Nat) : LcOk Tryd.prog (E91 F) 1 (lc91_4 F) (cAt (bodyOf Tryd.f91) [1, 0, 1]) :=
  mkL_ok (lp := []) (id := 0) (b := cAt (bodyOf Tryd.f91) (0 :: 0 :: [1, 0, 1])) cok (cts91 F) mixed trivial (by kernel_rfl) (by kernel_rfl) (fun x y s => ((), s.1, (), s.2.1, ())) (fun x y s => ((y.1.1, y.1.2.1, y.1.2.2.1, ()), s.2.2, ())) (fun x y => rfl) (fun x y => rfl) (fun x y s kA kO => L91_4c F y.1.2.1 s.1 s.2.1 s.2.2 kA kO) (fun x y s kA kO => L91_4n F y.1.2.1 s.1 s.2.1 s.2.2 kA kO) (le91_4 F)
def L91_5c (F : Nat) (y183 : Vector UInt32 64) (y171 : UInt32) (y172 : UInt32) (y173 : UInt32) (y174 : UInt32) (y175 : UInt32) (y176 : UInt32) (y177 : UInt32) (y178 : UInt32) (y179 : Int) {β : Type} (kA : (UInt32 × UInt32 × UInt32 × UInt32 × UInt32 × UInt32 × UInt32 × UInt32 × Int) → Option β) (kO : (UInt32 × UInt32 × UInt32 × UInt32 × UInt32 × UInt32 × UInt32 × UInt32) → Option β) : Option β :=
  (bif (decide (y179 < (64 : Int))) then (Option.bind (T94 F y175 (-6 : Int)) fun z194 => (Option.bind (T94 F y175 (-11 : Int)) fun z195 => (Option.bind (T94 F y175 (-25 : Int)) fun z196 => (Option.bind (T94 F y171 (-2 : Int)) fun z197 => (Option.bind (T94 F y171 (-13 : Int)) fun z198 => (Option.bind (T94 F y171 (-22 : Int)) fun z199 => (Option.bind (vix (gv2) y179) fun x200 => (Option.bind (inb 64 y179) fun x201 => (Option.bind (vat y183 x201) fun x202 => (kA ((((((y178 + ((z194 ^^^ z195) ^^^ z196)) + ((y175 &&& y176) ^^^ ((~~~y175) &&& y177))) + x200) + x202) + (((z197 ^^^ z198) ^^^ z199) + (((y171 &&& y172) ^^^ (y171 &&& y173)) ^^^ (y172 &&& y173)))), y171, y172, y173, (y174 + ((((y178 + ((z194 ^^^ z195) ^^^ z196)) + ((y175 &&& y176) ^^^ ((~~~y175) &&& y177))) + x200) + x202)), y175, y176, y177, (w64 (y179 + (1 : Int)))))))))))))) else (kO (y171, y172, y173, y174, y175, y176, y177, y178)))
def L91_5 (F : Nat) (y183 : Vector UInt32 64) (y171 : UInt32) (y172 : UInt32) (y173 : UInt32) (y174 : UInt32) (y175 : UInt32) (y176 : UInt32) (y177 : UInt32) (y178 : UInt32) (y179 : Int) : Option ((UInt32 × UInt32 × UInt32 × UInt32 × UInt32 × UInt32 × UInt32 × UInt32 × Int) ⊕ (UInt32 × UInt32 × UInt32 × UInt32 × UInt32 × UInt32 × UInt32 × UInt32)) := L91_5c F y183 y171 y172 y173 y174 y175 y176 y177 y178 y179 (fun s => some (.inl s)) (fun z => some (.inr z))
theorem L91_5n (F : Nat) (y183 : Vector UInt32 64) (y171 : UInt32) (y172 : UInt32) (y173 : UInt32) (y174 : UInt32) (y175 : UInt32) (y176 : UInt32) (y177 : UInt32) (y178 : UInt32) (y179 : Int) {β : Type} (kA : (UInt32 × UInt32 × UInt32 × UInt32 × UInt32 × UInt32 × UInt32 × UInt32 × Int) → Option β) (kO : (UInt32 × UInt32 × UInt32 × UInt32 × UInt32 × UInt32 × UInt32 × UInt32) → Option β) : L91_5c F y183 y171 y172 y173 y174 y175 y176 y177 y178 y179 kA kO = (L91_5 F y183 y171 y172 y173 y174 y175 y176 y177 y178 y179).bind (elimS kA kO) := by
  simp only [L91_5, L91_5c, Option.bind_assoc, cond_bind, Option.bind_some, elimS_l, elimS_r, elimS_bind]
@[reducible] def sA91_5 : List Sh := [(.pt 0 []), (.pt 1 []), (.pt 2 []), .u32, .u32, .u32, .u32, .u32, .u32, .u32, .u32, .i]
@[reducible] def sA191_5 : List Sh := [(.pt 0 []), (.pt 1 []), .u32, .u32, .u32, .u32, .u32, .u32, .u32, .u32]
@[reducible] def sT91_5 : List TSh := [.blk 105 (.pr (.ar 8 .u32) (.pr (.ar 64 .u8) (.pr .i .un))), .blk 123 (.ar 64 .u32), .blk 103 (.ar 8 .u32)]
@[reducible] def sT191_5 : List TSh := [.blk 105 (.pr (.ar 8 .u32) (.pr (.ar 64 .u8) (.pr .i .un))), .blk 103 (.ar 8 .u32)]
def lc91_5 (F : Nat) : Lc := mkL [0, 4, 11, 12, 13, 14, 15, 16, 17, 18, 19, 123] sA91_5 sT91_5 [0, 11, 12, 13, 14, 15, 16, 17, 18, 19] sA191_5 sT191_5 F (fun x y (s : UInt32 × UInt32 × UInt32 × UInt32 × UInt32 × UInt32 × UInt32 × UInt32 × Int) => L91_5 F y.2.1 s.1 s.2.1 s.2.2.1 s.2.2.2.1 s.2.2.2.2.1 s.2.2.2.2.2.1 s.2.2.2.2.2.2.1 s.2.2.2.2.2.2.2.1 s.2.2.2.2.2.2.2.2) (fun x y => (x.2.2.2.1, x.2.2.2.2.1, x.2.2.2.2.2.1, x.2.2.2.2.2.2.1, x.2.2.2.2.2.2.2.1, x.2.2.2.2.2.2.2.2.1, x.2.2.2.2.2.2.2.2.2.1, x.2.2.2.2.2.2.2.2.2.2.1, x.2.2.2.2.2.2.2.2.2.2.2.1)) (fun x y (z : UInt32 × UInt32 × UInt32 × UInt32 × UInt32 × UInt32 × UInt32 × UInt32) => (((), (), z.1, z.2.1, z.2.2.1, z.2.2.2.1, z.2.2.2.2.1, z.2.2.2.2.2.1, z.2.2.2.2.2.2.1, z.2.2.2.2.2.2.2, ()), ((y.1.1, y.1.2.1, y.1.2.2.1, ()), y.2.2.1, ())))
theorem le91_5 (F : Nat) (x : dens sA91_5) (y : tdens sT91_5) (s : UInt32 × UInt32 × UInt32 × UInt32 × UInt32 × UInt32 × UInt32 × UInt32 × Int) : sev (E91 F) 1 [] (cAt (bodyOf Tryd.f91) (0 :: 0 :: [1, 0, 1, 1, 1, 1])) (0 :: 0 :: [1, 0, 1, 1, 1, 1]) (mkSt [0, 4, 11, 12, 13, 14, 15, 16, 17, 18, 19, 123] sA91_5 sT91_5 ((), (), (), s.1, s.2.1, s.2.2.1, s.2.2.2.1, s.2.2.2.2.1, s.2.2.2.2.2.1, s.2.2.2.2.2.2.1, s.2.2.2.2.2.2.2.1, s.2.2.2.2.2.2.2.2, ()) ((y.1.1, y.1.2.1, y.1.2.2.1, ()), y.2.1, y.2.2.1, ())) (kLoop 1 [0, 4, 11, 12, 13, 14, 15, 16, 17, 18, 19, 123] sA91_5 sT91_5 [0, 11, 12, 13, 14, 15, 16, 17, 18, 19] sA191_5 sT191_5 [] [] [] 2 (fun x y => some (.inl (x, y))) (fun x y => some (.inr (.inl (x, y)))) (fun x y => some (.inr (.inr (x, y))))) =
    L91_5c (β := Full sA91_5 sT91_5 sA191_5 sT191_5 [] []) F y.2.1 s.1 s.2.1 s.2.2.1 s.2.2.2.1 s.2.2.2.2.1 s.2.2.2.2.2.1 s.2.2.2.2.2.2.1 s.2.2.2.2.2.2.2.1 s.2.2.2.2.2.2.2.2 (fun s => some (.inl (((), (), (), s.1, s.2.1, s.2.2.1, s.2.2.2.1, s.2.2.2.2.1, s.2.2.2.2.2.1, s.2.2.2.2.2.2.1, s.2.2.2.2.2.2.2.1, s.2.2.2.2.2.2.2.2, ()), ((y.1.1, y.1.2.1, y.1.2.2.1, ()), y.2.1, y.2.2.1, ())))) (fun z => some (.inr (.inl (((), (), z.1, z.2.1, z.2.2.1, z.2.2.2.1, z.2.2.2.2.1, z.2.2.2.2.2.1, z.2.2.2.2.2.2.1, z.2.2.2.2.2.2.2, ()), ((y.1.1, y.1.2.1, y.1.2.2.1, ()), y.2.2.1, ()))))) := by kernel_rfl
theorem lo91_5 (F : Nat) : LcOk Tryd.prog (E91 F) 1 (lc91_5 F) (cAt (bodyOf Tryd.f91) [1, 0, 1, 1, 1, 1]) :=
  mkL_ok (lp := []) (id := 2) (b := cAt (bodyOf Tryd.f91) (0 :: 0 :: [1, 0, 1, 1, 1, 1])) cok (cts91 F) mixed trivial (by kernel_rfl) (by kernel_rfl) (fun x y s => ((), (), (), s.1, s.2.1, s.2.2.1, s.2.2.2.1, s.2.2.2.2.1, s.2.2.2.2.2.1, s.2.2.2.2.2.2.1, s.2.2.2.2.2.2.2.1, s.2.2.2.2.2.2.2.2, ())) (fun x y s => ((y.1.1, y.1.2.1, y.1.2.2.1, ()), y.2.1, y.2.2.1, ())) (fun x y => rfl) (fun x y => rfl) (fun x y s kA kO => L91_5c F y.2.1 s.1 s.2.1 s.2.2.1 s.2.2.2.1 s.2.2.2.2.1 s.2.2.2.2.2.1 s.2.2.2.2.2.2.1 s.2.2.2.2.2.2.2.1 s.2.2.2.2.2.2.2.2 kA kO) (fun x y s kA kO => L91_5n F y.2.1 s.1 s.2.1 s.2.2.1 s.2.2.2.1 s.2.2.2.2.1 s.2.2.2.2.2.1 s.2.2.2.2.2.2.1 s.2.2.2.2.2.2.2.1 s.2.2.2.2.2.2.2.2 kA kO) (le91_5 F)
def L91_6c (F : Nat) (y204 : Vector UInt32 8) (y209 : Vector UInt32 8) (y205 : Int) (y206 : Vector UInt32 8) {β : Type} (kA : (Int × (Vector UInt32 8)) → Option β) (kO : ((Vector UInt32 8)) → Option β) : Option β :=
  (bif (decide (y205 < (8 : Int))) then (Option.bind (vix y204 y205) fun x214 => (Option.bind (inb 8 y205) fun x215 => (Option.bind (vat y209 x215) fun x216 => (Option.bind (inb 8 y205) fun x217 => (kA ((w64 (y205 + (1 : Int))), (Vector.setIfInBounds y206 x217 (x216 + x214)))))))) else (kO y206))
def L91_6 (F : Nat) (y204 : Vector UInt32 8) (y209 : Vector UInt32 8) (y205 : Int) (y206 : Vector UInt32 8) : Option ((Int × (Vector UInt32 8)) ⊕ ((Vector UInt32 8))) := L91_6c F y204 y209 y205 y206 (fun s => some (.inl s)) (fun z => some (.inr z))
theorem L91_6n (F : Nat) (y204 : Vector UInt32 8) (y209 : Vector UInt32 8) (y205 : Int) (y206 : Vector UInt32 8) {β : Type} (kA : (Int × (Vector UInt32 8)) → Option β) (kO : ((Vector UInt32 8)) → Option β) : L91_6c F y204 y209 y205 y206 kA kO = (L91_6 F y204 y209 y205 y206).bind (elimS kA kO) := by
  simp only [L91_6, L91_6c, Option.bind_assoc, cond_bind, Option.bind_some, elimS_l, elimS_r, elimS_bind]
@[reducible] def sA91_6 : List Sh := [(.pt 0 []), (.pt 1 []), (.ar 8 .u32), .i]
@[reducible] def sA191_6 : List Sh := []
@[reducible] def sT91_6 : List TSh := [.blk 105 (.pr (.ar 8 .u32) (.pr (.ar 64 .u8) (.pr .i .un))), .blk 103 (.ar 8 .u32)]
@[reducible] def sT191_6 : List TSh := [.blk 105 (.pr (.ar 8 .u32) (.pr (.ar 64 .u8) (.pr .i .un)))]
def lc91_6 (F : Nat) : Lc := mkL [0, 11, 196, 197] sA91_6 sT91_6 [] sA191_6 sT191_6 F (fun x y (s : Int × (Vector UInt32 8)) => L91_6 F x.2.2.1 y.2.1 s.1 s.2) (fun x y => (x.2.2.2.1, y.1.1)) (fun x y (z : (Vector UInt32 8)) => ((), ((z, y.1.2.1, y.1.2.2.1, ()), ())))
theorem le91_6 (F : Nat) (x : dens sA91_6) (y : tdens sT91_6) (s : Int × (Vector UInt32 8)) : sev (E91 F) 1 [] (cAt (bodyOf Tryd.f91) (0 :: 0 :: [1, 1, 1, 1, 1, 1])) (0 :: 0 :: [1, 1, 1, 1, 1, 1]) (mkSt [0, 11, 196, 197] sA91_6 sT91_6 ((), (), x.2.2.1, s.1, ()) ((s.2, y.1.2.1, y.1.2.2.1, ()), y.2.1, ())) (kLoop 1 [0, 11, 196, 197] sA91_6 sT91_6 [] sA191_6 sT191_6 [] [] [] 4 (fun x y => some (.inl (x, y))) (fun x y => some (.inr (.inl (x, y)))) (fun x y => some (.inr (.inr (x, y))))) =
    L91_6c (β := Full sA91_6 sT91_6 sA191_6 sT191_6 [] []) F x.2.2.1 y.2.1 s.1 s.2 (fun s => some (.inl (((), (), x.2.2.1, s.1, ()), ((s.2, y.1.2.1, y.1.2.2.1, ()), y.2.1, ())))) (fun z => some (.inr (.inl ((), ((z, y.1.2.1, y.1.2.2.1, ()), ()))))) := by kernel_rfl
theorem lo91_6 (F : Nat) : LcOk Tryd.prog (E91 F) 1 (lc91_6 F) (cAt (bodyOf Tryd.f91) [1, 1, 1, 1, 1, 1]) :=
  mkL_ok (lp := []) (id := 4) (b := cAt (bodyOf Tryd.f91) (0 :: 0 :: [1, 1, 1, 1, 1, 1])) cok (cts91 F) mixed trivial (by kernel_rfl) (by kernel_rfl) (fun x y s => ((), (), x.2.2.1, s.1, ())) (fun x y s => ((s.2, y.1.2.1, y.1.2.2.1, ()), y.2.1, ())) (fun x y => rfl) (fun x y => rfl) (fun x y s kA kO => L91_6c F x.2.2.1 y.2.1 s.1 s.2 kA kO) (fun x y s kA kO => L91_6n F x.2.2.1 y.2.1 s.1 s.2 kA kO) (le91_6 F)
def T91c (F : Nat) (p0 : Nat × Nat) (p1 : Vector UInt32 8) (p2 : Vector UInt8 64) {β : Type} (k : ((Vector UInt32 8)) → Option β) : Option β :=
  (Option.bind (iter (fun s => L91_4 F p2 s.1 s.2.1 s.2.2) F ((p0.1, p0.2), (0 : Int), (Vector.replicate 64 (0 : UInt32)))) fun z162 => (Option.bind (vat p1 0) fun x163 => (Option.bind (vat p1 1) fun x164 => (Option.bind (vat p1 2) fun x165 => (Option.bind (vat p1 3) fun x166 => (Option.bind (vat p1 4) fun x167 => (Option.bind (vat p1 5) fun x168 => (Option.bind (vat p1 6) fun x169 => (Option.bind (vat p1 7) fun x170 => (Option.bind (iter (fun s => L91_5 F z162 s.1 s.2.1 s.2.2.1 s.2.2.2.1 s.2.2.2.2.1 s.2.2.2.2.2.1 s.2.2.2.2.2.2.1 s.2.2.2.2.2.2.2.1 s.2.2.2.2.2.2.2.2) F (x163, x164, x165, x166, x167, x168, x169, x170, (0 : Int))) fun z203 => (Option.bind (iter (fun s => L91_6 F (#v[z203.1, z203.2.1, z203.2.2.1, z203.2.2.2.1, z203.2.2.2.2.1, z203.2.2.2.2.2.1, z203.2.2.2.2.2.2.1, z203.2.2.2.2.2.2.2] : Vector UInt32 8) p1 s.1 s.2) F ((0 : Int), p1)) fun z218 => (k z218))))))))))))
def T91 (F : Nat) (p0 : Nat × Nat) (p1 : Vector UInt32 8) (p2 : Vector UInt8 64) : Option ((Vector UInt32 8)) := T91c F p0 p1 p2 some
theorem T91n (F : Nat) (p0 : Nat × Nat) (p1 : Vector UInt32 8) (p2 : Vector UInt8 64) {β : Type} (k : ((Vector UInt32 8)) → Option β) : T91c F p0 p1 p2 k = (T91 F p0 p1 p2).bind k := by
  simp only [T91, T91c, Option.bind_assoc, cond_bind, Option.bind_some, elimS_bind]
@[reducible] def cA91 : List Sh := [(.pt 0 []), (.ap 0 [1])]
@[reducible] def cB91 : List Sh := []
@[reducible] def cT91 : List TSh := [.blk 105 (.pr (.ar 8 .u32) (.pr (.ar 64 .u8) (.pr .i .un)))]
@[reducible] def cU91 : List TSh := [.blk 105 (.pr (.ar 8 .u32) (.pr (.ar 64 .u8) (.pr .i .un)))]
def ct91 (F : Nat) : Ct := mkC 1 cA91 cT91 cB91 cU91 (fun x y => T91 F x.2.1 y.1.1 y.1.2.1) (fun x y (z : (Vector UInt32 8)) => ((), ((z, y.1.2.1, y.1.2.2.1, ()), ())))
theorem eq91 (F : Nat) (x : dens cA91) (y : tdens cT91) : sev (E91 F) 1 [([1, 0, 1], lc91_4 F), ([1, 0, 1, 1, 1, 1], lc91_5 F), ([1, 1, 1, 1, 1, 1], lc91_6 F)] (bodyOf Tryd.f91) [] (mkSt (rng 2) cA91 cT91 x y) (kFn (E91 F) 1 Tryd.f91.results.toList cB91 cU91 fun p q => some (p, q)) =
    T91c F x.2.1 y.1.1 y.1.2.1 (fun z => some ((), ((z, y.1.2.1, y.1.2.2.1, ()), ()))) := by kernel_rfl
theorem ok91 (F : Nat) : Sound Tryd.prog cfg 91 (ct91 F) :=
  mkC_ok (E := E91 F) (lp := [([1, 0, 1], lc91_4 F), ([1, 0, 1, 1, 1, 1], lc91_5 F), ([1, 1, 1, 1, 1, 1], lc91_6 F)]) (code := bodyOf Tryd.f91) Tryd.func91 rfl Tryd.ntmps91 rfl rfl cok (cts91 F) mixed ⟨lo91_4 F, ⟨lo91_5 F, ⟨lo91_6 F, trivial⟩⟩⟩ (by kernel_rfl) (fun x y k => T91c F x.2.1 y.1.1 y.1.2.1 k) (fun x y k => T91n F x.2.1 y.1.1 y.1.2.1 k) (eq91 F)
end Go.Proofs.YtjghgfohpihhfaaDoor
/- (*kinkeep/sha256.State).process: its twin, and that the call does what the twin says. Printed by a program. -/
namespace Go.Proofs.YtjghgfohpihhfaaDoor
open Go.Tw
set_option linter.unusedSimpArgs false
set_option linter.unusedVariables false
def ord91x1 : Nat → List (Tag × Nat)
  | 6 => [(.p, 0), (.p, 1), (.p, 2), (.r, 3), (.p, 4), (.p, 5), (.p, 6), (.p, 7), (.r, 8), (.p, 9), (.p, 10), (.p, 11), (.p, 12), (.p, 13), (.r, 14), (.p, 15), (.p, 16), (.p, 17), (.p, 18), (.p, 19), (.r, 20), (.p, 21), (.p, 22), (.p, 23), (.w, 24)]
  | 7 => [(.p, 0), (.p, 1), (.p, 2), (.r, 3), (.p, 4), (.p, 5), (.p, 6), (.r, 7), (.p, 8), (.p, 9)]
  | 10 => [(.p, 0), (.p, 1), (.p, 2), (.p, 3), (.p, 4), (.r, 5), (.p, 6), (.p, 7), (.p, 8), (.p, 9), (.p, 10), (.p, 11), (.r, 12), (.p, 13), (.p, 14), (.w, 15)]
  | 13 => [(.p, 0), (.r, 1), (.p, 2), (.r, 3), (.p, 4), (.r, 5), (.p, 6), (.r, 7), (.p, 8), (.r, 9), (.p, 10), (.r, 11), (.p, 12), (.r, 13), (.p, 14), (.r, 15), (.p, 16), (.p, 17), (.p, 18), (.p, 19), (.p, 20), (.p, 21), (.p, 22), (.p, 23)]
  | 19 => [(.p, 0), (.p, 1), (.p, 2), (.p, 3), (.p, 4), (.p, 5), (.p, 6), (.p, 7), (.p, 8), (.p, 9), (.p, 10), (.p, 11), (.p, 12), (.p, 13), (.r, 14), (.p, 15), (.p, 16), (.p, 17), (.r, 18), (.p, 19), (.p, 20)]
  | 26 => [(.p, 0), (.p, 1), (.p, 2), (.p, 3), (.r, 4), (.p, 5), (.p, 6), (.p, 7), (.p, 8), (.p, 9), (.w, 10)]
  | _ => []
def al91x1 : Nat → Option Nat
  | _ => none
def E91x1 (F : Nat) : Ev := ⟨cfg, 212, ctOf [(94, ct94 F)], ord91x1, ctOf [], al91x1⟩
theorem cts91x1 (F : Nat) : CtsOk Tryd.prog (E91x1 F) := cts_of (l := [(94, ct94 F)]) (l' := []) rfl rfl ⟨⟨ok94 F, _, Tryd.func94, rfl, rfl⟩, trivial⟩ trivial
def L91x1_4c (F : Nat) (y102 : List UInt8) (y103 : Int) (y107 : Vector UInt32 64) {β : Type} (kA : (Int × (Vector UInt32 64)) → Option β) (kO : ((Vector UInt32 64)) → Option β) : Option β :=
  (bif (decide (y103 < (64 : Int))) then (bif (decide (y103 < (16 : Int))) then (Option.bind (gsl y102 (w64 ((4 : Int) * y103)) (w64 ((w64 ((4 : Int) * y103)) + (4 : Int)))) fun x127 => (Option.bind (ix x127 (0 : Int)) fun x128 => (Option.bind (ix x127 (1 : Int)) fun x129 => (Option.bind (ix x127 (2 : Int)) fun x130 => (Option.bind (ix x127 (3 : Int)) fun x131 => (Option.bind (inb 64 y103) fun x132 => (kA ((w64 (y103 + (1 : Int))), (Vector.setIfInBounds y107 x132 ((((shl32 (x128.toUInt32) ((UInt64.ofNat 24).toNat)) ||| (shl32 (x129.toUInt32) ((UInt64.ofNat 16).toNat))) ||| (shl32 (x130.toUInt32) ((UInt64.ofNat 8).toNat))) ||| (x131.toUInt32))))))))))) else (Option.bind (inb 64 (w64 (y103 - (2 : Int)))) fun x133 => (Option.bind (vat y107 x133) fun x134 => (Option.bind (inb 64 (w64 (y103 - (15 : Int)))) fun x135 => (Option.bind (vat y107 x135) fun x136 => (Option.bind (T94 F x134 (-17 : Int)) fun z137 => (Option.bind (T94 F x134 (-19 : Int)) fun z138 => (Option.bind (T94 F x136 (-7 : Int)) fun z139 => (Option.bind (T94 F x136 (-18 : Int)) fun z140 => (Option.bind (inb 64 (w64 (y103 - (7 : Int)))) fun x141 => (Option.bind (vat y107 x141) fun x142 => (Option.bind (inb 64 (w64 (y103 - (16 : Int)))) fun x143 => (Option.bind (vat y107 x143) fun x144 => (Option.bind (inb 64 y103) fun x145 => (kA ((w64 (y103 + (1 : Int))), (Vector.setIfInBounds y107 x145 (((((z137 ^^^ z138) ^^^ (shr32 x134 ((UInt64.ofNat 10).toNat))) + x142) + ((z139 ^^^ z140) ^^^ (shr32 x136 ((UInt64.ofNat 3).toNat)))) + x144)))))))))))))))))) else (kO y107))
def L91x1_4 (F : Nat) (y102 : List UInt8) (y103 : Int) (y107 : Vector UInt32 64) : Option ((Int × (Vector UInt32 64)) ⊕ ((Vector UInt32 64))) := L91x1_4c F y102 y103 y107 (fun s => some (.inl s)) (fun z => some (.inr z))
theorem L91x1_4n (F : Nat) (y102 : List UInt8) (y103 : Int) (y107 : Vector UInt32 64) {β : Type} (kA : (Int × (Vector UInt32 64)) → Option β) (kO : ((Vector UInt32 64)) → Option β) : L91x1_4c F y102 y103 y107 kA kO = (L91x1_4 F y102 y103 y107).bind (elimS kA kO) := by
  simp only [L91x1_4, L91x1_4c, Option.bind_assoc, cond_bind, Option.bind_some, elimS_l, elimS_r, elimS_bind]
@[reducible] def sA91x1_4 : List Sh := [(.pt 0 []), (.ro .u8), (.pt 1 []), .i]
@[reducible] def sA191x1_4 : List Sh := [(.pt 0 []), (.pt 1 [])]
@[reducible] def sT91x1_4 : List TSh := [.blk 105 (.pr (.ar 8 .u32) (.pr (.ar 64 .u8) (.pr .i .un))), .blk 123 (.ar 64 .u32)]
@[reducible] def sT191x1_4 : List TSh := [.blk 105 (.pr (.ar 8 .u32) (.pr (.ar 64 .u8) (.pr .i .un))), .blk 123 (.ar 64 .u32)]
def lc91x1_4 (F : Nat) : Lc := mkL [0, 1, 4, 27] sA91x1_4 sT91x1_4 [0, 4] sA191x1_4 sT191x1_4 F (fun x y (s : Int × (Vector UInt32 64)) => L91x1_4 F x.2.1 s.1 s.2) (fun x y => (x.2.2.2.1, y.2.1)) (fun x y (z : (Vector UInt32 64)) => (((), (), ()), ((y.1.1, y.1.2.1, y.1.2.2.1, ()), z, ())))
theorem le91x1_4 (F : Nat) (x : dens sA91x1_4) (y : tdens sT91x1_4) (s : Int × (Vector UInt32 64)) : sev (E91x1 F) 1 [] (cAt (bodyOf Tryd.f91) (0 :: 0 :: [1, 0, 1])) (0 :: 0 :: [1, 0, 1]) (mkSt [0, 1, 4, 27] sA91x1_4 sT91x1_4 ((), x.2.1, (), s.1, ()) ((y.1.1, y.1.2.1, y.1.2.2.1, ()), s.2, ())) (kLoop 1 [0, 1, 4, 27] sA91x1_4 sT91x1_4 [0, 4] sA191x1_4 sT191x1_4 [] [] [] 0 (fun x y => some (.inl (x, y))) (fun x y => some (.inr (.inl (x, y)))) (fun x y => some (.inr (.inr (x, y))))) =
    L91x1_4c (β := Full sA91x1_4 sT91x1_4 sA191x1_4 sT191x1_4 [] []) F x.2.1 s.1 s.2 (fun s => some (.inl (((), x.2.1, (), s.1, ()), ((y.1.1, y.1.2.1, y.1.2.2.1, ()), s.2, ())))) (fun z => some (.inr (.inl (((), (), ()), ((y.1.1, y.1.2.1, y.1.2.2.1, ()), z, ()))))) := by kernel_rfl
theorem lo91x1_4 (F : Nat) : LcOk Tryd.prog (E91x1 F) 1 (lc91x1_4 F) (cAt (bodyOf Tryd.f91) [1, 0, 1]) :=
  mkL_ok (lp := []) (id := 0) (b := cAt (bodyOf Tryd.f91) (0 :: 0 :: [1, 0, 1])) cok (cts91x1 F) mixed trivial (by kernel_rfl) (by kernel_rfl) (fun x y s => ((), x.2.1, (), s.1, ())) (fun x y s => ((y.1.1, y.1.2.1, y.1.2.2.1, ()), s.2, ())) (fun x y => rfl) (fun x y => rfl) (fun x y s kA kO => L91x1_4c F x.2.1 s.1 s.2 kA kO) (fun x y s kA kO => L91x1_4n F x.2.1 s.1 s.2 kA kO) (le91x1_4 F)
def L91x1_5c (F : Nat) (y167 : Vector UInt32 64) (y155 : UInt32) (y156 : UInt32) (y157 : UInt32) (y158 : UInt32) (y159 : UInt32) (y160 : UInt32) (y161 : UInt32) (y162 : UInt32) (y163 : Int) {β : Type} (kA : (UInt32 × UInt32 × UInt32 × UInt32 × UInt32 × UInt32 × UInt32 × UInt32 × Int) → Option β) (kO : (UInt32 × UInt32 × UInt32 × UInt32 × UInt32 × UInt32 × UInt32 × UInt32) → Option β) : Option β :=
  (bif (decide (y163 < (64 : Int))) then (Option.bind (T94 F y159 (-6 : Int)) fun z178 => (Option.bind (T94 F y159 (-11 : Int)) fun z179 => (Option.bind (T94 F y159 (-25 : Int)) fun z180 => (Option.bind (T94 F y155 (-2 : Int)) fun z181 => (Option.bind (T94 F y155 (-13 : Int)) fun z182 => (Option.bind (T94 F y155 (-22 : Int)) fun z183 => (Option.bind (vix (gv2) y163) fun x184 => (Option.bind (inb 64 y163) fun x185 => (Option.bind (vat y167 x185) fun x186 => (kA ((((((y162 + ((z178 ^^^ z179) ^^^ z180)) + ((y159 &&& y160) ^^^ ((~~~y159) &&& y161))) + x184) + x186) + (((z181 ^^^ z182) ^^^ z183) + (((y155 &&& y156) ^^^ (y155 &&& y157)) ^^^ (y156 &&& y157)))), y155, y156, y157, (y158 + ((((y162 + ((z178 ^^^ z179) ^^^ z180)) + ((y159 &&& y160) ^^^ ((~~~y159) &&& y161))) + x184) + x186)), y159, y160, y161, (w64 (y163 + (1 : Int)))))))))))))) else (kO (y155, y156, y157, y158, y159, y160, y161, y162)))
def L91x1_5 (F : Nat) (y167 : Vector UInt32 64) (y155 : UInt32) (y156 : UInt32) (y157 : UInt32) (y158 : UInt32) (y159 : UInt32) (y160 : UInt32) (y161 : UInt32) (y162 : UInt32) (y163 : Int) : Option ((UInt32 × UInt32 × UInt32 × UInt32 × UInt32 × UInt32 × UInt32 × UInt32 × Int) ⊕ (UInt32 × UInt32 × UInt32 × UInt32 × UInt32 × UInt32 × UInt32 × UInt32)) := L91x1_5c F y167 y155 y156 y157 y158 y159 y160 y161 y162 y163 (fun s => some (.inl s)) (fun z => some (.inr z))
theorem L91x1_5n (F : Nat) (y167 : Vector UInt32 64) (y155 : UInt32) (y156 : UInt32) (y157 : UInt32) (y158 : UInt32) (y159 : UInt32) (y160 : UInt32) (y161 : UInt32) (y162 : UInt32) (y163 : Int) {β : Type} (kA : (UInt32 × UInt32 × UInt32 × UInt32 × UInt32 × UInt32 × UInt32 × UInt32 × Int) → Option β) (kO : (UInt32 × UInt32 × UInt32 × UInt32 × UInt32 × UInt32 × UInt32 × UInt32) → Option β) : L91x1_5c F y167 y155 y156 y157 y158 y159 y160 y161 y162 y163 kA kO = (L91x1_5 F y167 y155 y156 y157 y158 y159 y160 y161 y162 y163).bind (elimS kA kO) := by
  simp only [L91x1_5, L91x1_5c, Option.bind_assoc, cond_bind, Option.bind_some, elimS_l, elimS_r, elimS_bind]
@[reducible] def sA91x1_5 : List Sh := [(.pt 0 []), (.pt 1 []), (.pt 2 []), .u32, .u32, .u32, .u32, .u32, .u32, .u32, .u32, .i]
@[reducible] def sA191x1_5 : List Sh := [(.pt 0 []), (.pt 1 []), .u32, .u32, .u32, .u32, .u32, .u32, .u32, .u32]
@[reducible] def sT91x1_5 : List TSh := [.blk 105 (.pr (.ar 8 .u32) (.pr (.ar 64 .u8) (.pr .i .un))), .blk 123 (.ar 64 .u32), .blk 103 (.ar 8 .u32)]
@[reducible] def sT191x1_5 : List TSh := [.blk 105 (.pr (.ar 8 .u32) (.pr (.ar 64 .u8) (.pr .i .un))), .blk 103 (.ar 8 .u32)]
def lc91x1_5 (F : Nat) : Lc := mkL [0, 4, 11, 12, 13, 14, 15, 16, 17, 18, 19, 123] sA91x1_5 sT91x1_5 [0, 11, 12, 13, 14, 15, 16, 17, 18, 19] sA191x1_5 sT191x1_5 F (fun x y (s : UInt32 × UInt32 × UInt32 × UInt32 × UInt32 × UInt32 × UInt32 × UInt32 × Int) => L91x1_5 F y.2.1 s.1 s.2.1 s.2.2.1 s.2.2.2.1 s.2.2.2.2.1 s.2.2.2.2.2.1 s.2.2.2.2.2.2.1 s.2.2.2.2.2.2.2.1 s.2.2.2.2.2.2.2.2) (fun x y => (x.2.2.2.1, x.2.2.2.2.1, x.2.2.2.2.2.1, x.2.2.2.2.2.2.1, x.2.2.2.2.2.2.2.1, x.2.2.2.2.2.2.2.2.1, x.2.2.2.2.2.2.2.2.2.1, x.2.2.2.2.2.2.2.2.2.2.1, x.2.2.2.2.2.2.2.2.2.2.2.1)) (fun x y (z : UInt32 × UInt32 × UInt32 × UInt32 × UInt32 × UInt32 × UInt32 × UInt32) => (((), (), z.1, z.2.1, z.2.2.1, z.2.2.2.1, z.2.2.2.2.1, z.2.2.2.2.2.1, z.2.2.2.2.2.2.1, z.2.2.2.2.2.2.2, ()), ((y.1.1, y.1.2.1, y.1.2.2.1, ()), y.2.2.1, ())))
theorem le91x1_5 (F : Nat) (x : dens sA91x1_5) (y : tdens sT91x1_5) (s : UInt32 × UInt32 × UInt32 × UInt32 × UInt32 × UInt32 × UInt32 × UInt32 × Int) : sev (E91x1 F) 1 [] (cAt (bodyOf Tryd.f91) (0 :: 0 :: [1, 0, 1, 1, 1, 1])) (0 :: 0 :: [1, 0, 1, 1, 1, 1]) (mkSt [0, 4, 11, 12, 13, 14, 15, 16, 17, 18, 19, 123] sA91x1_5 sT91x1_5 ((), (), (), s.1, s.2.1, s.2.2.1, s.2.2.2.1, s.2.2.2.2.1, s.2.2.2.2.2.1, s.2.2.2.2.2.2.1, s.2.2.2.2.2.2.2.1, s.2.2.2.2.2.2.2.2, ()) ((y.1.1, y.1.2.1, y.1.2.2.1, ()), y.2.1, y.2.2.1, ())) (kLoop 1 [0, 4, 11, 12, 13, 14, 15, 16, 17, 18, 19, 123] sA91x1_5 sT91x1_5 [0, 11, 12, 13, 14, 15, 16, 17, 18, 19] sA191x1_5 sT191x1_5 [] [] [] 2 (fun x y => some (.inl (x, y))) (fun x y => some (.inr (.inl (x, y)))) (fun x y => some (.inr (.inr (x, y))))) =
    L91x1_5c (β := Full sA91x1_5 sT91x1_5 sA191x1_5 sT191x1_5 [] []) F y.2.1 s.1 s.2.1 s.2.2.1 s.2.2.2.1 s.2.2.2.2.1 s.2.2.2.2.2.1 s.2.2.2.2.2.2.1 s.2.2.2.2.2.2.2.1 s.2.2.2.2.2.2.2.2 (fun s => some (.inl (((), (), (), s.1, s.2.1, s.2.2.1, s.2.2.2.1, s.2.2.2.2.1, s.2.2.2.2.2.1, s.2.2.2.2.2.2.1, s.2.2.2.2.2.2.2.1, s.2.2.2.2.2.2.2.2, ()), ((y.1.1, y.1.2.1, y.1.2.2.1, ()), y.2.1, y.2.2.1, ())))) (fun z => some (.inr (.inl (((), (), z.1, z.2.1, z.2.2.1, z.2.2.2.1, z.2.2.2.2.1, z.2.2.2.2.2.1, z.2.2.2.2.2.2.1, z.2.2.2.2.2.2.2, ()), ((y.1.1, y.1.2.1, y.1.2.2.1, ()), y.2.2.1, ()))))) := by kernel_rfl
theorem lo91x1_5 (F : Nat) : LcOk Tryd.prog (E91x1 F) 1 (lc91x1_5 F) (cAt (bodyOf Tryd.f91) [1, 0, 1, 1, 1, 1]) :=
  mkL_ok (lp := []) (id := 2) (b := cAt (bodyOf Tryd.f91) (0 :: 0 :: [1, 0, 1, 1, 1, 1])) cok (cts91x1 F) mixed trivial (by kernel_rfl) (by kernel_rfl) (fun x y s => ((), (), (), s.1, s.2.1, s.2.2.1, s.2.2.2.1, s.2.2.2.2.1, s.2.2.2.2.2.1, s.2.2.2.2.2.2.1, s.2.2.2.2.2.2.2.1, s.2.2.2.2.2.2.2.2, ())) (fun x y s => ((y.1.1, y.1.2.1, y.1.2.2.1, ()), y.2.1, y.2.2.1, ())) (fun x y => rfl) (fun x y => rfl) (fun x y s kA kO => L91x1_5c F y.2.1 s.1 s.2.1 s.2.2.1 s.2.2.2.1 s.2.2.2.2.1 s.2.2.2.2.2.1 s.2.2.2.2.2.2.1 s.2.2.2.2.2.2.2.1 s.2.2.2.2.2.2.2.2 kA kO) (fun x y s kA kO => L91x1_5n F y.2.1 s.1 s.2.1 s.2.2.1 s.2.2.2.1 s.2.2.2.2.1 s.2.2.2.2.2.1 s.2.2.2.2.2.2.1 s.2.2.2.2.2.2.2.1 s.2.2.2.2.2.2.2.2 kA kO) (le91x1_5 F)
def L91x1_6c (F : Nat) (y188 : Vector UInt32 8) (y193 : Vector UInt32 8) (y189 : Int) (y190 : Vector UInt32 8) {β : Type} (kA : (Int × (Vector UInt32 8)) → Option β) (kO : ((Vector UInt32 8)) → Option β) : Option β :=
  (bif (decide (y189 < (8 : Int))) then (Option.bind (vix y188 y189) fun x198 => (Option.bind (inb 8 y189) fun x199 => (Option.bind (vat y193 x199) fun x200 => (Option.bind (inb 8 y189) fun x201 => (kA ((w64 (y189 + (1 : Int))), (Vector.setIfInBounds y190 x201 (x200 + x198)))))))) else (kO y190))
def L91x1_6 (F : Nat) (y188 : Vector UInt32 8) (y193 : Vector UInt32 8) (y189 : Int) (y190 : Vector UInt32 8) : Option ((Int × (Vector UInt32 8)) ⊕ ((Vector UInt32 8))) := L91x1_6c F y188 y193 y189 y190 (fun s => some (.inl s)) (fun z => some (.inr z))
theorem L91x1_6n (F : Nat) (y188 : Vector UInt32 8) (y193 : Vector UInt32 8) (y189 : Int) (y190 : Vector UInt32 8) {β : Type} (kA : (Int × (Vector UInt32 8)) → Option β) (kO : ((Vector UInt32 8)) → Option β) : L91x1_6c F y188 y193 y189 y190 kA kO = (L91x1_6 F y188 y193 y189 y190).bind (elimS kA kO) := by
  simp only [L91x1_6, L91x1_6c, Option.bind_assoc, cond_bind, Option.bind_some, elimS_l, elimS_r, elimS_bind]
@[reducible] def sA91x1_6 : List Sh := [(.pt 0 []), (.pt 1 []), (.ar 8 .u32), .i]
@[reducible] def sA191x1_6 : List Sh := []
@[reducible] def sT91x1_6 : List TSh := [.blk 105 (.pr (.ar 8 .u32) (.pr (.ar 64 .u8) (.pr .i .un))), .blk 103 (.ar 8 .u32)]
@[reducible] def sT191x1_6 : List TSh := [.blk 105 (.pr (.ar 8 .u32) (.pr (.ar 64 .u8) (.pr .i .un)))]
def lc91x1_6 (F : Nat) : Lc := mkL [0, 11, 196, 197] sA91x1_6 sT91x1_6 [] sA191x1_6 sT191x1_6 F (fun x y (s : Int × (Vector UInt32 8)) => L91x1_6 F x.2.2.1 y.2.1 s.1 s.2) (fun x y => (x.2.2.2.1, y.1.1)) (fun x y (z : (Vector UInt32 8)) => ((), ((z, y.1.2.1, y.1.2.2.1, ()), ())))
theorem le91x1_6 (F : Nat) (x : dens sA91x1_6) (y : tdens sT91x1_6) (s : Int × (Vector UInt32 8)) : sev (E91x1 F) 1 [] (cAt (bodyOf Tryd.f91) (0 :: 0 :: [1, 1, 1, 1, 1, 1])) (0 :: 0 :: [1, 1, 1, 1, 1, 1]) (mkSt [0, 11, 196, 197] sA91x1_6 sT91x1_6 ((), (), x.2.2.1, s.1, ()) ((s.2, y.1.2.1, y.1.2.2.1, ()), y.2.1, ())) (kLoop 1 [0, 11, 196, 197] sA91x1_6 sT91x1_6 [] sA191x1_6 sT191x1_6 [] [] [] 4 (fun x y => some (.inl (x, y))) (fun x y => some (.inr (.inl (x, y)))) (fun x y => some (.inr (.inr (x, y))))) =
    L91x1_6c (β := Full sA91x1_6 sT91x1_6 sA191x1_6 sT191x1_6 [] []) F x.2.2.1 y.2.1 s.1 s.2 (fun s => some (.inl (((), (), x.2.2.1, s.1, ()), ((s.2, y.1.2.1, y.1.2.2.1, ()), y.2.1, ())))) (fun z => some (.inr (.inl ((), ((z, y.1.2.1, y.1.2.2.1, ()), ()))))) := by kernel_rfl
theorem lo91x1_6 (F : Nat) : LcOk Tryd.prog (E91x1 F) 1 (lc91x1_6 F) (cAt (bodyOf Tryd.f91) [1, 1, 1, 1, 1, 1]) :=
  mkL_ok (lp := []) (id := 4) (b := cAt (bodyOf Tryd.f91) (0 :: 0 :: [1, 1, 1, 1, 1, 1])) cok (cts91x1 F) mixed trivial (by kernel_rfl) (by kernel_rfl) (fun x y s => ((), (), x.2.2.1, s.1, ())) (fun x y s => ((s.2, y.1.2.1, y.1.2.2.1, ()), y.2.1, ())) (fun x y => rfl) (fun x y => rfl) (fun x y s kA kO => L91x1_6c F x.2.2.1 y.2.1 s.1 s.2 kA kO) (fun x y s kA kO => L91x1_6n F x.2.2.1 y.2.1 s.1 s.2 kA kO) (le91x1_6 F)
def T91x1c (F : Nat) (p0 : List UInt8) (p1 : Vector UInt32 8) {β : Type} (k : ((Vector UInt32 8)) → Option β) : Option β :=
  (Option.bind (iter (fun s => L91x1_4 F p0 s.1 s.2) F ((0 : Int), (Vector.replicate 64 (0 : UInt32)))) fun z146 => (Option.bind (vat p1 0) fun x147 => (Option.bind (vat p1 1) fun x148 => (Option.bind (vat p1 2) fun x149 => (Option.bind (vat p1 3) fun x150 => (Option.bind (vat p1 4) fun x151 => (Option.bind (vat p1 5) fun x152 => (Option.bind (vat p1 6) fun x153 => (Option.bind (vat p1 7) fun x154 => (Option.bind (iter (fun s => L91x1_5 F z146 s.1 s.2.1 s.2.2.1 s.2.2.2.1 s.2.2.2.2.1 s.2.2.2.2.2.1 s.2.2.2.2.2.2.1 s.2.2.2.2.2.2.2.1 s.2.2.2.2.2.2.2.2) F (x147, x148, x149, x150, x151, x152, x153, x154, (0 : Int))) fun z187 => (Option.bind (iter (fun s => L91x1_6 F (#v[z187.1, z187.2.1, z187.2.2.1, z187.2.2.2.1, z187.2.2.2.2.1, z187.2.2.2.2.2.1, z187.2.2.2.2.2.2.1, z187.2.2.2.2.2.2.2] : Vector UInt32 8) p1 s.1 s.2) F ((0 : Int), p1)) fun z202 => (k z202))))))))))))
def T91x1 (F : Nat) (p0 : List UInt8) (p1 : Vector UInt32 8) : Option ((Vector UInt32 8)) := T91x1c F p0 p1 some
theorem T91x1n (F : Nat) (p0 : List UInt8) (p1 : Vector UInt32 8) {β : Type} (k : ((Vector UInt32 8)) → Option β) : T91x1c F p0 p1 k = (T91x1 F p0 p1).bind k := by
  simp only [T91x1, T91x1c, Option.bind_assoc, cond_bind, Option.bind_some, elimS_bind]
@[reducible] def cA91x1 : List Sh := [(.pt 0 []), (.ro .u8)]
@[reducible] def cB91x1 : List Sh := []
@[reducible] def cT91x1 : List TSh := [.blk 105 (.pr (.ar 8 .u32) (.pr (.ar 64 .u8) (.pr .i .un)))]
@[reducible] def cU91x1 : List TSh := [.blk 105 (.pr (.ar 8 .u32) (.pr (.ar 64 .u8) (.pr .i .un)))]
def ct91x1 (F : Nat) : Ct := mkC 1 cA91x1 cT91x1 cB91x1 cU91x1 (fun x y => T91x1 F x.2.1 y.1.1) (fun x y (z : (Vector UInt32 8)) => ((), ((z, y.1.2.1, y.1.2.2.1, ()), ())))
theorem eq91x1 (F : Nat) (x : dens cA91x1) (y : tdens cT91x1) : sev (E91x1 F) 1 [([1, 0, 1], lc91x1_4 F), ([1, 0, 1, 1, 1, 1], lc91x1_5 F), ([1, 1, 1, 1, 1, 1], lc91x1_6 F)] (bodyOf Tryd.f91) [] (mkSt (rng 2) cA91x1 cT91x1 x y) (kFn (E91x1 F) 1 Tryd.f91.results.toList cB91x1 cU91x1 fun p q => some (p, q)) =
    T91x1c F x.2.1 y.1.1 (fun z => some ((), ((z, y.1.2.1, y.1.2.2.1, ()), ()))) := by kernel_rfl
theorem ok91x1 (F : Nat) : Sound Tryd.prog cfg 91 (ct91x1 F) :=
  mkC_ok (E := E91x1 F) (lp := [([1, 0, 1], lc91x1_4 F), ([1, 0, 1, 1, 1, 1], lc91x1_5 F), ([1, 1, 1, 1, 1, 1], lc91x1_6 F)]) (code := bodyOf Tryd.f91) Tryd.func91 rfl Tryd.ntmps91 rfl rfl cok (cts91x1 F) mixed ⟨lo91x1_4 F, ⟨lo91x1_5 F, ⟨lo91x1_6 F, trivial⟩⟩⟩ (by kernel_rfl) (fun x y k => T91x1c F x.2.1 y.1.1 k) (fun x y k => T91x1n F x.2.1 y.1.1 k) (eq91x1 F)
end Go.Proofs.YtjghgfohpihhfaaDoor
/- (*kinkeep/sha256.State).Write: its twin, and that the call does what the twin says. Printed by a program. -/
namespace Go.Proofs.YtjghgfohpihhfaaDoor
open Go.Tw
set_option linter.unusedSimpArgs false
set_option linter.unusedVariables false
def ord82 : Nat → List (Tag × Nat)
  | _ => []
def al82 : Nat → Option Nat
  | _ => none
def E82 (F : Nat) : Ev := ⟨cfg, 57, ctOf [(91, ct91 F), (91, ct91x1 F)], ord82, ctOf [], al82⟩
theorem cts82 (F : Nat) : CtsOk Tryd.prog (E82 F) := cts_of (l := [(91, ct91 F), (91, ct91x1 F)]) (l' := []) rfl rfl ⟨⟨ok91 F, _, Tryd.func91, rfl, rfl⟩, ⟨⟨ok91x1 F, _, Tryd.func91, rfl, rfl⟩, trivial⟩⟩ trivial
def L82_3c (F : Nat) (y28 : List UInt8) (y29 : Int) (y30 : Bool) (y31 : Vector UInt32 8) (y32 : Vector UInt8 64) {β : Type} (kO : ((List UInt8) × (Vector UInt32 8) × (Vector UInt8 64)) → Option β) (kR : ((Vector UInt8 64)) → Option β) : Option β :=
  (bif y30 then (Option.bind (gslb 64 y29 ((64 : Nat) : Int)) fun x38 => (Option.bind (gsl y28 ((Nat.min y28.length (x38.2 - x38.1)) : Int) (y28.length : Int)) fun x39 => (bif (decide ((w64 (y29 + ((Nat.min y28.length (x38.2 - x38.1)) : Int))) < (64 : Int))) then (kR (vspl y32 x38.1 y28 (Nat.min y28.length (x38.2 - x38.1)))) else (Option.bind (gslb 64 (0 : Int) ((64 : Nat) : Int)) fun x40 => (Option.bind (T91 F (x40.1, x40.2) y31 (vspl y32 x38.1 y28 (Nat.min y28.length (x38.2 - x38.1)))) fun z41 => (kO (x39, z41, (vspl y32 x38.1 y28 (Nat.min y28.length (x38.2 - x38.1)))))))))) else (kO (y28, y31, y32)))
def L82_3 (F : Nat) (y28 : List UInt8) (y29 : Int) (y30 : Bool) (y31 : Vector UInt32 8) (y32 : Vector UInt8 64) : Option (((List UInt8) × (Vector UInt32 8) × (Vector UInt8 64)) ⊕ ((Vector UInt8 64))) := L82_3c F y28 y29 y30 y31 y32 (fun z => some (.inl z)) (fun z => some (.inr z))
theorem L82_3n (F : Nat) (y28 : List UInt8) (y29 : Int) (y30 : Bool) (y31 : Vector UInt32 8) (y32 : Vector UInt8 64) {β : Type} (kO : ((List UInt8) × (Vector UInt32 8) × (Vector UInt8 64)) → Option β) (kR : ((Vector UInt8 64)) → Option β) : L82_3c F y28 y29 y30 y31 y32 kO kR = (L82_3 F y28 y29 y30 y31 y32).bind (elimS kO kR) := by
  simp only [L82_3, L82_3c, Option.bind_assoc, cond_bind, Option.bind_some, elimS_l, elimS_r, elimS_bind]
@[reducible] def sA82_3 : List Sh := [(.pt 0 []), (.ro .u8), .i, .bo]
@[reducible] def sA182_3 : List Sh := [(.pt 0 []), (.ro .u8)]
@[reducible] def sA282_3 : List Sh := []
@[reducible] def sT82_3 : List TSh := [.blk 105 (.pr (.ar 8 .u32) (.pr (.ar 64 .u8) (.pr .i .un)))]
@[reducible] def sT182_3 : List TSh := [.blk 105 (.pr (.ar 8 .u32) (.pr (.ar 64 .u8) (.pr .i .un)))]
@[reducible] def sT282_3 : List TSh := [.blk 105 (.pr (.ar 8 .u32) (.pr (.ar 64 .u8) (.pr .i .un)))]
def lc82_3 (F : Nat) : Lc := mkK [0, 1, 4, 21] sA82_3 sT82_3 [0, 1] sA182_3 sT182_3 [] sA282_3 sT282_3 (fun x y => L82_3 F x.2.1 x.2.2.1 x.2.2.2.1 y.1.1 y.1.2.1) (fun x y (z : (List UInt8) × (Vector UInt32 8) × (Vector UInt8 64)) => (((), z.1, ()), ((z.2.1, z.2.2, y.1.2.2.1, ()), ()))) (fun x y (z : (Vector UInt8 64)) => ((), ((y.1.1, z, y.1.2.2.1, ()), ())))
theorem le82_3 (F : Nat) (x : dens sA82_3) (y : tdens sT82_3) : sev (E82 F) 1 [] (cAt (bodyOf Tryd.f82) [1, 0, 1, 1]) [1, 0, 1, 1] (mkSt [0, 1, 4, 21] sA82_3 sT82_3 x y) (kJoinR 1 [0, 1] sA182_3 sT182_3 [] sA282_3 sT282_3 (fun x y => some (.inl (x, y))) (fun x y => some (.inr (x, y)))) =
    L82_3c (β := (dens sA182_3 × tdens sT182_3) ⊕ (dens sA282_3 × tdens sT282_3)) F x.2.1 x.2.2.1 x.2.2.2.1 y.1.1 y.1.2.1 (fun z => some (.inl (((), z.1, ()), ((z.2.1, z.2.2, y.1.2.2.1, ()), ())))) (fun z => some (.inr ((), ((y.1.1, z, y.1.2.2.1, ()), ())))) := by kernel_rfl
theorem lo82_3 (F : Nat) : LcOk Tryd.prog (E82 F) 1 (lc82_3 F) (cAt (bodyOf Tryd.f82) [1, 0, 1, 1]) :=
  mkK_ok (lp := []) cok (cts82 F) mixed trivial (by kernel_rfl) (fun x y kO kR => L82_3c F x.2.1 x.2.2.1 x.2.2.2.1 y.1.1 y.1.2.1 kO kR) (fun x y kO kR => L82_3n F x.2.1 x.2.2.1 x.2.2.2.1 y.1.1 y.1.2.1 kO kR) (le82_3 F)
def L82_4c (F : Nat) (y43 : List UInt8) (y44 : Vector UInt32 8) {β : Type} (kA : ((List UInt8) × (Vector UInt32 8)) → Option β) (kO : ((List UInt8) × (Vector UInt32 8)) → Option β) : Option β :=
  (bif (decide ((64 : Int) ≤ (y43.length : Int))) then (Option.bind (gsl y43 (0 : Int) (64 : Int)) fun x50 => (Option.bind (T91x1 F x50 y44) fun z51 => (Option.bind (gsl y43 (64 : Int) (y43.length : Int)) fun x52 => (kA (x52, z51))))) else (kO (y43, y44)))
def L82_4 (F : Nat) (y43 : List UInt8) (y44 : Vector UInt32 8) : Option (((List UInt8) × (Vector UInt32 8)) ⊕ ((List UInt8) × (Vector UInt32 8))) := L82_4c F y43 y44 (fun s => some (.inl s)) (fun z => some (.inr z))
theorem L82_4n (F : Nat) (y43 : List UInt8) (y44 : Vector UInt32 8) {β : Type} (kA : ((List UInt8) × (Vector UInt32 8)) → Option β) (kO : ((List UInt8) × (Vector UInt32 8)) → Option β) : L82_4c F y43 y44 kA kO = (L82_4 F y43 y44).bind (elimS kA kO) := by
  simp only [L82_4, L82_4c, Option.bind_assoc, cond_bind, Option.bind_some, elimS_l, elimS_r, elimS_bind]
@[reducible] def sA82_4 : List Sh := [(.pt 0 []), (.ro .u8)]
@[reducible] def sA182_4 : List Sh := [(.pt 0 []), (.ro .u8)]
@[reducible] def sT82_4 : List TSh := [.blk 105 (.pr (.ar 8 .u32) (.pr (.ar 64 .u8) (.pr .i .un)))]
@[reducible] def sT182_4 : List TSh := [.blk 105 (.pr (.ar 8 .u32) (.pr (.ar 64 .u8) (.pr .i .un)))]
def lc82_4 (F : Nat) : Lc := mkL [0, 1] sA82_4 sT82_4 [0, 1] sA182_4 sT182_4 F (fun x y (s : (List UInt8) × (Vector UInt32 8)) => L82_4 F s.1 s.2) (fun x y => (x.2.1, y.1.1)) (fun x y (z : (List UInt8) × (Vector UInt32 8)) => (((), z.1, ()), ((z.2, y.1.2.1, y.1.2.2.1, ()), ())))
theorem le82_4 (F : Nat) (x : dens sA82_4) (y : tdens sT82_4) (s : (List UInt8) × (Vector UInt32 8)) : sev (E82 F) 1 [] (cAt (bodyOf Tryd.f82) (0 :: 0 :: [0, 1, 1, 1])) (0 :: 0 :: [0, 1, 1, 1]) (mkSt [0, 1] sA82_4 sT82_4 ((), s.1, ()) ((s.2, y.1.2.1, y.1.2.2.1, ()), ())) (kLoop 1 [0, 1] sA82_4 sT82_4 [0, 1] sA182_4 sT182_4 [] [] [] 0 (fun x y => some (.inl (x, y))) (fun x y => some (.inr (.inl (x, y)))) (fun x y => some (.inr (.inr (x, y))))) =
    L82_4c (β := Full sA82_4 sT82_4 sA182_4 sT182_4 [] []) F s.1 s.2 (fun s => some (.inl (((), s.1, ()), ((s.2, y.1.2.1, y.1.2.2.1, ()), ())))) (fun z => some (.inr (.inl (((), z.1, ()), ((z.2, y.1.2.1, y.1.2.2.1, ()), ()))))) := by kernel_rfl
theorem lo82_4 (F : Nat) : LcOk Tryd.prog (E82 F) 1 (lc82_4 F) (cAt (bodyOf Tryd.f82) [0, 1, 1, 1]) :=
  mkL_ok (lp := []) (id := 0) (b := cAt (bodyOf Tryd.f82) (0 :: 0 :: [0, 1, 1, 1])) cok (cts82 F) mixed trivial (by kernel_rfl) (by kernel_rfl) (fun x y s => ((), s.1, ())) (fun x y s => ((s.2, y.1.2.1, y.1.2.2.1, ()), ())) (fun x y => rfl) (fun x y => rfl) (fun x y s kA kO => L82_4c F s.1 s.2 kA kO) (fun x y s kA kO => L82_4n F s.1 s.2 kA kO) (le82_4 F)
def T82c (F : Nat) (p0 : List UInt8) (p1 : Vector UInt32 8) (p2 : Vector UInt8 64) (p3 : Int) {β : Type} (k : ((Vector UInt32 8) × (Vector UInt8 64) × Int) → Option β) : Option β :=
  (Option.bind (L82_3 F p0 (Int.tmod p3 (64 : Int)) (decide ((0 : Int) < (Int.tmod p3 (64 : Int)))) p1 p2) fun z42 => elimS (fun z42 => (Option.bind (iter (fun s => L82_4 F s.1 s.2) F (z42.1, z42.2.1)) fun z53 => (Option.bind (gslb 64 (0 : Int) ((64 : Nat) : Int)) fun x54 => (k (z53.2, (vspl z42.2.2 x54.1 z53.1 (Nat.min z53.1.length (x54.2 - x54.1))), (w64 (p3 + (p0.length : Int)))))))) (fun z42 => (k (p1, z42, (w64 (p3 + (p0.length : Int)))))) z42)
def T82 (F : Nat) (p0 : List UInt8) (p1 : Vector UInt32 8) (p2 : Vector UInt8 64) (p3 : Int) : Option ((Vector UInt32 8) × (Vector UInt8 64) × Int) := T82c F p0 p1 p2 p3 some
theorem T82n (F : Nat) (p0 : List UInt8) (p1 : Vector UInt32 8) (p2 : Vector UInt8 64) (p3 : Int) {β : Type} (k : ((Vector UInt32 8) × (Vector UInt8 64) × Int) → Option β) : T82c F p0 p1 p2 p3 k = (T82 F p0 p1 p2 p3).bind k := by
  simp only [T82, T82c, Option.bind_assoc, cond_bind, Option.bind_some, elimS_bind]
@[reducible] def cA82 : List Sh := [(.pt 0 []), (.ro .u8)]
@[reducible] def cB82 : List Sh := []
@[reducible] def cT82 : List TSh := [.blk 105 (.pr (.ar 8 .u32) (.pr (.ar 64 .u8) (.pr .i .un)))]
@[reducible] def cU82 : List TSh := [.blk 105 (.pr (.ar 8 .u32) (.pr (.ar 64 .u8) (.pr .i .un)))]
def ct82 (F : Nat) : Ct := mkC 1 cA82 cT82 cB82 cU82 (fun x y => T82 F x.2.1 y.1.1 y.1.2.1 y.1.2.2.1) (fun x y (z : (Vector UInt32 8) × (Vector UInt8 64) × Int) => ((), ((z.1, z.2.1, z.2.2, ()), ())))
theorem eq82 (F : Nat) (x : dens cA82) (y : tdens cT82) : sev (E82 F) 1 [([1, 0, 1, 1], lc82_3 F), ([0, 1, 1, 1], lc82_4 F)] (bodyOf Tryd.f82) [] (mkSt (rng 2) cA82 cT82 x y) (kFn (E82 F) 1 Tryd.f82.results.toList cB82 cU82 fun p q => some (p, q)) =
    T82c F x.2.1 y.1.1 y.1.2.1 y.1.2.2.1 (fun z => some ((), ((z.1, z.2.1, z.2.2, ()), ()))) := by kernel_rfl
theorem ok82 (F : Nat) : Sound Tryd.prog cfg 82 (ct82 F) :=
  mkC_ok (E := E82 F) (lp := [([1, 0, 1, 1], lc82_3 F), ([0, 1, 1, 1], lc82_4 F)]) (code := bodyOf Tryd.f82) Tryd.func82 rfl Tryd.ntmps82 rfl rfl cok (cts82 F) mixed ⟨lo82_3 F, ⟨lo82_4 F, trivial⟩⟩ (by kernel_rfl) (fun x y k => T82c F x.2.1 y.1.1 y.1.2.1 y.1.2.2.1 k) (fun x y k => T82n F x.2.1 y.1.1 y.1.2.1 y.1.2.2.1 k) (eq82 F)
end Go.Proofs.YtjghgfohpihhfaaDoor
/- (*kinkeep/sha256.State).Sum: its twin, and that the call does what the twin says. Printed by a program. -/
namespace Go.Proofs.YtjghgfohpihhfaaDoor
open Go.Tw
set_option linter.unusedSimpArgs false
set_option linter.unusedVariables false
def ord83 : Nat → List (Tag × Nat)
  | _ => []
def al83 : Nat → Option Nat
  | _ => none
def E83 (F : Nat) : Ev := ⟨cfg, 68, ctOf [(82, ct82 F)], ord83, ctOf [], al83⟩
theorem cts83 (F : Nat) : CtsOk Tryd.prog (E83 F) := cts_of (l := [(82, ct82 F)]) (l' := []) rfl rfl ⟨⟨ok82 F, _, Tryd.func82, rfl, rfl⟩, trivial⟩ trivial
def L83_4c (F : Nat) (y30 : (Vector UInt32 8) × (Vector UInt8 64) × Int × Unit) (y34 : List UInt8) {β : Type} (kA : ((List UInt8)) → Option β) (kO : ((List UInt8)) → Option β) : Option β :=
  (bif ((Int.tmod (w64 (y30.2.2.1 + (y34.length : Int))) (64 : Int)) != (56 : Int)) then (Option.bind (gapp y34 ([(UInt8.ofNat 0)] : List UInt8)) fun x36 => (kA x36)) else (kO y34))
def L83_4 (F : Nat) (y30 : (Vector UInt32 8) × (Vector UInt8 64) × Int × Unit) (y34 : List UInt8) : Option (((List UInt8)) ⊕ ((List UInt8))) := L83_4c F y30 y34 (fun s => some (.inl s)) (fun z => some (.inr z))
theorem L83_4n (F : Nat) (y30 : (Vector UInt32 8) × (Vector UInt8 64) × Int × Unit) (y34 : List UInt8) {β : Type} (kA : ((List UInt8)) → Option β) (kO : ((List UInt8)) → Option β) : L83_4c F y30 y34 kA kO = (L83_4 F y30 y34).bind (elimS kA kO) := by
  simp only [L83_4, L83_4c, Option.bind_assoc, cond_bind, Option.bind_some, elimS_l, elimS_r, elimS_bind]
@[reducible] def sA83_4 : List Sh := [(.re (.pr (.ar 8 .u32) (.pr (.ar 64 .u8) (.pr .i .un)))), (.pt 0 []), (.rw 1)]
@[reducible] def sA183_4 : List Sh := [(.re (.pr (.ar 8 .u32) (.pr (.ar 64 .u8) (.pr .i .un)))), (.pt 0 []), (.rw 1)]
@[reducible] def sT83_4 : List TSh := [.blk 105 (.pr (.ar 8 .u32) (.pr (.ar 64 .u8) (.pr .i .un))), .row 5 .u8]
@[reducible] def sT183_4 : List TSh := [.blk 105 (.pr (.ar 8 .u32) (.pr (.ar 64 .u8) (.pr .i .un))), .row 5 .u8]
def lc83_4 (F : Nat) : Lc := mkL [0, 3, 4] sA83_4 sT83_4 [0, 3, 4] sA183_4 sT183_4 F (fun x y (s : (List UInt8)) => L83_4 F x.1 s) (fun x y => y.2.1) (fun x y (z : (List UInt8)) => ((x.1, (), (), ()), ((y.1.1, y.1.2.1, y.1.2.2.1, ()), z, ())))
theorem le83_4 (F : Nat) (x : dens sA83_4) (y : tdens sT83_4) (s : (List UInt8)) : sev (E83 F) 0 [] (cAt (bodyOf Tryd.f83) (0 :: 0 :: [0, 1, 1, 1])) (0 :: 0 :: [0, 1, 1, 1]) (mkSt [0, 3, 4] sA83_4 sT83_4 (x.1, (), (), ()) ((y.1.1, y.1.2.1, y.1.2.2.1, ()), s, ())) (kLoop 0 [0, 3, 4] sA83_4 sT83_4 [0, 3, 4] sA183_4 sT183_4 [] [] [] 0 (fun x y => some (.inl (x, y))) (fun x y => some (.inr (.inl (x, y)))) (fun x y => some (.inr (.inr (x, y))))) =
    L83_4c (β := Full sA83_4 sT83_4 sA183_4 sT183_4 [] []) F x.1 s (fun s => some (.inl ((x.1, (), (), ()), ((y.1.1, y.1.2.1, y.1.2.2.1, ()), s, ())))) (fun z => some (.inr (.inl ((x.1, (), (), ()), ((y.1.1, y.1.2.1, y.1.2.2.1, ()), z, ()))))) := by kernel_rfl
theorem lo83_4 (F : Nat) : LcOk Tryd.prog (E83 F) 0 (lc83_4 F) (cAt (bodyOf Tryd.f83) [0, 1, 1, 1]) :=
  mkL_ok (lp := []) (id := 0) (b := cAt (bodyOf Tryd.f83) (0 :: 0 :: [0, 1, 1, 1])) cok (cts83 F) mixed trivial (by kernel_rfl) (by kernel_rfl) (fun x y s => (x.1, (), (), ())) (fun x y s => ((y.1.1, y.1.2.1, y.1.2.2.1, ()), s, ())) (fun x y => rfl) (fun x y => rfl) (fun x y s kA kO => L83_4c F x.1 s kA kO) (fun x y s kA kO => L83_4n F x.1 s kA kO) (le83_4 F)
def L83_5c (F : Nat) (y38 : UInt64) (y39 : Int) (y43 : List UInt8) {β : Type} (kA : (Int × (List UInt8)) → Option β) (kO : ((List UInt8)) → Option β) : Option β :=
  (bif (decide ((0 : Int) ≤ y39)) then (Option.bind (gnn y39) fun x46 => (Option.bind (gapp y43 ([((shr64 y38 x46).toUInt8)] : List UInt8)) fun x47 => (kA ((w64 (y39 - (8 : Int))), x47)))) else (kO y43))
def L83_5 (F : Nat) (y38 : UInt64) (y39 : Int) (y43 : List UInt8) : Option ((Int × (List UInt8)) ⊕ ((List UInt8))) := L83_5c F y38 y39 y43 (fun s => some (.inl s)) (fun z => some (.inr z))
theorem L83_5n (F : Nat) (y38 : UInt64) (y39 : Int) (y43 : List UInt8) {β : Type} (kA : (Int × (List UInt8)) → Option β) (kO : ((List UInt8)) → Option β) : L83_5c F y38 y39 y43 kA kO = (L83_5 F y38 y39 y43).bind (elimS kA kO) := by
  simp only [L83_5, L83_5c, Option.bind_assoc, cond_bind, Option.bind_some, elimS_l, elimS_r, elimS_bind]
@[reducible] def sA83_5 : List Sh := [(.pt 0 []), (.rw 1), .u64, .i]
@[reducible] def sA183_5 : List Sh := [(.pt 0 []), (.rw 1)]
@[reducible] def sT83_5 : List TSh := [.blk 105 (.pr (.ar 8 .u32) (.pr (.ar 64 .u8) (.pr .i .un))), .row 5 .u8]
@[reducible] def sT183_5 : List TSh := [.blk 105 (.pr (.ar 8 .u32) (.pr (.ar 64 .u8) (.pr .i .un))), .row 5 .u8]
def lc83_5 (F : Nat) : Lc := mkL [3, 4, 5, 6] sA83_5 sT83_5 [3, 4] sA183_5 sT183_5 F (fun x y (s : Int × (List UInt8)) => L83_5 F x.2.2.1 s.1 s.2) (fun x y => (x.2.2.2.1, y.2.1)) (fun x y (z : (List UInt8)) => (((), (), ()), ((y.1.1, y.1.2.1, y.1.2.2.1, ()), z, ())))
theorem le83_5 (F : Nat) (x : dens sA83_5) (y : tdens sT83_5) (s : Int × (List UInt8)) : sev (E83 F) 0 [] (cAt (bodyOf Tryd.f83) (0 :: 0 :: [1, 0, 1, 1, 1, 1, 1])) (0 :: 0 :: [1, 0, 1, 1, 1, 1, 1]) (mkSt [3, 4, 5, 6] sA83_5 sT83_5 ((), (), x.2.2.1, s.1, ()) ((y.1.1, y.1.2.1, y.1.2.2.1, ()), s.2, ())) (kLoop 0 [3, 4, 5, 6] sA83_5 sT83_5 [3, 4] sA183_5 sT183_5 [] [] [] 2 (fun x y => some (.inl (x, y))) (fun x y => some (.inr (.inl (x, y)))) (fun x y => some (.inr (.inr (x, y))))) =
    L83_5c (β := Full sA83_5 sT83_5 sA183_5 sT183_5 [] []) F x.2.2.1 s.1 s.2 (fun s => some (.inl (((), (), x.2.2.1, s.1, ()), ((y.1.1, y.1.2.1, y.1.2.2.1, ()), s.2, ())))) (fun z => some (.inr (.inl (((), (), ()), ((y.1.1, y.1.2.1, y.1.2.2.1, ()), z, ()))))) := by kernel_rfl
theorem lo83_5 (F : Nat) : LcOk Tryd.prog (E83 F) 0 (lc83_5 F) (cAt (bodyOf Tryd.f83) [1, 0, 1, 1, 1, 1, 1]) :=
  mkL_ok (lp := []) (id := 2) (b := cAt (bodyOf Tryd.f83) (0 :: 0 :: [1, 0, 1, 1, 1, 1, 1])) cok (cts83 F) mixed trivial (by kernel_rfl) (by kernel_rfl) (fun x y s => ((), (), x.2.2.1, s.1, ())) (fun x y s => ((y.1.1, y.1.2.1, y.1.2.2.1, ()), s.2, ())) (fun x y => rfl) (fun x y => rfl) (fun x y s kA kO => L83_5c F x.2.2.1 s.1 s.2 kA kO) (fun x y s kA kO => L83_5n F x.2.2.1 s.1 s.2 kA kO) (le83_5 F)
def L83_6c (F : Nat) (y51 : Vector UInt32 8) (y52 : Int) (y53 : List UInt8) {β : Type} (kA : (Int × (List UInt8)) → Option β) (kO : ((List UInt8)) → Option β) : Option β :=
  (bif (decide (y52 < (8 : Int))) then (Option.bind (vix y51 y52) fun x56 => (Option.bind (gapp y53 ([((shr32 x56 ((UInt64.ofNat 24).toNat)).toUInt8), ((shr32 x56 ((UInt64.ofNat 16).toNat)).toUInt8), ((shr32 x56 ((UInt64.ofNat 8).toNat)).toUInt8), (x56.toUInt8)] : List UInt8)) fun x57 => (kA ((w64 (y52 + (1 : Int))), x57)))) else (kO y53))
def L83_6 (F : Nat) (y51 : Vector UInt32 8) (y52 : Int) (y53 : List UInt8) : Option ((Int × (List UInt8)) ⊕ ((List UInt8))) := L83_6c F y51 y52 y53 (fun s => some (.inl s)) (fun z => some (.inr z))
theorem L83_6n (F : Nat) (y51 : Vector UInt32 8) (y52 : Int) (y53 : List UInt8) {β : Type} (kA : (Int × (List UInt8)) → Option β) (kO : ((List UInt8)) → Option β) : L83_6c F y51 y52 y53 kA kO = (L83_6 F y51 y52 y53).bind (elimS kA kO) := by
  simp only [L83_6, L83_6c, Option.bind_assoc, cond_bind, Option.bind_some, elimS_l, elimS_r, elimS_bind]
@[reducible] def sA83_6 : List Sh := [(.rw 0), (.ar 8 .u32), .i]
@[reducible] def sA183_6 : List Sh := [(.rw 0)]
@[reducible] def sT83_6 : List TSh := [.row 5 .u8]
@[reducible] def sT183_6 : List TSh := [.row 5 .u8]
def lc83_6 (F : Nat) : Lc := mkL [7, 47, 48] sA83_6 sT83_6 [7] sA183_6 sT183_6 F (fun x y (s : Int × (List UInt8)) => L83_6 F x.2.1 s.1 s.2) (fun x y => (x.2.2.1, y.1)) (fun x y (z : (List UInt8)) => (((), ()), (z, ())))
theorem le83_6 (F : Nat) (x : dens sA83_6) (y : tdens sT83_6) (s : Int × (List UInt8)) : sev (E83 F) 0 [] (cAt (bodyOf Tryd.f83) (0 :: 0 :: [1, 0, 1, 1, 1, 1, 1, 1, 1, 1])) (0 :: 0 :: [1, 0, 1, 1, 1, 1, 1, 1, 1, 1]) (mkSt [7, 47, 48] sA83_6 sT83_6 ((), x.2.1, s.1, ()) (s.2, ())) (kLoop 0 [7, 47, 48] sA83_6 sT83_6 [7] sA183_6 sT183_6 [] [] [] 4 (fun x y => some (.inl (x, y))) (fun x y => some (.inr (.inl (x, y)))) (fun x y => some (.inr (.inr (x, y))))) =
    L83_6c (β := Full sA83_6 sT83_6 sA183_6 sT183_6 [] []) F x.2.1 s.1 s.2 (fun s => some (.inl (((), x.2.1, s.1, ()), (s.2, ())))) (fun z => some (.inr (.inl (((), ()), (z, ()))))) := by kernel_rfl
theorem lo83_6 (F : Nat) : LcOk Tryd.prog (E83 F) 0 (lc83_6 F) (cAt (bodyOf Tryd.f83) [1, 0, 1, 1, 1, 1, 1, 1, 1, 1]) :=
  mkL_ok (lp := []) (id := 4) (b := cAt (bodyOf Tryd.f83) (0 :: 0 :: [1, 0, 1, 1, 1, 1, 1, 1, 1, 1])) cok (cts83 F) mixed trivial (by kernel_rfl) (by kernel_rfl) (fun x y s => ((), x.2.1, s.1, ())) (fun x y s => (s.2, ())) (fun x y => rfl) (fun x y => rfl) (fun x y s kA kO => L83_6c F x.2.1 s.1 s.2 kA kO) (fun x y s kA kO => L83_6n F x.2.1 s.1 s.2 kA kO) (le83_6 F)
def T83c (F : Nat) (p0 : (Vector UInt32 8) × (Vector UInt8 64) × Int × Unit) {β : Type} (k : ((List UInt8)) → Option β) : Option β :=
  (Option.bind (iter (fun s => L83_4 F p0 s) F ([(UInt8.ofNat 128)] : List UInt8)) fun z37 => (Option.bind (iter (fun s => L83_5 F ((UInt64.ofInt p0.2.2.1) * (UInt64.ofNat 8)) s.1 s.2) F ((56 : Int), z37)) fun z48 => (Option.bind (T82 F z48 p0.1 p0.2.1 p0.2.2.1) fun z49 => (Option.bind (gmake (0 : UInt8) (0 : Int) (32 : Int)) fun x50 => (Option.bind (iter (fun s => L83_6 F z49.1 s.1 s.2) F ((0 : Int), x50)) fun z58 => (k z58))))))
def T83 (F : Nat) (p0 : (Vector UInt32 8) × (Vector UInt8 64) × Int × Unit) : Option ((List UInt8)) := T83c F p0 some
theorem T83n (F : Nat) (p0 : (Vector UInt32 8) × (Vector UInt8 64) × Int × Unit) {β : Type} (k : ((List UInt8)) → Option β) : T83c F p0 k = (T83 F p0).bind k := by
  simp only [T83, T83c, Option.bind_assoc, cond_bind, Option.bind_some, elimS_bind]
@[reducible] def cA83 : List Sh := [(.re (.pr (.ar 8 .u32) (.pr (.ar 64 .u8) (.pr .i .un))))]
@[reducible] def cB83 : List Sh := [.str]
@[reducible] def cT83 : List TSh := []
@[reducible] def cU83 : List TSh := []
def ct83 (F : Nat) : Ct := mkC 0 cA83 cT83 cB83 cU83 (fun x y => T83 F x.1) (fun x y (z : (List UInt8)) => ((z, ()), ()))
theorem eq83 (F : Nat) (x : dens cA83) (y : tdens cT83) : sev (E83 F) 0 [([0, 1, 1, 1], lc83_4 F), ([1, 0, 1, 1, 1, 1, 1], lc83_5 F), ([1, 0, 1, 1, 1, 1, 1, 1, 1, 1], lc83_6 F)] (bodyOf Tryd.f83) [] (mkSt (rng 1) cA83 cT83 x y) (kFn (E83 F) 0 Tryd.f83.results.toList cB83 cU83 fun p q => some (p, q)) =
    T83c F x.1 (fun z => some ((z, ()), ())) := by kernel_rfl
theorem ok83 (F : Nat) : Sound Tryd.prog cfg 83 (ct83 F) :=
  mkC_ok (E := E83 F) (lp := [([0, 1, 1, 1], lc83_4 F), ([1, 0, 1, 1, 1, 1, 1], lc83_5 F), ([1, 0, 1, 1, 1, 1, 1, 1, 1, 1], lc83_6 F)]) (code := bodyOf Tryd.f83) Tryd.func83 rfl Tryd.ntmps83 rfl rfl cok (cts83 F) mixed ⟨lo83_4 F, ⟨lo83_5 F, ⟨lo83_6 F, trivial⟩⟩⟩ (by kernel_rfl) (fun x y k => T83c F x.1 k) (fun x y k => T83n F x.1 k) (eq83 F)
end Go.Proofs.YtjghgfohpihhfaaDoor
/- kinkeep/sha256.Join: its twin, and that the call does what the twin says. Printed by a program. -/
namespace Go.Proofs.YtjghgfohpihhfaaDoor
open Go.Tw
set_option linter.unusedSimpArgs false
set_option linter.unusedVariables false
def ord79 : Nat → List (Tag × Nat)
  | _ => []
def al79 : Nat → Option Nat
  | _ => none
def E79 (F : Nat) : Ev := ⟨cfg, 20, ctOf [(81, ct81 F), (82, ct82 F), (83, ct83 F)], ord79, ctOf [], al79⟩
theorem cts79 (F : Nat) : CtsOk Tryd.prog (E79 F) := cts_of (l := [(81, ct81 F), (82, ct82 F), (83, ct83 F)]) (l' := []) rfl rfl ⟨⟨ok81 F, _, Tryd.func81, rfl, rfl⟩, ⟨⟨ok82 F, _, Tryd.func82, rfl, rfl⟩, ⟨⟨ok83 F, _, Tryd.func83, rfl, rfl⟩, trivial⟩⟩⟩ trivial
def L79_2c (F : Nat) (y17 : List (List UInt8)) (y18 : Int) (y19 : Int) (y20 : Vector UInt32 8) (y21 : Vector UInt8 64) (y22 : Int) {β : Type} (kA : (Int × (Vector UInt32 8) × (Vector UInt8 64) × Int) → Option β) (kO : ((Vector UInt32 8) × (Vector UInt8 64) × Int) → Option β) : Option β :=
  (bif (decide (y19 < y18)) then (Option.bind (ix y17 y19) fun x26 => (Option.bind (gstr x26) fun x27 => (Option.bind (T82 F x27 y20 y21 y22) fun z28 => (kA ((w64 (y19 + (1 : Int))), z28.1, z28.2.1, z28.2.2))))) else (kO (y20, y21, y22)))
def L79_2 (F : Nat) (y17 : List (List UInt8)) (y18 : Int) (y19 : Int) (y20 : Vector UInt32 8) (y21 : Vector UInt8 64) (y22 : Int) : Option ((Int × (Vector UInt32 8) × (Vector UInt8 64) × Int) ⊕ ((Vector UInt32 8) × (Vector UInt8 64) × Int)) := L79_2c F y17 y18 y19 y20 y21 y22 (fun s => some (.inl s)) (fun z => some (.inr z))
theorem L79_2n (F : Nat) (y17 : List (List UInt8)) (y18 : Int) (y19 : Int) (y20 : Vector UInt32 8) (y21 : Vector UInt8 64) (y22 : Int) {β : Type} (kA : (Int × (Vector UInt32 8) × (Vector UInt8 64) × Int) → Option β) (kO : ((Vector UInt32 8) × (Vector UInt8 64) × Int) → Option β) : L79_2c F y17 y18 y19 y20 y21 y22 kA kO = (L79_2 F y17 y18 y19 y20 y21 y22).bind (elimS kA kO) := by
  simp only [L79_2, L79_2c, Option.bind_assoc, cond_bind, Option.bind_some, elimS_l, elimS_r, elimS_bind]
@[reducible] def sA79_2 : List Sh := [(.pt 0 []), (.ro .s), .i, .i]
@[reducible] def sA179_2 : List Sh := [(.pt 0 [])]
@[reducible] def sT79_2 : List TSh := [.blk 105 (.pr (.ar 8 .u32) (.pr (.ar 64 .u8) (.pr .i .un)))]
@[reducible] def sT179_2 : List TSh := [.blk 105 (.pr (.ar 8 .u32) (.pr (.ar 64 .u8) (.pr .i .un)))]
def lc79_2 (F : Nat) : Lc := mkL [3, 7, 8, 9] sA79_2 sT79_2 [3] sA179_2 sT179_2 F (fun x y (s : Int × (Vector UInt32 8) × (Vector UInt8 64) × Int) => L79_2 F x.2.1 x.2.2.1 s.1 s.2.1 s.2.2.1 s.2.2.2) (fun x y => (x.2.2.2.1, y.1.1, y.1.2.1, y.1.2.2.1)) (fun x y (z : (Vector UInt32 8) × (Vector UInt8 64) × Int) => (((), ()), ((z.1, z.2.1, z.2.2, ()), ())))
theorem le79_2 (F : Nat) (x : dens sA79_2) (y : tdens sT79_2) (s : Int × (Vector UInt32 8) × (Vector UInt8 64) × Int) : sev (E79 F) 0 [] (cAt (bodyOf Tryd.f79) (0 :: 0 :: [1, 0, 1, 1])) (0 :: 0 :: [1, 0, 1, 1]) (mkSt [3, 7, 8, 9] sA79_2 sT79_2 ((), x.2.1, x.2.2.1, s.1, ()) ((s.2.1, s.2.2.1, s.2.2.2, ()), ())) (kLoop 0 [3, 7, 8, 9] sA79_2 sT79_2 [3] sA179_2 sT179_2 [] [] [] 0 (fun x y => some (.inl (x, y))) (fun x y => some (.inr (.inl (x, y)))) (fun x y => some (.inr (.inr (x, y))))) =
    L79_2c (β := Full sA79_2 sT79_2 sA179_2 sT179_2 [] []) F x.2.1 x.2.2.1 s.1 s.2.1 s.2.2.1 s.2.2.2 (fun s => some (.inl (((), x.2.1, x.2.2.1, s.1, ()), ((s.2.1, s.2.2.1, s.2.2.2, ()), ())))) (fun z => some (.inr (.inl (((), ()), ((z.1, z.2.1, z.2.2, ()), ()))))) := by kernel_rfl
theorem lo79_2 (F : Nat) : LcOk Tryd.prog (E79 F) 0 (lc79_2 F) (cAt (bodyOf Tryd.f79) [1, 0, 1, 1]) :=
  mkL_ok (lp := []) (id := 0) (b := cAt (bodyOf Tryd.f79) (0 :: 0 :: [1, 0, 1, 1])) cok (cts79 F) mixed trivial (by kernel_rfl) (by kernel_rfl) (fun x y s => ((), x.2.1, x.2.2.1, s.1, ())) (fun x y s => ((s.2.1, s.2.2.1, s.2.2.2, ()), ())) (fun x y => rfl) (fun x y => rfl) (fun x y s kA kO => L79_2c F x.2.1 x.2.2.1 s.1 s.2.1 s.2.2.1 s.2.2.2 kA kO) (fun x y s kA kO => L79_2n F x.2.1 x.2.2.1 s.1 s.2.1 s.2.2.1 s.2.2.2 kA kO) (le79_2 F)
def T79c (F : Nat) (p0 : List (List UInt8)) {β : Type} (k : ((List UInt8)) → Option β) : Option β :=
  (Option.bind (T81 F) fun z16 => (Option.bind (iter (fun s => L79_2 F p0 (p0.length : Int) s.1 s.2.1 s.2.2.1 s.2.2.2) F ((0 : Int), z16.1, z16.2.1, z16.2.2)) fun z29 => (Option.bind (T83 F (z29.1, z29.2.1, z29.2.2, ())) fun z30 => (k z30))))
def T79 (F : Nat) (p0 : List (List UInt8)) : Option ((List UInt8)) := T79c F p0 some
theorem T79n (F : Nat) (p0 : List (List UInt8)) {β : Type} (k : ((List UInt8)) → Option β) : T79c F p0 k = (T79 F p0).bind k := by
  simp only [T79, T79c, Option.bind_assoc, cond_bind, Option.bind_some, elimS_bind]
@[reducible] def cA79 : List Sh := [(.ro .s)]
@[reducible] def cB79 : List Sh := [.str]
@[reducible] def cT79 : List TSh := []
@[reducible] def cU79 : List TSh := []
def ct79 (F : Nat) : Ct := mkC 0 cA79 cT79 cB79 cU79 (fun x y => T79 F x.1) (fun x y (z : (List UInt8)) => ((z, ()), ()))
theorem eq79 (F : Nat) (x : dens cA79) (y : tdens cT79) : sev (E79 F) 0 [([1, 0, 1, 1], lc79_2 F)] (bodyOf Tryd.f79) [] (mkSt (rng 1) cA79 cT79 x y) (kFn (E79 F) 0 Tryd.f79.results.toList cB79 cU79 fun p q => some (p, q)) =
    T79c F x.1 (fun z => some ((z, ()), ())) := by kernel_rfl
theorem ok79 (F : Nat) : Sound Tryd.prog cfg 79 (ct79 F) :=
  mkC_ok (E := E79 F) (lp := [([1, 0, 1, 1], lc79_2 F)]) (code := bodyOf Tryd.f79) Tryd.func79 rfl Tryd.ntmps79 rfl rfl cok (cts79 F) mixed ⟨lo79_2 F, trivial⟩ (by kernel_rfl) (fun x y k => T79c F x.1 k) (fun x y k => T79n F x.1 k) (eq79 F)
end Go.Proofs.YtjghgfohpihhfaaDoor
/- kinkeep/hmac.New$1: its twin, and that the call does what the twin says. Printed by a program. -/
namespace Go.Proofs.YtjghgfohpihhfaaDoor
open Go.Tw
set_option linter.unusedSimpArgs false
set_option linter.unusedVariables false
def ord80 : Nat → List (Tag × Nat)
  | _ => []
def al80 : Nat → Option Nat
  | _ => none
def E80 (F : Nat) : Ev := ⟨cfg, 18, ctOf [], ord80, ctOf [], al80⟩
theorem cts80 (F : Nat) : CtsOk Tryd.prog (E80 F) := cts_of (l := []) (l' := []) rfl rfl trivial trivial
def L80_2c (F : Nat) (y10 : UInt8) (y11 : Vector UInt8 64) (y12 : Int) (y13 : Vector UInt8 64) {β : Type} (kA : (Int × (Vector UInt8 64)) → Option β) (kO : ((Vector UInt8 64)) → Option β) : Option β :=
  (bif (decide (y12 < (64 : Int))) then (Option.bind (vix y11 y12) fun x16 => (Option.bind (inb 64 y12) fun x17 => (kA ((w64 (y12 + (1 : Int))), (Vector.setIfInBounds y13 x17 (x16 ^^^ y10)))))) else (kO y13))
def L80_2 (F : Nat) (y10 : UInt8) (y11 : Vector UInt8 64) (y12 : Int) (y13 : Vector UInt8 64) : Option ((Int × (Vector UInt8 64)) ⊕ ((Vector UInt8 64))) := L80_2c F y10 y11 y12 y13 (fun s => some (.inl s)) (fun z => some (.inr z))
theorem L80_2n (F : Nat) (y10 : UInt8) (y11 : Vector UInt8 64) (y12 : Int) (y13 : Vector UInt8 64) {β : Type} (kA : (Int × (Vector UInt8 64)) → Option β) (kO : ((Vector UInt8 64)) → Option β) : L80_2c F y10 y11 y12 y13 kA kO = (L80_2 F y10 y11 y12 y13).bind (elimS kA kO) := by
  simp only [L80_2, L80_2c, Option.bind_assoc, cond_bind, Option.bind_some, elimS_l, elimS_r, elimS_bind]
@[reducible] def sA80_2 : List Sh := [.u8, (.pt 0 []), (.ar 64 .u8), .i]
@[reducible] def sA180_2 : List Sh := [(.pt 0 [])]
@[reducible] def sT80_2 : List TSh := [.blk 101 (.ar 64 .u8)]
@[reducible] def sT180_2 : List TSh := [.blk 101 (.ar 64 .u8)]
def lc80_2 (F : Nat) : Lc := mkL [0, 3, 6, 7] sA80_2 sT80_2 [3] sA180_2 sT180_2 F (fun x y (s : Int × (Vector UInt8 64)) => L80_2 F x.1 x.2.2.1 s.1 s.2) (fun x y => (x.2.2.2.1, y.1)) (fun x y (z : (Vector UInt8 64)) => (((), ()), (z, ())))
theorem le80_2 (F : Nat) (x : dens sA80_2) (y : tdens sT80_2) (s : Int × (Vector UInt8 64)) : sev (E80 F) 0 [] (cAt (bodyOf Tryd.f80) (0 :: 0 :: [1, 0, 1])) (0 :: 0 :: [1, 0, 1]) (mkSt [0, 3, 6, 7] sA80_2 sT80_2 (x.1, (), x.2.2.1, s.1, ()) (s.2, ())) (kLoop 0 [0, 3, 6, 7] sA80_2 sT80_2 [3] sA180_2 sT180_2 [] [] [] 0 (fun x y => some (.inl (x, y))) (fun x y => some (.inr (.inl (x, y)))) (fun x y => some (.inr (.inr (x, y))))) =
    L80_2c (β := Full sA80_2 sT80_2 sA180_2 sT180_2 [] []) F x.1 x.2.2.1 s.1 s.2 (fun s => some (.inl ((x.1, (), x.2.2.1, s.1, ()), (s.2, ())))) (fun z => some (.inr (.inl (((), ()), (z, ()))))) := by kernel_rfl
theorem lo80_2 (F : Nat) : LcOk Tryd.prog (E80 F) 0 (lc80_2 F) (cAt (bodyOf Tryd.f80) [1, 0, 1]) :=
  mkL_ok (lp := []) (id := 0) (b := cAt (bodyOf Tryd.f80) (0 :: 0 :: [1, 0, 1])) cok (cts80 F) mixed trivial (by kernel_rfl) (by kernel_rfl) (fun x y s => (x.1, (), x.2.2.1, s.1, ())) (fun x y s => (s.2, ())) (fun x y => rfl) (fun x y => rfl) (fun x y s kA kO => L80_2c F x.1 x.2.2.1 s.1 s.2 kA kO) (fun x y s kA kO => L80_2n F x.1 x.2.2.1 s.1 s.2 kA kO) (le80_2 F)
def T80c (F : Nat) (p0 : UInt8) (p1 : Vector UInt8 64) {β : Type} (k : ((Vector UInt8 64)) → Option β) : Option β :=
  (Option.bind (iter (fun s => L80_2 F p0 p1 s.1 s.2) F ((0 : Int), (Vector.replicate 64 (0 : UInt8)))) fun z18 => (k z18))
def T80 (F : Nat) (p0 : UInt8) (p1 : Vector UInt8 64) : Option ((Vector UInt8 64)) := T80c F p0 p1 some
theorem T80n (F : Nat) (p0 : UInt8) (p1 : Vector UInt8 64) {β : Type} (k : ((Vector UInt8 64)) → Option β) : T80c F p0 p1 k = (T80 F p0 p1).bind k := by
  simp only [T80, T80c, Option.bind_assoc, cond_bind, Option.bind_some, elimS_bind]
@[reducible] def cA80 : List Sh := [.u8, (.re (.ar 64 .u8))]
@[reducible] def cB80 : List Sh := [(.ar 64 .u8)]
@[reducible] def cT80 : List TSh := []
@[reducible] def cU80 : List TSh := []
def ct80 (F : Nat) : Ct := mkC 0 cA80 cT80 cB80 cU80 (fun x y => T80 F x.1 x.2.1) (fun x y (z : (Vector UInt8 64)) => ((z, ()), ()))
theorem eq80 (F : Nat) (x : dens cA80) (y : tdens cT80) : sev (E80 F) 0 [([1, 0, 1], lc80_2 F)] (bodyOf Tryd.f80) [] (mkSt (rng 2) cA80 cT80 x y) (kFn (E80 F) 0 Tryd.f80.results.toList cB80 cU80 fun p q => some (p, q)) =
    T80c F x.1 x.2.1 (fun z => some ((z, ()), ())) := by kernel_rfl
theorem ok80 (F : Nat) : Sound Tryd.prog cfg 80 (ct80 F) :=
  mkC_ok (E := E80 F) (lp := [([1, 0, 1], lc80_2 F)]) (code := bodyOf Tryd.f80) Tryd.func80 rfl Tryd.ntmps80 rfl rfl cok (cts80 F) mixed ⟨lo80_2 F, trivial⟩ (by kernel_rfl) (fun x y k => T80c F x.1 x.2.1 k) (fun x y k => T80n F x.1 x.2.1 k) (eq80 F)
end Go.Proofs.YtjghgfohpihhfaaDoor
/- (*kinkeep/sha256.State).process: its twin, and that the call does what the twin says. Printed by a program. -/
namespace Go.Proofs.YtjghgfohpihhfaaDoor
open Go.Tw
set_option linter.unusedSimpArgs false
set_option linter.unusedVariables false
def ord91x2 : Nat → List (Tag × Nat)
  | 6 => [(.p, 0), (.p, 1), (.p, 2), (.r, 3), (.p, 4), (.p, 5), (.p, 6), (.p, 7), (.r, 8), (.p, 9), (.p, 10), (.p, 11), (.p, 12), (.p, 13), (.r, 14), (.p, 15), (.p, 16), (.p, 17), (.p, 18), (.p, 19), (.r, 20), (.p, 21), (.p, 22), (.p, 23), (.w, 24)]
  | 7 => [(.p, 0), (.p, 1), (.p, 2), (.r, 3), (.p, 4), (.p, 5), (.p, 6), (.r, 7), (.p, 8), (.p, 9)]
  | 10 => [(.p, 0), (.p, 1), (.p, 2), (.p, 3), (.p, 4), (.r, 5), (.p, 6), (.p, 7), (.p, 8), (.p, 9), (.p, 10), (.p, 11), (.r, 12), (.p, 13), (.p, 14), (.w, 15)]
  | 13 => [(.p, 0), (.r, 1), (.p, 2), (.r, 3), (.p, 4), (.r, 5), (.p, 6), (.r, 7), (.p, 8), (.r, 9), (.p, 10), (.r, 11), (.p, 12), (.r, 13), (.p, 14), (.r, 15), (.p, 16), (.p, 17), (.p, 18), (.p, 19), (.p, 20), (.p, 21), (.p, 22), (.p, 23)]
  | 19 => [(.p, 0), (.p, 1), (.p, 2), (.p, 3), (.p, 4), (.p, 5), (.p, 6), (.p, 7), (.p, 8), (.p, 9), (.p, 10), (.p, 11), (.p, 12), (.p, 13), (.r, 14), (.p, 15), (.p, 16), (.p, 17), (.r, 18), (.p, 19), (.p, 20)]
  | 26 => [(.p, 0), (.p, 1), (.p, 2), (.p, 3), (.r, 4), (.p, 5), (.p, 6), (.p, 7), (.p, 8), (.p, 9), (.w, 10)]
  | _ => []
def al91x2 : Nat → Option Nat
  | _ => none
def E91x2 (F : Nat) : Ev := ⟨cfg, 212, ctOf [(94, ct94 F)], ord91x2, ctOf [], al91x2⟩
theorem cts91x2 (F : Nat) : CtsOk Tryd.prog (E91x2 F) := cts_of (l := [(94, ct94 F)]) (l' := []) rfl rfl ⟨⟨ok94 F, _, Tryd.func94, rfl, rfl⟩, trivial⟩ trivial
def L91x2_4c (F : Nat) (y116 : Vector UInt8 64) (y113 : Nat × Nat) (y114 : Int) (y119 : Vector UInt32 64) {β : Type} (kA : ((Nat × Nat) × Int × (Vector UInt32 64)) → Option β) (kO : ((Vector UInt32 64)) → Option β) : Option β :=
  (bif (decide (y114 < (64 : Int))) then (bif (decide (y114 < (16 : Int))) then (Option.bind (gslb (y113.2 - y113.1) (w64 ((4 : Int) * y114)) (w64 ((w64 ((4 : Int) * y114)) + (4 : Int)))) fun x143 => (Option.bind (inb ((y113.1 + x143.2) - (y113.1 + x143.1)) (0 : Int)) fun x144 => (Option.bind (vat y116 ((y113.1 + x143.1) + x144)) fun x145 => (Option.bind (inb ((y113.1 + x143.2) - (y113.1 + x143.1)) (1 : Int)) fun x146 => (Option.bind (vat y116 ((y113.1 + x143.1) + x146)) fun x147 => (Option.bind (inb ((y113.1 + x143.2) - (y113.1 + x143.1)) (2 : Int)) fun x148 => (Option.bind (vat y116 ((y113.1 + x143.1) + x148)) fun x149 => (Option.bind (inb ((y113.1 + x143.2) - (y113.1 + x143.1)) (3 : Int)) fun x150 => (Option.bind (vat y116 ((y113.1 + x143.1) + x150)) fun x151 => (Option.bind (inb 64 y114) fun x152 => (kA ((y113.1, y113.2), (w64 (y114 + (1 : Int))), (Vector.setIfInBounds y119 x152 ((((shl32 (x145.toUInt32) ((UInt64.ofNat 24).toNat)) ||| (shl32 (x147.toUInt32) ((UInt64.ofNat 16).toNat))) ||| (shl32 (x149.toUInt32) ((UInt64.ofNat 8).toNat))) ||| (x151.toUInt32))))))))))))))) else (Option.bind (inb 64 (w64 (y114 - (2 : Int)))) fun x153 => (Option.bind (vat y119 x153) fun x154 => (Option.bind (inb 64 (w64 (y114 - (15 : Int)))) fun x155 => (Option.bind (vat y119 x155) fun x156 => (Option.bind (T94 F x154 (-17 : Int)) fun z157 => (Option.bind (T94 F x154 (-19 : Int)) fun z158 => (Option.bind (T94 F x156 (-7 : Int)) fun z159 => (Option.bind (T94 F x156 (-18 : Int)) fun z160 => (Option.bind (inb 64 (w64 (y114 - (7 : Int)))) fun x161 => (Option.bind (vat y119 x161) fun x162 => (Option.bind (inb 64 (w64 (y114 - (16 : Int)))) fun x163 => (Option.bind (vat y119 x163) fun x164 => (Option.bind (inb 64 y114) fun x165 => (kA ((y113.1, y113.2), (w64 (y114 + (1 : Int))), (Vector.setIfInBounds y119 x165 (((((z157 ^^^ z158) ^^^ (shr32 x154 ((UInt64.ofNat 10).toNat))) + x162) + ((z159 ^^^ z160) ^^^ (shr32 x156 ((UInt64.ofNat 3).toNat)))) + x164)))))))))))))))))) else (kO y119))
def L91x2_4 (F : Nat) (y116 : Vector UInt8 64) (y113 : Nat × Nat) (y114 : Int) (y119 : Vector UInt32 64) : Option (((Nat × Nat) × Int × (Vector UInt32 64)) ⊕ ((Vector UInt32 64))) := L91x2_4c F y116 y113 y114 y119 (fun s => some (.inl s)) (fun z => some (.inr z))
theorem L91x2_4n (F : Nat) (y116 : Vector UInt8 64) (y113 : Nat × Nat) (y114 : Int) (y119 : Vector UInt32 64) {β : Type} (kA : ((Nat × Nat) × Int × (Vector UInt32 64)) → Option β) (kO : ((Vector UInt32 64)) → Option β) : L91x2_4c F y116 y113 y114 y119 kA kO = (L91x2_4 F y116 y113 y114 y119).bind (elimS kA kO) := by
  simp only [L91x2_4, L91x2_4c, Option.bind_assoc, cond_bind, Option.bind_some, elimS_l, elimS_r, elimS_bind]
@[reducible] def sA91x2_4 : List Sh := [(.pt 0 [0, 0]), (.ap 0 [0, 0, 1]), (.pt 1 []), .i]
@[reducible] def sA191x2_4 : List Sh := [(.pt 0 [0, 0]), (.pt 1 [])]
@[reducible] def sT91x2_4 : List TSh := [.blk 112 (.pr (.pr (.pr (.ar 8 .u32) (.pr (.ar 64 .u8) (.pr .i .un))) (.pr (.ar 64 .u8) .un)) .un), .blk 123 (.ar 64 .u32)]
@[reducible] def sT191x2_4 : List TSh := [.blk 112 (.pr (.pr (.pr (.ar 8 .u32) (.pr (.ar 64 .u8) (.pr .i .un))) (.pr (.ar 64 .u8) .un)) .un), .blk 123 (.ar 64 .u32)]
def lc91x2_4 (F : Nat) : Lc := mkL [0, 1, 4, 27] sA91x2_4 sT91x2_4 [0, 4] sA191x2_4 sT191x2_4 F (fun x y (s : (Nat × Nat) × Int × (Vector UInt32 64)) => L91x2_4 F y.1.1.1.2.1 s.1 s.2.1 s.2.2) (fun x y => (x.2.1, x.2.2.2.1, y.2.1)) (fun x y (z : (Vector UInt32 64)) => (((), (), ()), ((((y.1.1.1.1, y.1.1.1.2.1, y.1.1.1.2.2.1, ()), y.1.1.2.1, ()), ()), z, ())))
theorem le91x2_4 (F : Nat) (x : dens sA91x2_4) (y : tdens sT91x2_4) (s : (Nat × Nat) × Int × (Vector UInt32 64)) : sev (E91x2 F) 1 [] (cAt (bodyOf Tryd.f91) (0 :: 0 :: [1, 0, 1])) (0 :: 0 :: [1, 0, 1]) (mkSt [0, 1, 4, 27] sA91x2_4 sT91x2_4 ((), s.1, (), s.2.1, ()) ((((y.1.1.1.1, y.1.1.1.2.1, y.1.1.1.2.2.1, ()), y.1.1.2.1, ()), ()), s.2.2, ())) (kLoop 1 [0, 1, 4, 27] sA91x2_4 sT91x2_4 [0, 4] sA191x2_4 sT191x2_4 [] [] [] 0 (fun x y => some (.inl (x, y))) (fun x y => some (.inr (.inl (x, y)))) (fun x y => some (.inr (.inr (x, y))))) =
    L91x2_4c (β := Full sA91x2_4 sT91x2_4 sA191x2_4 sT191x2_4 [] []) F y.1.1.1.2.1 s.1 s.2.1 s.2.2 (fun s => some (.inl (((), s.1, (), s.2.1, ()), ((((y.1.1.1.1, y.1.1.1.2.1, y.1.1.1.2.2.1, ()), y.1.1.2.1, ()), ()), s.2.2, ())))) (fun z => some (.inr (.inl (((), (), ()), ((((y.1.1.1.1, y.1.1.1.2.1, y.1.1.1.2.2.1, ()), y.1.1.2.1, ()), ()), z, ()))))) := by kernel_rfl
theorem lo91x2_4 (F : Nat) : LcOk Tryd.prog (E91x2 F) 1 (lc91x2_4 F) (cAt (bodyOf Tryd.f91) [1, 0, 1]) :=
  mkL_ok (lp := []) (id := 0) (b := cAt (bodyOf Tryd.f91) (0 :: 0 :: [1, 0, 1])) cok (cts91x2 F) mixed trivial (by kernel_rfl) (by kernel_rfl) (fun x y s => ((), s.1, (), s.2.1, ())) (fun x y s => ((((y.1.1.1.1, y.1.1.1.2.1, y.1.1.1.2.2.1, ()), y.1.1.2.1, ()), ()), s.2.2, ())) (fun x y => rfl) (fun x y => rfl) (fun x y s kA kO => L91x2_4c F y.1.1.1.2.1 s.1 s.2.1 s.2.2 kA kO) (fun x y s kA kO => L91x2_4n F y.1.1.1.2.1 s.1 s.2.1 s.2.2 kA kO) (le91x2_4 F)
def L91x2_5c (F : Nat) (y188 : Vector UInt32 64) (y175 : UInt32) (y176 : UInt32) (y177 : UInt32) (y178 : UInt32) (y179 : UInt32) (y180 : UInt32) (y181 : UInt32) (y182 : UInt32) (y183 : Int) {β : Type} (kA : (UInt32 × UInt32 × UInt32 × UInt32 × UInt32 × UInt32 × UInt32 × UInt32 × Int) → Option β) (kO : (UInt32 × UInt32 × UInt32 × UInt32 × UInt32 × UInt32 × UInt32 × UInt32) → Option β) : Option β :=
  (bif (decide (y183 < (64 : Int))) then (Option.bind (T94 F y179 (-6 : Int)) fun z199 => (Option.bind (T94 F y179 (-11 : Int)) fun z200 => (Option.bind (T94 F y179 (-25 : Int)) fun z201 => (Option.bind (T94 F y175 (-2 : Int)) fun z202 => (Option.bind (T94 F y175 (-13 : Int)) fun z203 => (Option.bind (T94 F y175 (-22 : Int)) fun z204 => (Option.bind (vix (gv2) y183) fun x205 => (Option.bind (inb 64 y183) fun x206 => (Option.bind (vat y188 x206) fun x207 => (kA ((((((y182 + ((z199 ^^^ z200) ^^^ z201)) + ((y179 &&& y180) ^^^ ((~~~y179) &&& y181))) + x205) + x207) + (((z202 ^^^ z203) ^^^ z204) + (((y175 &&& y176) ^^^ (y175 &&& y177)) ^^^ (y176 &&& y177)))), y175, y176, y177, (y178 + ((((y182 + ((z199 ^^^ z200) ^^^ z201)) + ((y179 &&& y180) ^^^ ((~~~y179) &&& y181))) + x205) + x207)), y179, y180, y181, (w64 (y183 + (1 : Int)))))))))))))) else (kO (y175, y176, y177, y178, y179, y180, y181, y182)))
def L91x2_5 (F : Nat) (y188 : Vector UInt32 64) (y175 : UInt32) (y176 : UInt32) (y177 : UInt32) (y178 : UInt32) (y179 : UInt32) (y180 : UInt32) (y181 : UInt32) (y182 : UInt32) (y183 : Int) : Option ((UInt32 × UInt32 × UInt32 × UInt32 × UInt32 × UInt32 × UInt32 × UInt32 × Int) ⊕ (UInt32 × UInt32 × UInt32 × UInt32 × UInt32 × UInt32 × UInt32 × UInt32)) := L91x2_5c F y188 y175 y176 y177 y178 y179 y180 y181 y182 y183 (fun s => some (.inl s)) (fun z => some (.inr z))
theorem L91x2_5n (F : Nat) (y188 : Vector UInt32 64) (y175 : UInt32) (y176 : UInt32) (y177 : UInt32) (y178 : UInt32) (y179 : UInt32) (y180 : UInt32) (y181 : UInt32) (y182 : UInt32) (y183 : Int) {β : Type} (kA : (UInt32 × UInt32 × UInt32 × UInt32 × UInt32 × UInt32 × UInt32 × UInt32 × Int) → Option β) (kO : (UInt32 × UInt32 × UInt32 × UInt32 × UInt32 × UInt32 × UInt32 × UInt32) → Option β) : L91x2_5c F y188 y175 y176 y177 y178 y179 y180 y181 y182 y183 kA kO = (L91x2_5 F y188 y175 y176 y177 y178 y179 y180 y181 y182 y183).bind (elimS kA kO) := by
  simp only [L91x2_5, L91x2_5c, Option.bind_assoc, cond_bind, Option.bind_some, elimS_l, elimS_r, elimS_bind]
@[reducible] def sA91x2_5 : List Sh := [(.pt 0 [0, 0]), (.pt 1 []), (.pt 2 []), .u32, .u32, .u32, .u32, .u32, .u32, .u32, .u32, .i]
@[reducible] def sA191x2_5 : List Sh := [(.pt 0 [0, 0]), (.pt 1 []), .u32, .u32, .u32, .u32, .u32, .u32, .u32, .u32]
@[reducible] def sT91x2_5 : List TSh := [.blk 112 (.pr (.pr (.pr (.ar 8 .u32) (.pr (.ar 64 .u8) (.pr .i .un))) (.pr (.ar 64 .u8) .un)) .un), .blk 123 (.ar 64 .u32), .blk 103 (.ar 8 .u32)]
@[reducible] def sT191x2_5 : List TSh := [.blk 112 (.pr (.pr (.pr (.ar 8 .u32) (.pr (.ar 64 .u8) (.pr .i .un))) (.pr (.ar 64 .u8) .un)) .un), .blk 103 (.ar 8 .u32)]
def lc91x2_5 (F : Nat) : Lc := mkL [0, 4, 11, 12, 13, 14, 15, 16, 17, 18, 19, 123] sA91x2_5 sT91x2_5 [0, 11, 12, 13, 14, 15, 16, 17, 18, 19] sA191x2_5 sT191x2_5 F (fun x y (s : UInt32 × UInt32 × UInt32 × UInt32 × UInt32 × UInt32 × UInt32 × UInt32 × Int) => L91x2_5 F y.2.1 s.1 s.2.1 s.2.2.1 s.2.2.2.1 s.2.2.2.2.1 s.2.2.2.2.2.1 s.2.2.2.2.2.2.1 s.2.2.2.2.2.2.2.1 s.2.2.2.2.2.2.2.2) (fun x y => (x.2.2.2.1, x.2.2.2.2.1, x.2.2.2.2.2.1, x.2.2.2.2.2.2.1, x.2.2.2.2.2.2.2.1, x.2.2.2.2.2.2.2.2.1, x.2.2.2.2.2.2.2.2.2.1, x.2.2.2.2.2.2.2.2.2.2.1, x.2.2.2.2.2.2.2.2.2.2.2.1)) (fun x y (z : UInt32 × UInt32 × UInt32 × UInt32 × UInt32 × UInt32 × UInt32 × UInt32) => (((), (), z.1, z.2.1, z.2.2.1, z.2.2.2.1, z.2.2.2.2.1, z.2.2.2.2.2.1, z.2.2.2.2.2.2.1, z.2.2.2.2.2.2.2, ()), ((((y.1.1.1.1, y.1.1.1.2.1, y.1.1.1.2.2.1, ()), y.1.1.2.1, ()), ()), y.2.2.1, ())))
theorem le91x2_5 (F : Nat) (x : dens sA91x2_5) (y : tdens sT91x2_5) (s : UInt32 × UInt32 × UInt32 × UInt32 × UInt32 × UInt32 × UInt32 × UInt32 × Int) : sev (E91x2 F) 1 [] (cAt (bodyOf Tryd.f91) (0 :: 0 :: [1, 0, 1, 1, 1, 1])) (0 :: 0 :: [1, 0, 1, 1, 1, 1]) (mkSt [0, 4, 11, 12, 13, 14, 15, 16, 17, 18, 19, 123] sA91x2_5 sT91x2_5 ((), (), (), s.1, s.2.1, s.2.2.1, s.2.2.2.1, s.2.2.2.2.1, s.2.2.2.2.2.1, s.2.2.2.2.2.2.1, s.2.2.2.2.2.2.2.1, s.2.2.2.2.2.2.2.2, ()) ((((y.1.1.1.1, y.1.1.1.2.1, y.1.1.1.2.2.1, ()), y.1.1.2.1, ()), ()), y.2.1, y.2.2.1, ())) (kLoop 1 [0, 4, 11, 12, 13, 14, 15, 16, 17, 18, 19, 123] sA91x2_5 sT91x2_5 [0, 11, 12, 13, 14, 15, 16, 17, 18, 19] sA191x2_5 sT191x2_5 [] [] [] 2 (fun x y => some (.inl (x, y))) (fun x y => some (.inr (.inl (x, y)))) (fun x y => some (.inr (.inr (x, y))))) =
    L91x2_5c (β := Full sA91x2_5 sT91x2_5 sA191x2_5 sT191x2_5 [] []) F y.2.1 s.1 s.2.1 s.2.2.1 s.2.2.2.1 s.2.2.2.2.1 s.2.2.2.2.2.1 s.2.2.2.2.2.2.1 s.2.2.2.2.2.2.2.1 s.2.2.2.2.2.2.2.2 (fun s => some (.inl (((), (), (), s.1, s.2.1, s.2.2.1, s.2.2.2.1, s.2.2.2.2.1, s.2.2.2.2.2.1, s.2.2.2.2.2.2.1, s.2.2.2.2.2.2.2.1, s.2.2.2.2.2.2.2.2, ()), ((((y.1.1.1.1, y.1.1.1.2.1, y.1.1.1.2.2.1, ()), y.1.1.2.1, ()), ()), y.2.1, y.2.2.1, ())))) (fun z => some (.inr (.inl (((), (), z.1, z.2.1, z.2.2.1, z.2.2.2.1, z.2.2.2.2.1, z.2.2.2.2.2.1, z.2.2.2.2.2.2.1, z.2.2.2.2.2.2.2, ()), ((((y.1.1.1.1, y.1.1.1.2.1, y.1.1.1.2.2.1, ()), y.1.1.2.1, ()), ()), y.2.2.1, ()))))) := by kernel_rfl
theorem lo91x2_5 (F : Nat) : LcOk Tryd.prog (E91x2 F) 1 (lc91x2_5 F) (cAt (bodyOf Tryd.f91) [1, 0, 1, 1, 1, 1]) :=
  mkL_ok (lp := []) (id := 2) (b := cAt (bodyOf Tryd.f91) (0 :: 0 :: [1, 0, 1, 1, 1, 1])) cok (cts91x2 F) mixed trivial (by kernel_rfl) (by kernel_rfl) (fun x y s => ((), (), (), s.1, s.2.1, s.2.2.1, s.2.2.2.1, s.2.2.2.2.1, s.2.2.2.2.2.1, s.2.2.2.2.2.2.1, s.2.2.2.2.2.2.2.1, s.2.2.2.2.2.2.2.2, ())) (fun x y s => ((((y.1.1.1.1, y.1.1.1.2.1, y.1.1.1.2.2.1, ()), y.1.1.2.1, ()), ()), y.2.1, y.2.2.1, ())) (fun x y => rfl) (fun x y => rfl) (fun x y s kA kO => L91x2_5c F y.2.1 s.1 s.2.1 s.2.2.1 s.2.2.2.1 s.2.2.2.2.1 s.2.2.2.2.2.1 s.2.2.2.2.2.2.1 s.2.2.2.2.2.2.2.1 s.2.2.2.2.2.2.2.2 kA kO) (fun x y s kA kO => L91x2_5n F y.2.1 s.1 s.2.1 s.2.2.1 s.2.2.2.1 s.2.2.2.2.1 s.2.2.2.2.2.1 s.2.2.2.2.2.2.1 s.2.2.2.2.2.2.2.1 s.2.2.2.2.2.2.2.2 kA kO) (le91x2_5 F)
def L91x2_6c (F : Nat) (y209 : Vector UInt32 8) (y215 : Vector UInt32 8) (y210 : Int) (y211 : Vector UInt32 8) {β : Type} (kA : (Int × (Vector UInt32 8)) → Option β) (kO : ((Vector UInt32 8)) → Option β) : Option β :=
  (bif (decide (y210 < (8 : Int))) then (Option.bind (vix y209 y210) fun x220 => (Option.bind (inb 8 y210) fun x221 => (Option.bind (vat y215 x221) fun x222 => (Option.bind (inb 8 y210) fun x223 => (kA ((w64 (y210 + (1 : Int))), (Vector.setIfInBounds y211 x223 (x222 + x220)))))))) else (kO y211))
def L91x2_6 (F : Nat) (y209 : Vector UInt32 8) (y215 : Vector UInt32 8) (y210 : Int) (y211 : Vector UInt32 8) : Option ((Int × (Vector UInt32 8)) ⊕ ((Vector UInt32 8))) := L91x2_6c F y209 y215 y210 y211 (fun s => some (.inl s)) (fun z => some (.inr z))
theorem L91x2_6n (F : Nat) (y209 : Vector UInt32 8) (y215 : Vector UInt32 8) (y210 : Int) (y211 : Vector UInt32 8) {β : Type} (kA : (Int × (Vector UInt32 8)) → Option β) (kO : ((Vector UInt32 8)) → Option β) : L91x2_6c F y209 y215 y210 y211 kA kO = (L91x2_6 F y209 y215 y210 y211).bind (elimS kA kO) := by
  simp only [L91x2_6, L91x2_6c, Option.bind_assoc, cond_bind, Option.bind_some, elimS_l, elimS_r, elimS_bind]
@[reducible] def sA91x2_6 : List Sh := [(.pt 0 [0, 0]), (.pt 1 []), (.ar 8 .u32), .i]
@[reducible] def sA191x2_6 : List Sh := []
@[reducible] def sT91x2_6 : List TSh := [.blk 112 (.pr (.pr (.pr (.ar 8 .u32) (.pr (.ar 64 .u8) (.pr .i .un))) (.pr (.ar 64 .u8) .un)) .un), .blk 103 (.ar 8 .u32)]
@[reducible] def sT191x2_6 : List TSh := [.blk 112 (.pr (.pr (.pr (.ar 8 .u32) (.pr (.ar 64 .u8) (.pr .i .un))) (.pr (.ar 64 .u8) .un)) .un)]
def lc91x2_6 (F : Nat) : Lc := mkL [0, 11, 196, 197] sA91x2_6 sT91x2_6 [] sA191x2_6 sT191x2_6 F (fun x y (s : Int × (Vector UInt32 8)) => L91x2_6 F x.2.2.1 y.2.1 s.1 s.2) (fun x y => (x.2.2.2.1, y.1.1.1.1)) (fun x y (z : (Vector UInt32 8)) => ((), ((((z, y.1.1.1.2.1, y.1.1.1.2.2.1, ()), y.1.1.2.1, ()), ()), ())))
theorem le91x2_6 (F : Nat) (x : dens sA91x2_6) (y : tdens sT91x2_6) (s : Int × (Vector UInt32 8)) : sev (E91x2 F) 1 [] (cAt (bodyOf Tryd.f91) (0 :: 0 :: [1, 1, 1, 1, 1, 1])) (0 :: 0 :: [1, 1, 1, 1, 1, 1]) (mkSt [0, 11, 196, 197] sA91x2_6 sT91x2_6 ((), (), x.2.2.1, s.1, ()) ((((s.2, y.1.1.1.2.1, y.1.1.1.2.2.1, ()), y.1.1.2.1, ()), ()), y.2.1, ())) (kLoop 1 [0, 11, 196, 197] sA91x2_6 sT91x2_6 [] sA191x2_6 sT191x2_6 [] [] [] 4 (fun x y => some (.inl (x, y))) (fun x y => some (.inr (.inl (x, y)))) (fun x y => some (.inr (.inr (x, y))))) =
    L91x2_6c (β := Full sA91x2_6 sT91x2_6 sA191x2_6 sT191x2_6 [] []) F x.2.2.1 y.2.1 s.1 s.2 (fun s => some (.inl (((), (), x.2.2.1, s.1, ()), ((((s.2, y.1.1.1.2.1, y.1.1.1.2.2.1, ()), y.1.1.2.1, ()), ()), y.2.1, ())))) (fun z => some (.inr (.inl ((), ((((z, y.1.1.1.2.1, y.1.1.1.2.2.1, ()), y.1.1.2.1, ()), ()), ()))))) := by kernel_rfl
theorem lo91x2_6 (F : Nat) : LcOk Tryd.prog (E91x2 F) 1 (lc91x2_6 F) (cAt (bodyOf Tryd.f91) [1, 1, 1, 1, 1, 1]) :=
  mkL_ok (lp := []) (id := 4) (b := cAt (bodyOf Tryd.f91) (0 :: 0 :: [1, 1, 1, 1, 1, 1])) cok (cts91x2 F) mixed trivial (by kernel_rfl) (by kernel_rfl) (fun x y s => ((), (), x.2.2.1, s.1, ())) (fun x y s => ((((s.2, y.1.1.1.2.1, y.1.1.1.2.2.1, ()), y.1.1.2.1, ()), ()), y.2.1, ())) (fun x y => rfl) (fun x y => rfl) (fun x y s kA kO => L91x2_6c F x.2.2.1 y.2.1 s.1 s.2 kA kO) (fun x y s kA kO => L91x2_6n F x.2.2.1 y.2.1 s.1 s.2 kA kO) (le91x2_6 F)
def T91x2c (F : Nat) (p0 : Nat × Nat) (p1 : Vector UInt32 8) (p2 : Vector UInt8 64) {β : Type} (k : ((Vector UInt32 8)) → Option β) : Option β :=
  (Option.bind (iter (fun s => L91x2_4 F p2 s.1 s.2.1 s.2.2) F ((p0.1, p0.2), (0 : Int), (Vector.replicate 64 (0 : UInt32)))) fun z166 => (Option.bind (vat p1 0) fun x167 => (Option.bind (vat p1 1) fun x168 => (Option.bind (vat p1 2) fun x169 => (Option.bind (vat p1 3) fun x170 => (Option.bind (vat p1 4) fun x171 => (Option.bind (vat p1 5) fun x172 => (Option.bind (vat p1 6) fun x173 => (Option.bind (vat p1 7) fun x174 => (Option.bind (iter (fun s => L91x2_5 F z166 s.1 s.2.1 s.2.2.1 s.2.2.2.1 s.2.2.2.2.1 s.2.2.2.2.2.1 s.2.2.2.2.2.2.1 s.2.2.2.2.2.2.2.1 s.2.2.2.2.2.2.2.2) F (x167, x168, x169, x170, x171, x172, x173, x174, (0 : Int))) fun z208 => (Option.bind (iter (fun s => L91x2_6 F (#v[z208.1, z208.2.1, z208.2.2.1, z208.2.2.2.1, z208.2.2.2.2.1, z208.2.2.2.2.2.1, z208.2.2.2.2.2.2.1, z208.2.2.2.2.2.2.2] : Vector UInt32 8) p1 s.1 s.2) F ((0 : Int), p1)) fun z224 => (k z224))))))))))))
def T91x2 (F : Nat) (p0 : Nat × Nat) (p1 : Vector UInt32 8) (p2 : Vector UInt8 64) : Option ((Vector UInt32 8)) := T91x2c F p0 p1 p2 some
theorem T91x2n (F : Nat) (p0 : Nat × Nat) (p1 : Vector UInt32 8) (p2 : Vector UInt8 64) {β : Type} (k : ((Vector UInt32 8)) → Option β) : T91x2c F p0 p1 p2 k = (T91x2 F p0 p1 p2).bind k := by
  simp only [T91x2, T91x2c, Option.bind_assoc, cond_bind, Option.bind_some, elimS_bind]
@[reducible] def cA91x2 : List Sh := [(.pt 0 [0, 0]), (.ap 0 [0, 0, 1])]
@[reducible] def cB91x2 : List Sh := []
@[reducible] def cT91x2 : List TSh := [.blk 112 (.pr (.pr (.pr (.ar 8 .u32) (.pr (.ar 64 .u8) (.pr .i .un))) (.pr (.ar 64 .u8) .un)) .un)]
@[reducible] def cU91x2 : List TSh := [.blk 112 (.pr (.pr (.pr (.ar 8 .u32) (.pr (.ar 64 .u8) (.pr .i .un))) (.pr (.ar 64 .u8) .un)) .un)]
def ct91x2 (F : Nat) : Ct := mkC 1 cA91x2 cT91x2 cB91x2 cU91x2 (fun x y => T91x2 F x.2.1 y.1.1.1.1 y.1.1.1.2.1) (fun x y (z : (Vector UInt32 8)) => ((), ((((z, y.1.1.1.2.1, y.1.1.1.2.2.1, ()), y.1.1.2.1, ()), ()), ())))
theorem eq91x2 (F : Nat) (x : dens cA91x2) (y : tdens cT91x2) : sev (E91x2 F) 1 [([1, 0, 1], lc91x2_4 F), ([1, 0, 1, 1, 1, 1], lc91x2_5 F), ([1, 1, 1, 1, 1, 1], lc91x2_6 F)] (bodyOf Tryd.f91) [] (mkSt (rng 2) cA91x2 cT91x2 x y) (kFn (E91x2 F) 1 Tryd.f91.results.toList cB91x2 cU91x2 fun p q => some (p, q)) =
    T91x2c F x.2.1 y.1.1.1.1 y.1.1.1.2.1 (fun z => some ((), ((((z, y.1.1.1.2.1, y.1.1.1.2.2.1, ()), y.1.1.2.1, ()), ()), ()))) := by kernel_rfl
theorem ok91x2 (F : Nat) : Sound Tryd.prog cfg 91 (ct91x2 F) :=
  mkC_ok (E := E91x2 F) (lp := [([1, 0, 1], lc91x2_4 F), ([1, 0, 1, 1, 1, 1], lc91x2_5 F), ([1, 1, 1, 1, 1, 1], lc91x2_6 F)]) (code := bodyOf Tryd.f91) Tryd.func91 rfl Tryd.ntmps91 rfl rfl cok (cts91x2 F) mixed ⟨lo91x2_4 F, ⟨lo91x2_5 F, ⟨lo91x2_6 F, trivial⟩⟩⟩ (by kernel_rfl) (fun x y k => T91x2c F x.2.1 y.1.1.1.1 y.1.1.1.2.1 k) (fun x y k => T91x2n F x.2.1 y.1.1.1.1 y.1.1.1.2.1 k) (eq91x2 F)
end Go.Proofs.YtjghgfohpihhfaaDoor
/- (*kinkeep/sha256.State).process: its twin, and that the call does what the twin says. Printed by a program. -/
namespace Go.Proofs.YtjghgfohpihhfaaDoor
open Go.Tw
set_option linter.unusedSimpArgs false
set_option linter.unusedVariables false
def ord91x3 : Nat → List (Tag × Nat)
  | 6 => [(.p, 0), (.p, 1), (.p, 2), (.r, 3), (.p, 4), (.p, 5), (.p, 6), (.p, 7), (.r, 8), (.p, 9), (.p, 10), (.p, 11), (.p, 12), (.p, 13), (.r, 14), (.p, 15), (.p, 16), (.p, 17), (.p, 18), (.p, 19), (.r, 20), (.p, 21), (.p, 22), (.p, 23), (.w, 24)]
  | 7 => [(.p, 0), (.p, 1), (.p, 2), (.r, 3), (.p, 4), (.p, 5), (.p, 6), (.r, 7), (.p, 8), (.p, 9)]
  | 10 => [(.p, 0), (.p, 1), (.p, 2), (.p, 3), (.p, 4), (.r, 5), (.p, 6), (.p, 7), (.p, 8), (.p, 9), (.p, 10), (.p, 11), (.r, 12), (.p, 13), (.p, 14), (.w, 15)]
  | 13 => [(.p, 0), (.r, 1), (.p, 2), (.r, 3), (.p, 4), (.r, 5), (.p, 6), (.r, 7), (.p, 8), (.r, 9), (.p, 10), (.r, 11), (.p, 12), (.r, 13), (.p, 14), (.r, 15), (.p, 16), (.p, 17), (.p, 18), (.p, 19), (.p, 20), (.p, 21), (.p, 22), (.p, 23)]
  | 19 => [(.p, 0), (.p, 1), (.p, 2), (.p, 3), (.p, 4), (.p, 5), (.p, 6), (.p, 7), (.p, 8), (.p, 9), (.p, 10), (.p, 11), (.p, 12), (.p, 13), (.r, 14), (.p, 15), (.p, 16), (.p, 17), (.r, 18), (.p, 19), (.p, 20)]
  | 26 => [(.p, 0), (.p, 1), (.p, 2), (.p, 3), (.r, 4), (.p, 5), (.p, 6), (.p, 7), (.p, 8), (.p, 9), (.w, 10)]
  | _ => []
def al91x3 : Nat → Option Nat
  | _ => none
def E91x3 (F : Nat) : Ev := ⟨cfg, 212, ctOf [(94, ct94 F)], ord91x3, ctOf [], al91x3⟩
theorem cts91x3 (F : Nat) : CtsOk Tryd.prog (E91x3 F) := cts_of (l := [(94, ct94 F)]) (l' := []) rfl rfl ⟨⟨ok94 F, _, Tryd.func94, rfl, rfl⟩, trivial⟩ trivial
def L91x3_4c (F : Nat) (y105 : List UInt8) (y106 : Int) (y111 : Vector UInt32 64) {β : Type} (kA : (Int × (Vector UInt32 64)) → Option β) (kO : ((Vector UInt32 64)) → Option β) : Option β :=
  (bif (decide (y106 < (64 : Int))) then (bif (decide (y106 < (16 : Int))) then (Option.bind (gsl y105 (w64 ((4 : Int) * y106)) (w64 ((w64 ((4 : Int) * y106)) + (4 : Int)))) fun x131 => (Option.bind (ix x131 (0 : Int)) fun x132 => (Option.bind (ix x131 (1 : Int)) fun x133 => (Option.bind (ix x131 (2 : Int)) fun x134 => (Option.bind (ix x131 (3 : Int)) fun x135 => (Option.bind (inb 64 y106) fun x136 => (kA ((w64 (y106 + (1 : Int))), (Vector.setIfInBounds y111 x136 ((((shl32 (x132.toUInt32) ((UInt64.ofNat 24).toNat)) ||| (shl32 (x133.toUInt32) ((UInt64.ofNat 16).toNat))) ||| (shl32 (x134.toUInt32) ((UInt64.ofNat 8).toNat))) ||| (x135.toUInt32))))))))))) else (Option.bind (inb 64 (w64 (y106 - (2 : Int)))) fun x137 => (Option.bind (vat y111 x137) fun x138 => (Option.bind (inb 64 (w64 (y106 - (15 : Int)))) fun x139 => (Option.bind (vat y111 x139) fun x140 => (Option.bind (T94 F x138 (-17 : Int)) fun z141 => (Option.bind (T94 F x138 (-19 : Int)) fun z142 => (Option.bind (T94 F x140 (-7 : Int)) fun z143 => (Option.bind (T94 F x140 (-18 : Int)) fun z144 => (Option.bind (inb 64 (w64 (y106 - (7 : Int)))) fun x145 => (Option.bind (vat y111 x145) fun x146 => (Option.bind (inb 64 (w64 (y106 - (16 : Int)))) fun x147 => (Option.bind (vat y111 x147) fun x148 => (Option.bind (inb 64 y106) fun x149 => (kA ((w64 (y106 + (1 : Int))), (Vector.setIfInBounds y111 x149 (((((z141 ^^^ z142) ^^^ (shr32 x138 ((UInt64.ofNat 10).toNat))) + x146) + ((z143 ^^^ z144) ^^^ (shr32 x140 ((UInt64.ofNat 3).toNat)))) + x148)))))))))))))))))) else (kO y111))
def L91x3_4 (F : Nat) (y105 : List UInt8) (y106 : Int) (y111 : Vector UInt32 64) : Option ((Int × (Vector UInt32 64)) ⊕ ((Vector UInt32 64))) := L91x3_4c F y105 y106 y111 (fun s => some (.inl s)) (fun z => some (.inr z))
theorem L91x3_4n (F : Nat) (y105 : List UInt8) (y106 : Int) (y111 : Vector UInt32 64) {β : Type} (kA : (Int × (Vector UInt32 64)) → Option β) (kO : ((Vector UInt32 64)) → Option β) : L91x3_4c F y105 y106 y111 kA kO = (L91x3_4 F y105 y106 y111).bind (elimS kA kO) := by
  simp only [L91x3_4, L91x3_4c, Option.bind_assoc, cond_bind, Option.bind_some, elimS_l, elimS_r, elimS_bind]
@[reducible] def sA91x3_4 : List Sh := [(.pt 0 [0, 0]), (.ro .u8), (.pt 1 []), .i]
@[reducible] def sA191x3_4 : List Sh := [(.pt 0 [0, 0]), (.pt 1 [])]
@[reducible] def sT91x3_4 : List TSh := [.blk 112 (.pr (.pr (.pr (.ar 8 .u32) (.pr (.ar 64 .u8) (.pr .i .un))) (.pr (.ar 64 .u8) .un)) .un), .blk 123 (.ar 64 .u32)]
@[reducible] def sT191x3_4 : List TSh := [.blk 112 (.pr (.pr (.pr (.ar 8 .u32) (.pr (.ar 64 .u8) (.pr .i .un))) (.pr (.ar 64 .u8) .un)) .un), .blk 123 (.ar 64 .u32)]
def lc91x3_4 (F : Nat) : Lc := mkL [0, 1, 4, 27] sA91x3_4 sT91x3_4 [0, 4] sA191x3_4 sT191x3_4 F (fun x y (s : Int × (Vector UInt32 64)) => L91x3_4 F x.2.1 s.1 s.2) (fun x y => (x.2.2.2.1, y.2.1)) (fun x y (z : (Vector UInt32 64)) => (((), (), ()), ((((y.1.1.1.1, y.1.1.1.2.1, y.1.1.1.2.2.1, ()), y.1.1.2.1, ()), ()), z, ())))
theorem le91x3_4 (F : Nat) (x : dens sA91x3_4) (y : tdens sT91x3_4) (s : Int × (Vector UInt32 64)) : sev (E91x3 F) 1 [] (cAt (bodyOf Tryd.f91) (0 :: 0 :: [1, 0, 1])) (0 :: 0 :: [1, 0, 1]) (mkSt [0, 1, 4, 27] sA91x3_4 sT91x3_4 ((), x.2.1, (), s.1, ()) ((((y.1.1.1.1, y.1.1.1.2.1, y.1.1.1.2.2.1, ()), y.1.1.2.1, ()), ()), s.2, ())) (kLoop 1 [0, 1, 4, 27] sA91x3_4 sT91x3_4 [0, 4] sA191x3_4 sT191x3_4 [] [] [] 0 (fun x y => some (.inl (x, y))) (fun x y => some (.inr (.inl (x, y)))) (fun x y => some (.inr (.inr (x, y))))) =
    L91x3_4c (β := Full sA91x3_4 sT91x3_4 sA191x3_4 sT191x3_4 [] []) F x.2.1 s.1 s.2 (fun s => some (.inl (((), x.2.1, (), s.1, ()), ((((y.1.1.1.1, y.1.1.1.2.1, y.1.1.1.2.2.1, ()), y.1.1.2.1, ()), ()), s.2, ())))) (fun z => some (.inr (.inl (((), (), ()), ((((y.1.1.1.1, y.1.1.1.2.1, y.1.1.1.2.2.1, ()), y.1.1.2.1, ()), ()), z, ()))))) := by kernel_rfl
theorem lo91x3_4 (F : Nat) : LcOk Tryd.prog (E91x3 F) 1 (lc91x3_4 F) (cAt (bodyOf Tryd.f91) [1, 0, 1]) :=
  mkL_ok (lp := []) (id := 0) (b := cAt (bodyOf Tryd.f91) (0 :: 0 :: [1, 0, 1])) cok (cts91x3 F) mixed trivial (by kernel_rfl) (by kernel_rfl) (fun x y s => ((), x.2.1, (), s.1, ())) (fun x y s => ((((y.1.1.1.1, y.1.1.1.2.1, y.1.1.1.2.2.1, ()), y.1.1.2.1, ()), ()), s.2, ())) (fun x y => rfl) (fun x y => rfl) (fun x y s kA kO => L91x3_4c F x.2.1 s.1 s.2 kA kO) (fun x y s kA kO => L91x3_4n F x.2.1 s.1 s.2 kA kO) (le91x3_4 F)
def L91x3_5c (F : Nat) (y172 : Vector UInt32 64) (y159 : UInt32) (y160 : UInt32) (y161 : UInt32) (y162 : UInt32) (y163 : UInt32) (y164 : UInt32) (y165 : UInt32) (y166 : UInt32) (y167 : Int) {β : Type} (kA : (UInt32 × UInt32 × UInt32 × UInt32 × UInt32 × UInt32 × UInt32 × UInt32 × Int) → Option β) (kO : (UInt32 × UInt32 × UInt32 × UInt32 × UInt32 × UInt32 × UInt32 × UInt32) → Option β) : Option β :=
  (bif (decide (y167 < (64 : Int))) then (Option.bind (T94 F y163 (-6 : Int)) fun z183 => (Option.bind (T94 F y163 (-11 : Int)) fun z184 => (Option.bind (T94 F y163 (-25 : Int)) fun z185 => (Option.bind (T94 F y159 (-2 : Int)) fun z186 => (Option.bind (T94 F y159 (-13 : Int)) fun z187 => (Option.bind (T94 F y159 (-22 : Int)) fun z188 => (Option.bind (vix (gv2) y167) fun x189 => (Option.bind (inb 64 y167) fun x190 => (Option.bind (vat y172 x190) fun x191 => (kA ((((((y166 + ((z183 ^^^ z184) ^^^ z185)) + ((y163 &&& y164) ^^^ ((~~~y163) &&& y165))) + x189) + x191) + (((z186 ^^^ z187) ^^^ z188) + (((y159 &&& y160) ^^^ (y159 &&& y161)) ^^^ (y160 &&& y161)))), y159, y160, y161, (y162 + ((((y166 + ((z183 ^^^ z184) ^^^ z185)) + ((y163 &&& y164) ^^^ ((~~~y163) &&& y165))) + x189) + x191)), y163, y164, y165, (w64 (y167 + (1 : Int)))))))))))))) else (kO (y159, y160, y161, y162, y163, y164, y165, y166)))
def L91x3_5 (F : Nat) (y172 : Vector UInt32 64) (y159 : UInt32) (y160 : UInt32) (y161 : UInt32) (y162 : UInt32) (y163 : UInt32) (y164 : UInt32) (y165 : UInt32) (y166 : UInt32) (y167 : Int) : Option ((UInt32 × UInt32 × UInt32 × UInt32 × UInt32 × UInt32 × UInt32 × UInt32 × Int) ⊕ (UInt32 × UInt32 × UInt32 × UInt32 × UInt32 × UInt32 × UInt32 × UInt32)) := L91x3_5c F y172 y159 y160 y161 y162 y163 y164 y165 y166 y167 (fun s => some (.inl s)) (fun z => some (.inr z))
theorem L91x3_5n (F : Nat) (y172 : Vector UInt32 64) (y159 : UInt32) (y160 : UInt32) (y161 : UInt32) (y162 : UInt32) (y163 : UInt32) (y164 : UInt32) (y165 : UInt32) (y166 : UInt32) (y167 : Int) {β : Type} (kA : (UInt32 × UInt32 × UInt32 × UInt32 × UInt32 × UInt32 × UInt32 × UInt32 × Int) → Option β) (kO : (UInt32 × UInt32 × UInt32 × UInt32 × UInt32 × UInt32 × UInt32 × UInt32) → Option β) : L91x3_5c F y172 y159 y160 y161 y162 y163 y164 y165 y166 y167 kA kO = (L91x3_5 F y172 y159 y160 y161 y162 y163 y164 y165 y166 y167).bind (elimS kA kO) := by
  simp only [L91x3_5, L91x3_5c, Option.bind_assoc, cond_bind, Option.bind_some, elimS_l, elimS_r, elimS_bind]
@[reducible] def sA91x3_5 : List Sh := [(.pt 0 [0, 0]), (.pt 1 []), (.pt 2 []), .u32, .u32, .u32, .u32, .u32, .u32, .u32, .u32, .i]
@[reducible] def sA191x3_5 : List Sh := [(.pt 0 [0, 0]), (.pt 1 []), .u32, .u32, .u32, .u32, .u32, .u32, .u32, .u32]
@[reducible] def sT91x3_5 : List TSh := [.blk 112 (.pr (.pr (.pr (.ar 8 .u32) (.pr (.ar 64 .u8) (.pr .i .un))) (.pr (.ar 64 .u8) .un)) .un), .blk 123 (.ar 64 .u32), .blk 103 (.ar 8 .u32)]
@[reducible] def sT191x3_5 : List TSh := [.blk 112 (.pr (.pr (.pr (.ar 8 .u32) (.pr (.ar 64 .u8) (.pr .i .un))) (.pr (.ar 64 .u8) .un)) .un), .blk 103 (.ar 8 .u32)]
def lc91x3_5 (F : Nat) : Lc := mkL [0, 4, 11, 12, 13, 14, 15, 16, 17, 18, 19, 123] sA91x3_5 sT91x3_5 [0, 11, 12, 13, 14, 15, 16, 17, 18, 19] sA191x3_5 sT191x3_5 F (fun x y (s : UInt32 × UInt32 × UInt32 × UInt32 × UInt32 × UInt32 × UInt32 × UInt32 × Int) => L91x3_5 F y.2.1 s.1 s.2.1 s.2.2.1 s.2.2.2.1 s.2.2.2.2.1 s.2.2.2.2.2.1 s.2.2.2.2.2.2.1 s.2.2.2.2.2.2.2.1 s.2.2.2.2.2.2.2.2) (fun x y => (x.2.2.2.1, x.2.2.2.2.1, x.2.2.2.2.2.1, x.2.2.2.2.2.2.1, x.2.2.2.2.2.2.2.1, x.2.2.2.2.2.2.2.2.1, x.2.2.2.2.2.2.2.2.2.1, x.2.2.2.2.2.2.2.2.2.2.1, x.2.2.2.2.2.2.2.2.2.2.2.1)) (fun x y (z : UInt32 × UInt32 × UInt32 × UInt32 × UInt32 × UInt32 × UInt32 × UInt32) => (((), (), z.1, z.2.1, z.2.2.1, z.2.2.2.1, z.2.2.2.2.1, z.2.2.2.2.2.1, z.2.2.2.2.2.2.1, z.2.2.2.2.2.2.2, ()), ((((y.1.1.1.1, y.1.1.1.2.1, y.1.1.1.2.2.1, ()), y.1.1.2.1, ()), ()), y.2.2.1, ())))
theorem le91x3_5 (F : Nat) (x : dens sA91x3_5) (y : tdens sT91x3_5) (s : UInt32 × UInt32 × UInt32 × UInt32 × UInt32 × UInt32 × UInt32 × UInt32 × Int) : sev (E91x3 F) 1 [] (cAt (bodyOf Tryd.f91) (0 :: 0 :: [1, 0, 1, 1, 1, 1])) (0 :: 0 :: [1, 0, 1, 1, 1, 1]) (mkSt [0, 4, 11, 12, 13, 14, 15, 16, 17, 18, 19, 123] sA91x3_5 sT91x3_5 ((), (), (), s.1, s.2.1, s.2.2.1, s.2.2.2.1, s.2.2.2.2.1, s.2.2.2.2.2.1, s.2.2.2.2.2.2.1, s.2.2.2.2.2.2.2.1, s.2.2.2.2.2.2.2.2, ()) ((((y.1.1.1.1, y.1.1.1.2.1, y.1.1.1.2.2.1, ()), y.1.1.2.1, ()), ()), y.2.1, y.2.2.1, ())) (kLoop 1 [0, 4, 11, 12, 13, 14, 15, 16, 17, 18, 19, 123] sA91x3_5 sT91x3_5 [0, 11, 12, 13, 14, 15, 16, 17, 18, 19] sA191x3_5 sT191x3_5 [] [] [] 2 (fun x y => some (.inl (x, y))) (fun x y => some (.inr (.inl (x, y)))) (fun x y => some (.inr (.inr (x, y))))) =
    L91x3_5c (β := Full sA91x3_5 sT91x3_5 sA191x3_5 sT191x3_5 [] []) F y.2.1 s.1 s.2.1 s.2.2.1 s.2.2.2.1 s.2.2.2.2.1 s.2.2.2.2.2.1 s.2.2.2.2.2.2.1 s.2.2.2.2.2.2.2.1 s.2.2.2.2.2.2.2.2 (fun s => some (.inl (((), (), (), s.1, s.2.1, s.2.2.1, s.2.2.2.1, s.2.2.2.2.1, s.2.2.2.2.2.1, s.2.2.2.2.2.2.1, s.2.2.2.2.2.2.2.1, s.2.2.2.2.2.2.2.2, ()), ((((y.1.1.1.1, y.1.1.1.2.1, y.1.1.1.2.2.1, ()), y.1.1.2.1, ()), ()), y.2.1, y.2.2.1, ())))) (fun z => some (.inr (.inl (((), (), z.1, z.2.1, z.2.2.1, z.2.2.2.1, z.2.2.2.2.1, z.2.2.2.2.2.1, z.2.2.2.2.2.2.1, z.2.2.2.2.2.2.2, ()), ((((y.1.1.1.1, y.1.1.1.2.1, y.1.1.1.2.2.1, ()), y.1.1.2.1, ()), ()), y.2.2.1, ()))))) := by kernel_rfl
theorem lo91x3_5 (F : Nat) : LcOk Tryd.prog (E91x3 F) 1 (lc91x3_5 F) (cAt (bodyOf Tryd.f91) [1, 0, 1, 1, 1, 1]) :=
  mkL_ok (lp := []) (id := 2) (b := cAt (bodyOf Tryd.f91) (0 :: 0 :: [1, 0, 1, 1, 1, 1])) cok (cts91x3 F) mixed trivial (by kernel_rfl) (by kernel_rfl) (fun x y s => ((), (), (), s.1, s.2.1, s.2.2.1, s.2.2.2.1, s.2.2.2.2.1, s.2.2.2.2.2.1, s.2.2.2.2.2.2.1, s.2.2.2.2.2.2.2.1, s.2.2.2.2.2.2.2.2, ())) (fun x y s => ((((y.1.1.1.1, y.1.1.1.2.1, y.1.1.1.2.2.1, ()), y.1.1.2.1, ()), ()), y.2.1, y.2.2.1, ())) (fun x y => rfl) (fun x y => rfl) (fun x y s kA kO => L91x3_5c F y.2.1 s.1 s.2.1 s.2.2.1 s.2.2.2.1 s.2.2.2.2.1 s.2.2.2.2.2.1 s.2.2.2.2.2.2.1 s.2.2.2.2.2.2.2.1 s.2.2.2.2.2.2.2.2 kA kO) (fun x y s kA kO => L91x3_5n F y.2.1 s.1 s.2.1 s.2.2.1 s.2.2.2.1 s.2.2.2.2.1 s.2.2.2.2.2.1 s.2.2.2.2.2.2.1 s.2.2.2.2.2.2.2.1 s.2.2.2.2.2.2.2.2 kA kO) (le91x3_5 F)
def L91x3_6c (F : Nat) (y193 : Vector UInt32 8) (y199 : Vector UInt32 8) (y194 : Int) (y195 : Vector UInt32 8) {β : Type} (kA : (Int × (Vector UInt32 8)) → Option β) (kO : ((Vector UInt32 8)) → Option β) : Option β :=
  (bif (decide (y194 < (8 : Int))) then (Option.bind (vix y193 y194) fun x204 => (Option.bind (inb 8 y194) fun x205 => (Option.bind (vat y199 x205) fun x206 => (Option.bind (inb 8 y194) fun x207 => (kA ((w64 (y194 + (1 : Int))), (Vector.setIfInBounds y195 x207 (x206 + x204)))))))) else (kO y195))
def L91x3_6 (F : Nat) (y193 : Vector UInt32 8) (y199 : Vector UInt32 8) (y194 : Int) (y195 : Vector UInt32 8) : Option ((Int × (Vector UInt32 8)) ⊕ ((Vector UInt32 8))) := L91x3_6c F y193 y199 y194 y195 (fun s => some (.inl s)) (fun z => some (.inr z))
theorem L91x3_6n (F : Nat) (y193 : Vector UInt32 8) (y199 : Vector UInt32 8) (y194 : Int) (y195 : Vector UInt32 8) {β : Type} (kA : (Int × (Vector UInt32 8)) → Option β) (kO : ((Vector UInt32 8)) → Option β) : L91x3_6c F y193 y199 y194 y195 kA kO = (L91x3_6 F y193 y199 y194 y195).bind (elimS kA kO) := by
  simp only [L91x3_6, L91x3_6c, Option.bind_assoc, cond_bind, Option.bind_some, elimS_l, elimS_r, elimS_bind]
@[reducible] def sA91x3_6 : List Sh := [(.pt 0 [0, 0]), (.pt 1 []), (.ar 8 .u32), .i]
@[reducible] def sA191x3_6 : List Sh := []
@[reducible] def sT91x3_6 : List TSh := [.blk 112 (.pr (.pr (.pr (.ar 8 .u32) (.pr (.ar 64 .u8) (.pr .i .un))) (.pr (.ar 64 .u8) .un)) .un), .blk 103 (.ar 8 .u32)]
@[reducible] def sT191x3_6 : List TSh := [.blk 112 (.pr (.pr (.pr (.ar 8 .u32) (.pr (.ar 64 .u8) (.pr .i .un))) (.pr (.ar 64 .u8) .un)) .un)]
def lc91x3_6 (F : Nat) : Lc := mkL [0, 11, 196, 197] sA91x3_6 sT91x3_6 [] sA191x3_6 sT191x3_6 F (fun x y (s : Int × (Vector UInt32 8)) => L91x3_6 F x.2.2.1 y.2.1 s.1 s.2) (fun x y => (x.2.2.2.1, y.1.1.1.1)) (fun x y (z : (Vector UInt32 8)) => ((), ((((z, y.1.1.1.2.1, y.1.1.1.2.2.1, ()), y.1.1.2.1, ()), ()), ())))
theorem le91x3_6 (F : Nat) (x : dens sA91x3_6) (y : tdens sT91x3_6) (s : Int × (Vector UInt32 8)) : sev (E91x3 F) 1 [] (cAt (bodyOf Tryd.f91) (0 :: 0 :: [1, 1, 1, 1, 1, 1])) (0 :: 0 :: [1, 1, 1, 1, 1, 1]) (mkSt [0, 11, 196, 197] sA91x3_6 sT91x3_6 ((), (), x.2.2.1, s.1, ()) ((((s.2, y.1.1.1.2.1, y.1.1.1.2.2.1, ()), y.1.1.2.1, ()), ()), y.2.1, ())) (kLoop 1 [0, 11, 196, 197] sA91x3_6 sT91x3_6 [] sA191x3_6 sT191x3_6 [] [] [] 4 (fun x y => some (.inl (x, y))) (fun x y => some (.inr (.inl (x, y)))) (fun x y => some (.inr (.inr (x, y))))) =
    L91x3_6c (β := Full sA91x3_6 sT91x3_6 sA191x3_6 sT191x3_6 [] []) F x.2.2.1 y.2.1 s.1 s.2 (fun s => some (.inl (((), (), x.2.2.1, s.1, ()), ((((s.2, y.1.1.1.2.1, y.1.1.1.2.2.1, ()), y.1.1.2.1, ()), ()), y.2.1, ())))) (fun z => some (.inr (.inl ((), ((((z, y.1.1.1.2.1, y.1.1.1.2.2.1, ()), y.1.1.2.1, ()), ()), ()))))) := by kernel_rfl
theorem lo91x3_6 (F : Nat) : LcOk Tryd.prog (E91x3 F) 1 (lc91x3_6 F) (cAt (bodyOf Tryd.f91) [1, 1, 1, 1, 1, 1]) :=
  mkL_ok (lp := []) (id := 4) (b := cAt (bodyOf Tryd.f91) (0 :: 0 :: [1, 1, 1, 1, 1, 1])) cok (cts91x3 F) mixed trivial (by kernel_rfl) (by kernel_rfl) (fun x y s => ((), (), x.2.2.1, s.1, ())) (fun x y s => ((((s.2, y.1.1.1.2.1, y.1.1.1.2.2.1, ()), y.1.1.2.1, ()), ()), y.2.1, ())) (fun x y => rfl) (fun x y => rfl) (fun x y s kA kO => L91x3_6c F x.2.2.1 y.2.1 s.1 s.2 kA kO) (fun x y s kA kO => L91x3_6n F x.2.2.1 y.2.1 s.1 s.2 kA kO) (le91x3_6 F)
def T91x3c (F : Nat) (p0 : List UInt8) (p1 : Vector UInt32 8) {β : Type} (k : ((Vector UInt32 8)) → Option β) : Option β :=
  (Option.bind (iter (fun s => L91x3_4 F p0 s.1 s.2) F ((0 : Int), (Vector.replicate 64 (0 : UInt32)))) fun z150 => (Option.bind (vat p1 0) fun x151 => (Option.bind (vat p1 1) fun x152 => (Option.bind (vat p1 2) fun x153 => (Option.bind (vat p1 3) fun x154 => (Option.bind (vat p1 4) fun x155 => (Option.bind (vat p1 5) fun x156 => (Option.bind (vat p1 6) fun x157 => (Option.bind (vat p1 7) fun x158 => (Option.bind (iter (fun s => L91x3_5 F z150 s.1 s.2.1 s.2.2.1 s.2.2.2.1 s.2.2.2.2.1 s.2.2.2.2.2.1 s.2.2.2.2.2.2.1 s.2.2.2.2.2.2.2.1 s.2.2.2.2.2.2.2.2) F (x151, x152, x153, x154, x155, x156, x157, x158, (0 : Int))) fun z192 => (Option.bind (iter (fun s => L91x3_6 F (#v[z192.1, z192.2.1, z192.2.2.1, z192.2.2.2.1, z192.2.2.2.2.1, z192.2.2.2.2.2.1, z192.2.2.2.2.2.2.1, z192.2.2.2.2.2.2.2] : Vector UInt32 8) p1 s.1 s.2) F ((0 : Int), p1)) fun z208 => (k z208))))))))))))
def T91x3 (F : Nat) (p0 : List UInt8) (p1 : Vector UInt32 8) : Option ((Vector UInt32 8)) := T91x3c F p0 p1 some
theorem T91x3n (F : Nat) (p0 : List UInt8) (p1 : Vector UInt32 8) {β : Type} (k : ((Vector UInt32 8)) → Option β) : T91x3c F p0 p1 k = (T91x3 F p0 p1).bind k := by
  simp only [T91x3, T91x3c, Option.bind_assoc, cond_bind, Option.bind_some, elimS_bind]
@[reducible] def cA91x3 : List Sh := [(.pt 0 [0, 0]), (.ro .u8)]
@[reducible] def cB91x3 : List Sh := []
@[reducible] def cT91x3 : List TSh := [.blk 112 (.pr (.pr (.pr (.ar 8 .u32) (.pr (.ar 64 .u8) (.pr .i .un))) (.pr (.ar 64 .u8) .un)) .un)]
@[reducible] def cU91x3 : List TSh := [.blk 112 (.pr (.pr (.pr (.ar 8 .u32) (.pr (.ar 64 .u8) (.pr .i .un))) (.pr (.ar 64 .u8) .un)) .un)]
def ct91x3 (F : Nat) : Ct := mkC 1 cA91x3 cT91x3 cB91x3 cU91x3 (fun x y => T91x3 F x.2.1 y.1.1.1.1) (fun x y (z : (Vector UInt32 8)) => ((), ((((z, y.1.1.1.2.1, y.1.1.1.2.2.1, ()), y.1.1.2.1, ()), ()), ())))
theorem eq91x3 (F : Nat) (x : dens cA91x3) (y : tdens cT91x3) : sev (E91x3 F) 1 [([1, 0, 1], lc91x3_4 F), ([1, 0, 1, 1, 1, 1], lc91x3_5 F), ([1, 1, 1, 1, 1, 1], lc91x3_6 F)] (bodyOf Tryd.f91) [] (mkSt (rng 2) cA91x3 cT91x3 x y) (kFn (E91x3 F) 1 Tryd.f91.results.toList cB91x3 cU91x3 fun p q => some (p, q)) =
    T91x3c F x.2.1 y.1.1.1.1 (fun z => some ((), ((((z, y.1.1.1.2.1, y.1.1.1.2.2.1, ()), y.1.1.2.1, ()), ()), ()))) := by kernel_rfl
theorem ok91x3 (F : Nat) : Sound Tryd.prog cfg 91 (ct91x3 F) :=
  mkC_ok (E := E91x3 F) (lp := [([1, 0, 1], lc91x3_4 F), ([1, 0, 1, 1, 1, 1], lc91x3_5 F), ([1, 1, 1, 1, 1, 1], lc91x3_6 F)]) (code := bodyOf Tryd.f91) Tryd.func91 rfl Tryd.ntmps91 rfl rfl cok (cts91x3 F) mixed ⟨lo91x3_4 F, ⟨lo91x3_5 F, ⟨lo91x3_6 F, trivial⟩⟩⟩ (by kernel_rfl) (fun x y k => T91x3c F x.2.1 y.1.1.1.1 k) (fun x y k => T91x3n F x.2.1 y.1.1.1.1 k) (eq91x3 F)
end Go.Proofs.YtjghgfohpihhfaaDoor
/- (*kinkeep/sha256.State).Write: its twin, and that the call does what the twin says. Printed by a program. -/
namespace Go.Proofs.YtjghgfohpihhfaaDoor
open Go.Tw
set_option linter.unusedSimpArgs false
set_option linter.unusedVariables false
def ord82x1 : Nat → List (Tag × Nat)
  | _ => []
def al82x1 : Nat → Option Nat
  | _ => none
def E82x1 (F : Nat) : Ev := ⟨cfg, 57, ctOf [(91, ct91x2 F), (91, ct91x3 F)], ord82x1, ctOf [], al82x1⟩
theorem cts82x1 (F : Nat) : CtsOk Tryd.prog (E82x1 F) := cts_of (l := [(91, ct91x2 F), (91, ct91x3 F)]) (l' := []) rfl rfl ⟨⟨ok91x2 F, _, Tryd.func91, rfl, rfl⟩, ⟨⟨ok91x3 F, _, Tryd.func91, rfl, rfl⟩, trivial⟩⟩ trivial
def L82x1_3c (F : Nat) (y30 : List UInt8) (y31 : Int) (y32 : Bool) (y33 : Vector UInt32 8) (y34 : Vector UInt8 64) {β : Type} (kO : ((List UInt8) × (Vector UInt32 8) × (Vector UInt8 64)) → Option β) (kR : ((Vector UInt8 64)) → Option β) : Option β :=
  (bif y32 then (Option.bind (gslb 64 y31 ((64 : Nat) : Int)) fun x41 => (Option.bind (gsl y30 ((Nat.min y30.length (x41.2 - x41.1)) : Int) (y30.length : Int)) fun x42 => (bif (decide ((w64 (y31 + ((Nat.min y30.length (x41.2 - x41.1)) : Int))) < (64 : Int))) then (kR (vspl y34 x41.1 y30 (Nat.min y30.length (x41.2 - x41.1)))) else (Option.bind (gslb 64 (0 : Int) ((64 : Nat) : Int)) fun x43 => (Option.bind (T91x2 F (x43.1, x43.2) y33 (vspl y34 x41.1 y30 (Nat.min y30.length (x41.2 - x41.1)))) fun z44 => (kO (x42, z44, (vspl y34 x41.1 y30 (Nat.min y30.length (x41.2 - x41.1)))))))))) else (kO (y30, y33, y34)))
def L82x1_3 (F : Nat) (y30 : List UInt8) (y31 : Int) (y32 : Bool) (y33 : Vector UInt32 8) (y34 : Vector UInt8 64) : Option (((List UInt8) × (Vector UInt32 8) × (Vector UInt8 64)) ⊕ ((Vector UInt8 64))) := L82x1_3c F y30 y31 y32 y33 y34 (fun z => some (.inl z)) (fun z => some (.inr z))
theorem L82x1_3n (F : Nat) (y30 : List UInt8) (y31 : Int) (y32 : Bool) (y33 : Vector UInt32 8) (y34 : Vector UInt8 64) {β : Type} (kO : ((List UInt8) × (Vector UInt32 8) × (Vector UInt8 64)) → Option β) (kR : ((Vector UInt8 64)) → Option β) : L82x1_3c F y30 y31 y32 y33 y34 kO kR = (L82x1_3 F y30 y31 y32 y33 y34).bind (elimS kO kR) := by
  simp only [L82x1_3, L82x1_3c, Option.bind_assoc, cond_bind, Option.bind_some, elimS_l, elimS_r, elimS_bind]
@[reducible] def sA82x1_3 : List Sh := [(.pt 0 [0, 0]), (.ro .u8), .i, .bo]
@[reducible] def sA182x1_3 : List Sh := [(.pt 0 [0, 0]), (.ro .u8)]
@[reducible] def sA282x1_3 : List Sh := []
@[reducible] def sT82x1_3 : List TSh := [.blk 112 (.pr (.pr (.pr (.ar 8 .u32) (.pr (.ar 64 .u8) (.pr .i .un))) (.pr (.ar 64 .u8) .un)) .un)]
@[reducible] def sT182x1_3 : List TSh := [.blk 112 (.pr (.pr (.pr (.ar 8 .u32) (.pr (.ar 64 .u8) (.pr .i .un))) (.pr (.ar 64 .u8) .un)) .un)]
@[reducible] def sT282x1_3 : List TSh := [.blk 112 (.pr (.pr (.pr (.ar 8 .u32) (.pr (.ar 64 .u8) (.pr .i .un))) (.pr (.ar 64 .u8) .un)) .un)]
def lc82x1_3 (F : Nat) : Lc := mkK [0, 1, 4, 21] sA82x1_3 sT82x1_3 [0, 1] sA182x1_3 sT182x1_3 [] sA282x1_3 sT282x1_3 (fun x y => L82x1_3 F x.2.1 x.2.2.1 x.2.2.2.1 y.1.1.1.1 y.1.1.1.2.1) (fun x y (z : (List UInt8) × (Vector UInt32 8) × (Vector UInt8 64)) => (((), z.1, ()), ((((z.2.1, z.2.2, y.1.1.1.2.2.1, ()), y.1.1.2.1, ()), ()), ()))) (fun x y (z : (Vector UInt8 64)) => ((), ((((y.1.1.1.1, z, y.1.1.1.2.2.1, ()), y.1.1.2.1, ()), ()), ())))
theorem le82x1_3 (F : Nat) (x : dens sA82x1_3) (y : tdens sT82x1_3) : sev (E82x1 F) 1 [] (cAt (bodyOf Tryd.f82) [1, 0, 1, 1]) [1, 0, 1, 1] (mkSt [0, 1, 4, 21] sA82x1_3 sT82x1_3 x y) (kJoinR 1 [0, 1] sA182x1_3 sT182x1_3 [] sA282x1_3 sT282x1_3 (fun x y => some (.inl (x, y))) (fun x y => some (.inr (x, y)))) =
    L82x1_3c (β := (dens sA182x1_3 × tdens sT182x1_3) ⊕ (dens sA282x1_3 × tdens sT282x1_3)) F x.2.1 x.2.2.1 x.2.2.2.1 y.1.1.1.1 y.1.1.1.2.1 (fun z => some (.inl (((), z.1, ()), ((((z.2.1, z.2.2, y.1.1.1.2.2.1, ()), y.1.1.2.1, ()), ()), ())))) (fun z => some (.inr ((), ((((y.1.1.1.1, z, y.1.1.1.2.2.1, ()), y.1.1.2.1, ()), ()), ())))) := by kernel_rfl
theorem lo82x1_3 (F : Nat) : LcOk Tryd.prog (E82x1 F) 1 (lc82x1_3 F) (cAt (bodyOf Tryd.f82) [1, 0, 1, 1]) :=
  mkK_ok (lp := []) cok (cts82x1 F) mixed trivial (by kernel_rfl) (fun x y kO kR => L82x1_3c F x.2.1 x.2.2.1 x.2.2.2.1 y.1.1.1.1 y.1.1.1.2.1 kO kR) (fun x y kO kR => L82x1_3n F x.2.1 x.2.2.1 x.2.2.2.1 y.1.1.1.1 y.1.1.1.2.1 kO kR) (le82x1_3 F)
def L82x1_4c (F : Nat) (y46 : List UInt8) (y47 : Vector UInt32 8) {β : Type} (kA : ((List UInt8) × (Vector UInt32 8)) → Option β) (kO : ((List UInt8) × (Vector UInt32 8)) → Option β) : Option β :=
  (bif (decide ((64 : Int) ≤ (y46.length : Int))) then (Option.bind (gsl y46 (0 : Int) (64 : Int)) fun x54 => (Option.bind (T91x3 F x54 y47) fun z55 => (Option.bind (gsl y46 (64 : Int) (y46.length : Int)) fun x56 => (kA (x56, z55))))) else (kO (y46, y47)))
def L82x1_4 (F : Nat) (y46 : List UInt8) (y47 : Vector UInt32 8) : Option (((List UInt8) × (Vector UInt32 8)) ⊕ ((List UInt8) × (Vector UInt32 8))) := L82x1_4c F y46 y47 (fun s => some (.inl s)) (fun z => some (.inr z))
theorem L82x1_4n (F : Nat) (y46 : List UInt8) (y47 : Vector UInt32 8) {β : Type} (kA : ((List UInt8) × (Vector UInt32 8)) → Option β) (kO : ((List UInt8) × (Vector UInt32 8)) → Option β) : L82x1_4c F y46 y47 kA kO = (L82x1_4 F y46 y47).bind (elimS kA kO) := by
  simp only [L82x1_4, L82x1_4c, Option.bind_assoc, cond_bind, Option.bind_some, elimS_l, elimS_r, elimS_bind]
@[reducible] def sA82x1_4 : List Sh := [(.pt 0 [0, 0]), (.ro .u8)]
@[reducible] def sA182x1_4 : List Sh := [(.pt 0 [0, 0]), (.ro .u8)]
@[reducible] def sT82x1_4 : List TSh := [.blk 112 (.pr (.pr (.pr (.ar 8 .u32) (.pr (.ar 64 .u8) (.pr .i .un))) (.pr (.ar 64 .u8) .un)) .un)]
@[reducible] def sT182x1_4 : List TSh := [.blk 112 (.pr (.pr (.pr (.ar 8 .u32) (.pr (.ar 64 .u8) (.pr .i .un))) (.pr (.ar 64 .u8) .un)) .un)]
def lc82x1_4 (F : Nat) : Lc := mkL [0, 1] sA82x1_4 sT82x1_4 [0, 1] sA182x1_4 sT182x1_4 F (fun x y (s : (List UInt8) × (Vector UInt32 8)) => L82x1_4 F s.1 s.2) (fun x y => (x.2.1, y.1.1.1.1)) (fun x y (z : (List UInt8) × (Vector UInt32 8)) => (((), z.1, ()), ((((z.2, y.1.1.1.2.1, y.1.1.1.2.2.1, ()), y.1.1.2.1, ()), ()), ())))
theorem le82x1_4 (F : Nat) (x : dens sA82x1_4) (y : tdens sT82x1_4) (s : (List UInt8) × (Vector UInt32 8)) : sev (E82x1 F) 1 [] (cAt (bodyOf Tryd.f82) (0 :: 0 :: [0, 1, 1, 1])) (0 :: 0 :: [0, 1, 1, 1]) (mkSt [0, 1] sA82x1_4 sT82x1_4 ((), s.1, ()) ((((s.2, y.1.1.1.2.1, y.1.1.1.2.2.1, ()), y.1.1.2.1, ()), ()), ())) (kLoop 1 [0, 1] sA82x1_4 sT82x1_4 [0, 1] sA182x1_4 sT182x1_4 [] [] [] 0 (fun x y => some (.inl (x, y))) (fun x y => some (.inr (.inl (x, y)))) (fun x y => some (.inr (.inr (x, y))))) =
    L82x1_4c (β := Full sA82x1_4 sT82x1_4 sA182x1_4 sT182x1_4 [] []) F s.1 s.2 (fun s => some (.inl (((), s.1, ()), ((((s.2, y.1.1.1.2.1, y.1.1.1.2.2.1, ()), y.1.1.2.1, ()), ()), ())))) (fun z => some (.inr (.inl (((), z.1, ()), ((((z.2, y.1.1.1.2.1, y.1.1.1.2.2.1, ()), y.1.1.2.1, ()), ()), ()))))) := by kernel_rfl
theorem lo82x1_4 (F : Nat) : LcOk Tryd.prog (E82x1 F) 1 (lc82x1_4 F) (cAt (bodyOf Tryd.f82) [0, 1, 1, 1]) :=
  mkL_ok (lp := []) (id := 0) (b := cAt (bodyOf Tryd.f82) (0 :: 0 :: [0, 1, 1, 1])) cok (cts82x1 F) mixed trivial (by kernel_rfl) (by kernel_rfl) (fun x y s => ((), s.1, ())) (fun x y s => ((((s.2, y.1.1.1.2.1, y.1.1.1.2.2.1, ()), y.1.1.2.1, ()), ()), ())) (fun x y => rfl) (fun x y => rfl) (fun x y s kA kO => L82x1_4c F s.1 s.2 kA kO) (fun x y s kA kO => L82x1_4n F s.1 s.2 kA kO) (le82x1_4 F)
def T82x1c (F : Nat) (p0 : List UInt8) (p1 : Vector UInt32 8) (p2 : Vector UInt8 64) (p3 : Int) {β : Type} (k : ((Vector UInt32 8) × (Vector UInt8 64) × Int) → Option β) : Option β :=
  (Option.bind (L82x1_3 F p0 (Int.tmod p3 (64 : Int)) (decide ((0 : Int) < (Int.tmod p3 (64 : Int)))) p1 p2) fun z45 => elimS (fun z45 => (Option.bind (iter (fun s => L82x1_4 F s.1 s.2) F (z45.1, z45.2.1)) fun z57 => (Option.bind (gslb 64 (0 : Int) ((64 : Nat) : Int)) fun x58 => (k (z57.2, (vspl z45.2.2 x58.1 z57.1 (Nat.min z57.1.length (x58.2 - x58.1))), (w64 (p3 + (p0.length : Int)))))))) (fun z45 => (k (p1, z45, (w64 (p3 + (p0.length : Int)))))) z45)
def T82x1 (F : Nat) (p0 : List UInt8) (p1 : Vector UInt32 8) (p2 : Vector UInt8 64) (p3 : Int) : Option ((Vector UInt32 8) × (Vector UInt8 64) × Int) := T82x1c F p0 p1 p2 p3 some
theorem T82x1n (F : Nat) (p0 : List UInt8) (p1 : Vector UInt32 8) (p2 : Vector UInt8 64) (p3 : Int) {β : Type} (k : ((Vector UInt32 8) × (Vector UInt8 64) × Int) → Option β) : T82x1c F p0 p1 p2 p3 k = (T82x1 F p0 p1 p2 p3).bind k := by
  simp only [T82x1, T82x1c, Option.bind_assoc, cond_bind, Option.bind_some, elimS_bind]
@[reducible] def cA82x1 : List Sh := [(.pt 0 [0, 0]), (.ro .u8)]
@[reducible] def cB82x1 : List Sh := []
@[reducible] def cT82x1 : List TSh := [.blk 112 (.pr (.pr (.pr (.ar 8 .u32) (.pr (.ar 64 .u8) (.pr .i .un))) (.pr (.ar 64 .u8) .un)) .un)]
@[reducible] def cU82x1 : List TSh := [.blk 112 (.pr (.pr (.pr (.ar 8 .u32) (.pr (.ar 64 .u8) (.pr .i .un))) (.pr (.ar 64 .u8) .un)) .un)]
def ct82x1 (F : Nat) : Ct := mkC 1 cA82x1 cT82x1 cB82x1 cU82x1 (fun x y => T82x1 F x.2.1 y.1.1.1.1 y.1.1.1.2.1 y.1.1.1.2.2.1) (fun x y (z : (Vector UInt32 8) × (Vector UInt8 64) × Int) => ((), ((((z.1, z.2.1, z.2.2, ()), y.1.1.2.1, ()), ()), ())))
theorem eq82x1 (F : Nat) (x : dens cA82x1) (y : tdens cT82x1) : sev (E82x1 F) 1 [([1, 0, 1, 1], lc82x1_3 F), ([0, 1, 1, 1], lc82x1_4 F)] (bodyOf Tryd.f82) [] (mkSt (rng 2) cA82x1 cT82x1 x y) (kFn (E82x1 F) 1 Tryd.f82.results.toList cB82x1 cU82x1 fun p q => some (p, q)) =
    T82x1c F x.2.1 y.1.1.1.1 y.1.1.1.2.1 y.1.1.1.2.2.1 (fun z => some ((), ((((z.1, z.2.1, z.2.2, ()), y.1.1.2.1, ()), ()), ()))) := by kernel_rfl
theorem ok82x1 (F : Nat) : Sound Tryd.prog cfg 82 (ct82x1 F) :=
  mkC_ok (E := E82x1 F) (lp := [([1, 0, 1, 1], lc82x1_3 F), ([0, 1, 1, 1], lc82x1_4 F)]) (code := bodyOf Tryd.f82) Tryd.func82 rfl Tryd.ntmps82 rfl rfl cok (cts82x1 F) mixed ⟨lo82x1_3 F, ⟨lo82x1_4 F, trivial⟩⟩ (by kernel_rfl) (fun x y k => T82x1c F x.2.1 y.1.1.1.1 y.1.1.1.2.1 y.1.1.1.2.2.1 k) (fun x y k => T82x1n F x.2.1 y.1.1.1.1 y.1.1.1.2.1 y.1.1.1.2.2.1 k) (eq82x1 F)
end Go.Proofs.YtjghgfohpihhfaaDoor
/- kinkeep/hmac.New: its twin, and that the call does what the twin says. Printed by a program. -/
namespace Go.Proofs.YtjghgfohpihhfaaDoor
open Go.Tw
set_option linter.unusedSimpArgs false
set_option linter.unusedVariables false
def ord65 : Nat → List (Tag × Nat)
  | 6 => [(.p, 3), (.p, 4), (.c, 5), (.w, 0), (.p, 1), (.c, 2), (.w, 6), (.p, 7), (.p, 8), (.w, 9), (.p, 10)]
  | 8 => [(.p, 0), (.p, 1), (.p, 2), (.p, 3), (.p, 4), (.w, 5)]
  | _ => []
def al65 : Nat → Option Nat
  | _ => none
def E65 (F : Nat) : Ev := ⟨cfg, 38, ctOf [(79, ct79 F), (81, ct81 F), (80, ct80 F), (82, ct82x1 F)], ord65, ctOf [], al65⟩
theorem cts65 (F : Nat) : CtsOk Tryd.prog (E65 F) := cts_of (l := [(79, ct79 F), (81, ct81 F), (80, ct80 F), (82, ct82x1 F)]) (l' := []) rfl rfl ⟨⟨ok79 F, _, Tryd.func79, rfl, rfl⟩, ⟨⟨ok81 F, _, Tryd.func81, rfl, rfl⟩, ⟨⟨ok80 F, _, Tryd.func80, rfl, rfl⟩, ⟨⟨ok82x1 F, _, Tryd.func82, rfl, rfl⟩, trivial⟩⟩⟩⟩ trivial
def T65c (F : Nat) (p0 : List UInt8) {β : Type} (k : ((Vector UInt32 8) × (Vector UInt8 64) × Int × (Vector UInt8 64)) → Option β) : Option β :=
  (bif (decide ((64 : Int) < (p0.length : Int))) then (Option.bind (T79 F ([p0] : List (List UInt8))) fun z18 => (Option.bind (gslb 64 (0 : Int) ((64 : Nat) : Int)) fun x19 => (Option.bind (vix (gv0) (1 : Int)) fun x20 => (Option.bind (T81 F) fun z21 => (Option.bind (T80 F x20 (vspl (Vector.replicate 64 (0 : UInt8)) x19.1 z18 (Nat.min z18.length (x19.2 - x19.1)))) fun z22 => (Option.bind (vix (gv0) (0 : Int)) fun x23 => (Option.bind (T80 F x23 (vspl (Vector.replicate 64 (0 : UInt8)) x19.1 z18 (Nat.min z18.length (x19.2 - x19.1)))) fun z24 => (Option.bind (gslb 64 (0 : Int) ((64 : Nat) : Int)) fun x25 => (Option.bind (T82x1 F ((z24.toList.drop x25.1).take (x25.2 - x25.1)) z21.1 z21.2.1 z21.2.2) fun z26 => (k (z26.1, z26.2.1, z26.2.2, z22))))))))))) else (Option.bind (gslb 64 (0 : Int) ((64 : Nat) : Int)) fun x27 => (Option.bind (vix (gv0) (1 : Int)) fun x28 => (Option.bind (T81 F) fun z29 => (Option.bind (T80 F x28 (vspl (Vector.replicate 64 (0 : UInt8)) x27.1 p0 (Nat.min p0.length (x27.2 - x27.1)))) fun z30 => (Option.bind (vix (gv0) (0 : Int)) fun x31 => (Option.bind (T80 F x31 (vspl (Vector.replicate 64 (0 : UInt8)) x27.1 p0 (Nat.min p0.length (x27.2 - x27.1)))) fun z32 => (Option.bind (gslb 64 (0 : Int) ((64 : Nat) : Int)) fun x33 => (Option.bind (T82x1 F ((z32.toList.drop x33.1).take (x33.2 - x33.1)) z29.1 z29.2.1 z29.2.2) fun z34 => (k (z34.1, z34.2.1, z34.2.2, z30)))))))))))
def T65 (F : Nat) (p0 : List UInt8) : Option ((Vector UInt32 8) × (Vector UInt8 64) × Int × (Vector UInt8 64)) := T65c F p0 some
theorem T65n (F : Nat) (p0 : List UInt8) {β : Type} (k : ((Vector UInt32 8) × (Vector UInt8 64) × Int × (Vector UInt8 64)) → Option β) : T65c F p0 k = (T65 F p0).bind k := by
  simp only [T65, T65c, Option.bind_assoc, cond_bind, Option.bind_some, elimS_bind]
@[reducible] def cA65 : List Sh := [.str]
@[reducible] def cB65 : List Sh := [(.pt 0 [])]
@[reducible] def cT65 : List TSh := []
@[reducible] def cU65 : List TSh := [.blk 112 (.pr (.pr (.pr (.ar 8 .u32) (.pr (.ar 64 .u8) (.pr .i .un))) (.pr (.ar 64 .u8) .un)) .un)]
def ct65 (F : Nat) : Ct := mkC 0 cA65 cT65 cB65 cU65 (fun x y => T65 F x.1) (fun x y (z : (Vector UInt32 8) × (Vector UInt8 64) × Int × (Vector UInt8 64)) => (((), ()), ((((z.1, z.2.1, z.2.2.1, ()), z.2.2.2, ()), ()), ())))
theorem eq65 (F : Nat) (x : dens cA65) (y : tdens cT65) : sev (E65 F) 0 [] (bodyOf Tryd.f65) [] (mkSt (rng 1) cA65 cT65 x y) (kFn (E65 F) 0 Tryd.f65.results.toList cB65 cU65 fun p q => some (p, q)) =
    T65c F x.1 (fun z => some (((), ()), ((((z.1, z.2.1, z.2.2.1, ()), z.2.2.2, ()), ()), ()))) := by kernel_rfl
theorem ok65 (F : Nat) : Sound Tryd.prog cfg 65 (ct65 F) :=
  mkC_ok (E := E65 F) (lp := []) (code := bodyOf Tryd.f65) Tryd.func65 rfl Tryd.ntmps65 rfl rfl cok (cts65 F) mixed trivial (by kernel_rfl) (fun x y k => T65c F x.1 k) (fun x y k => T65n F x.1 k) (eq65 F)
end Go.Proofs.YtjghgfohpihhfaaDoor
/- (*kinkeep/hmac.Mac).Write: its twin, and that the call does what the twin says. Printed by a program. -/
namespace Go.Proofs.YtjghgfohpihhfaaDoor
open Go.Tw
set_option linter.unusedSimpArgs false
set_option linter.unusedVariables false
def ord66 : Nat → List (Tag × Nat)
  | _ => []
def al66 : Nat → Option Nat
  | _ => none
def E66 (F : Nat) : Ev := ⟨cfg, 10, ctOf [(82, ct82x1 F)], ord66, ctOf [], al66⟩
theorem cts66 (F : Nat) : CtsOk Tryd.prog (E66 F) := cts_of (l := [(82, ct82x1 F)]) (l' := []) rfl rfl ⟨⟨ok82x1 F, _, Tryd.func82, rfl, rfl⟩, trivial⟩ trivial
def T66c (F : Nat) (p0 : List UInt8) (p1 : Vector UInt32 8) (p2 : Vector UInt8 64) (p3 : Int) {β : Type} (k : ((Vector UInt32 8) × (Vector UInt8 64) × Int) → Option β) : Option β :=
  (Option.bind (T82x1 F p0 p1 p2 p3) fun z2 => (k (z2.1, z2.2.1, z2.2.2)))
def T66 (F : Nat) (p0 : List UInt8) (p1 : Vector UInt32 8) (p2 : Vector UInt8 64) (p3 : Int) : Option ((Vector UInt32 8) × (Vector UInt8 64) × Int) := T66c F p0 p1 p2 p3 some
theorem T66n (F : Nat) (p0 : List UInt8) (p1 : Vector UInt32 8) (p2 : Vector UInt8 64) (p3 : Int) {β : Type} (k : ((Vector UInt32 8) × (Vector UInt8 64) × Int) → Option β) : T66c F p0 p1 p2 p3 k = (T66 F p0 p1 p2 p3).bind k := by
  simp only [T66, T66c, Option.bind_assoc, cond_bind, Option.bind_some, elimS_bind]
@[reducible] def cA66 : List Sh := [(.pt 0 []), (.ro .u8)]
@[reducible] def cB66 : List Sh := []
@[reducible] def cT66 : List TSh := [.blk 112 (.pr (.pr (.pr (.ar 8 .u32) (.pr (.ar 64 .u8) (.pr .i .un))) (.pr (.ar 64 .u8) .un)) .un)]
@[reducible] def cU66 : List TSh := [.blk 112 (.pr (.pr (.pr (.ar 8 .u32) (.pr (.ar 64 .u8) (.pr .i .un))) (.pr (.ar 64 .u8) .un)) .un)]
def ct66 (F : Nat) : Ct := mkC 1 cA66 cT66 cB66 cU66 (fun x y => T66 F x.2.1 y.1.1.1.1 y.1.1.1.2.1 y.1.1.1.2.2.1) (fun x y (z : (Vector UInt32 8) × (Vector UInt8 64) × Int) => ((), ((((z.1, z.2.1, z.2.2, ()), y.1.1.2.1, ()), ()), ())))
theorem eq66 (F : Nat) (x : dens cA66) (y : tdens cT66) : sev (E66 F) 1 [] (bodyOf Tryd.f66) [] (mkSt (rng 2) cA66 cT66 x y) (kFn (E66 F) 1 Tryd.f66.results.toList cB66 cU66 fun p q => some (p, q)) =
    T66c F x.2.1 y.1.1.1.1 y.1.1.1.2.1 y.1.1.1.2.2.1 (fun z => some ((), ((((z.1, z.2.1, z.2.2, ()), y.1.1.2.1, ()), ()), ()))) := by kernel_rfl
theorem ok66 (F : Nat) : Sound Tryd.prog cfg 66 (ct66 F) :=
  mkC_ok (E := E66 F) (lp := []) (code := bodyOf Tryd.f66) Tryd.func66 rfl Tryd.ntmps66 rfl rfl cok (cts66 F) mixed trivial (by kernel_rfl) (fun x y k => T66c F x.2.1 y.1.1.1.1 y.1.1.1.2.1 y.1.1.1.2.2.1 k) (fun x y k => T66n F x.2.1 y.1.1.1.1 y.1.1.1.2.1 y.1.1.1.2.2.1 k) (eq66 F)
end Go.Proofs.YtjghgfohpihhfaaDoor
/- (*kinkeep/hmac.Mac).Sum: its twin, and that the call does what the twin says. Printed by a program. -/
namespace Go.Proofs.YtjghgfohpihhfaaDoor
open Go.Tw
set_option linter.unusedSimpArgs false
set_option linter.unusedVariables false
def ord67 : Nat → List (Tag × Nat)
  | 1 => [(.p, 0), (.p, 1), (.p, 2), (.p, 3), (.p, 4), (.c, 5), (.p, 6), (.p, 7), (.p, 8), (.p, 9), (.w, 10), (.w, 11), (.w, 12), (.p, 13)]
  | _ => []
def al67 : Nat → Option Nat
  | _ => none
def E67 (F : Nat) : Ev := ⟨cfg, 16, ctOf [(83, ct83 F), (79, ct79 F)], ord67, ctOf [], al67⟩
theorem cts67 (F : Nat) : CtsOk Tryd.prog (E67 F) := cts_of (l := [(83, ct83 F), (79, ct79 F)]) (l' := []) rfl rfl ⟨⟨ok83 F, _, Tryd.func83, rfl, rfl⟩, ⟨⟨ok79 F, _, Tryd.func79, rfl, rfl⟩, trivial⟩⟩ trivial
def T67c (F : Nat) (p0 : Vector UInt32 8) (p1 : Vector UInt8 64) (p2 : Int) (p3 : Vector UInt8 64) {β : Type} (k : ((List UInt8)) → Option β) : Option β :=
  (Option.bind (gslb 64 (0 : Int) ((64 : Nat) : Int)) fun x4 => (Option.bind (T83 F (p0, p1, p2, ())) fun z5 => (Option.bind (T79 F ([((p3.toList.drop x4.1).take (x4.2 - x4.1)), z5] : List (List UInt8))) fun z6 => (k z6))))
def T67 (F : Nat) (p0 : Vector UInt32 8) (p1 : Vector UInt8 64) (p2 : Int) (p3 : Vector UInt8 64) : Option ((List UInt8)) := T67c F p0 p1 p2 p3 some
theorem T67n (F : Nat) (p0 : Vector UInt32 8) (p1 : Vector UInt8 64) (p2 : Int) (p3 : Vector UInt8 64) {β : Type} (k : ((List UInt8)) → Option β) : T67c F p0 p1 p2 p3 k = (T67 F p0 p1 p2 p3).bind k := by
  simp only [T67, T67c, Option.bind_assoc, cond_bind, Option.bind_some, elimS_bind]
@[reducible] def cA67 : List Sh := [(.pt 0 [])]
@[reducible] def cB67 : List Sh := [.str]
@[reducible] def cT67 : List TSh := [.blk 112 (.pr (.pr (.pr (.ar 8 .u32) (.pr (.ar 64 .u8) (.pr .i .un))) (.pr (.ar 64 .u8) .un)) .un)]
@[reducible] def cU67 : List TSh := [.blk 112 (.pr (.pr (.pr (.ar 8 .u32) (.pr (.ar 64 .u8) (.pr .i .un))) (.pr (.ar 64 .u8) .un)) .un)]
def ct67 (F : Nat) : Ct := mkC 1 cA67 cT67 cB67 cU67 (fun x y => T67 F y.1.1.1.1 y.1.1.1.2.1 y.1.1.1.2.2.1 y.1.1.2.1) (fun x y (z : (List UInt8)) => ((z, ()), ((((y.1.1.1.1, y.1.1.1.2.1, y.1.1.1.2.2.1, ()), y.1.1.2.1, ()), ()), ())))
theorem eq67 (F : Nat) (x : dens cA67) (y : tdens cT67) : sev (E67 F) 1 [] (bodyOf Tryd.f67) [] (mkSt (rng 1) cA67 cT67 x y) (kFn (E67 F) 1 Tryd.f67.results.toList cB67 cU67 fun p q => some (p, q)) =
    T67c F y.1.1.1.1 y.1.1.1.2.1 y.1.1.1.2.2.1 y.1.1.2.1 (fun z => some ((z, ()), ((((y.1.1.1.1, y.1.1.1.2.1, y.1.1.1.2.2.1, ()), y.1.1.2.1, ()), ()), ()))) := by kernel_rfl
theorem ok67 (F : Nat) : Sound Tryd.prog cfg 67 (ct67 F) :=
  mkC_ok (E := E67 F) (lp := []) (code := bodyOf Tryd.f67) Tryd.func67 rfl Tryd.ntmps67 rfl rfl cok (cts67 F) mixed trivial (by kernel_rfl) (fun x y k => T67c F y.1.1.1.1 y.1.1.1.2.1 y.1.1.1.2.2.1 y.1.1.2.1 k) (fun x y k => T67n F y.1.1.1.1 y.1.1.1.2.1 y.1.1.1.2.2.1 y.1.1.2.1 k) (eq67 F)
end Go.Proofs.YtjghgfohpihhfaaDoor
/- kinkeep/hmac.Tag: its twin, and that the call does what the twin says. Printed by a program. -/
namespace Go.Proofs.YtjghgfohpihhfaaDoor
open Go.Tw
set_option linter.unusedSimpArgs false
set_option linter.unusedVariables false
def ord51 : Nat → List (Tag × Nat)
  | _ => []
def al51 : Nat → Option Nat
  | _ => none
def E51 (F : Nat) : Ev := ⟨cfg, 13, ctOf [(65, ct65 F), (66, ct66 F), (67, ct67 F)], ord51, ctOf [], al51⟩
theorem cts51 (F : Nat) : CtsOk Tryd.prog (E51 F) := cts_of (l := [(65, ct65 F), (66, ct66 F), (67, ct67 F)]) (l' := []) rfl rfl ⟨⟨ok65 F, _, Tryd.func65, rfl, rfl⟩, ⟨⟨ok66 F, _, Tryd.func66, rfl, rfl⟩, ⟨⟨ok67 F, _, Tryd.func67, rfl, rfl⟩, trivial⟩⟩⟩ trivial
def T51c (F : Nat) (p0 : List UInt8) (p1 : List UInt8) {β : Type} (k : ((List UInt8)) → Option β) : Option β :=
  (Option.bind (T65 F p0) fun z4 => (Option.bind (T66 F p1 z4.1 z4.2.1 z4.2.2.1) fun z5 => (Option.bind (T67 F z5.1 z5.2.1 z5.2.2 z4.2.2.2) fun z6 => (k z6))))
def T51 (F : Nat) (p0 : List UInt8) (p1 : List UInt8) : Option ((List UInt8)) := T51c F p0 p1 some
theorem T51n (F : Nat) (p0 : List UInt8) (p1 : List UInt8) {β : Type} (k : ((List UInt8)) → Option β) : T51c F p0 p1 k = (T51 F p0 p1).bind k := by
  simp only [T51, T51c, Option.bind_assoc, cond_bind, Option.bind_some, elimS_bind]
@[reducible] def cA51 : List Sh := [.str, (.ro .u8)]
@[reducible] def cB51 : List Sh := [.str]
@[reducible] def cT51 : List TSh := []
@[reducible] def cU51 : List TSh := []
def ct51 (F : Nat) : Ct := mkC 0 cA51 cT51 cB51 cU51 (fun x y => T51 F x.1 x.2.1) (fun x y (z : (List UInt8)) => ((z, ()), ()))
theorem eq51 (F : Nat) (x : dens cA51) (y : tdens cT51) : sev (E51 F) 0 [] (bodyOf Tryd.f51) [] (mkSt (rng 2) cA51 cT51 x y) (kFn (E51 F) 0 Tryd.f51.results.toList cB51 cU51 fun p q => some (p, q)) =
    T51c F x.1 x.2.1 (fun z => some ((z, ()), ())) := by kernel_rfl
theorem ok51 (F : Nat) : Sound Tryd.prog cfg 51 (ct51 F) :=
  mkC_ok (E := E51 F) (lp := []) (code := bodyOf Tryd.f51) Tryd.func51 rfl Tryd.ntmps51 rfl rfl cok (cts51 F) mixed trivial (by kernel_rfl) (fun x y k => T51c F x.1 x.2.1 k) (fun x y k => T51n F x.1 x.2.1 k) (eq51 F)
end Go.Proofs.YtjghgfohpihhfaaDoor
/- kinkeep/seal.Name: its twin, and that the call does what the twin says. Printed by a program. -/
namespace Go.Proofs.YtjghgfohpihhfaaDoor
open Go.Tw
set_option linter.unusedSimpArgs false
set_option linter.unusedVariables false
def ord23 : Nat → List (Tag × Nat)
  | 5 => [(.p, 0), (.c, 1), (.p, 2), (.p, 3), (.p, 5), (.w, 4), (.w, 6), (.w, 7), (.p, 8), (.p, 9)]
  | _ => []
def al23 : Nat → Option Nat
  | _ => none
def E23 (F : Nat) : Ev := ⟨cfg, 26, ctOf [(50, ct50 F), (44, ct44 F), (51, ct51 F)], ord23, ctOf [], al23⟩
theorem cts23 (F : Nat) : CtsOk Tryd.prog (E23 F) := cts_of (l := [(50, ct50 F), (44, ct44 F), (51, ct51 F)]) (l' := []) rfl rfl ⟨⟨ok50 F, _, Tryd.func50, rfl, rfl⟩, ⟨⟨ok44 F, _, Tryd.func44, rfl, rfl⟩, ⟨⟨ok51 F, _, Tryd.func51, rfl, rfl⟩, trivial⟩⟩⟩ trivial
def T23c (F : Nat) (p0 : List UInt8) (p1 : List UInt8) (p2 : List UInt8) (p3 : List UInt8) (p4 : List UInt8) (p5 : Int) (p6 : List UInt8) {β : Type} (k : ((List UInt8) × Int) → Option β) : Option β :=
  (Option.bind (T50 F p0 p1 p2 p3 p4) fun z5 => (bif (!z5) then (k (([] : List UInt8), (1 : Int))) else (bif (decide (p5 < (0 : Int))) then (k (([] : List UInt8), (1 : Int))) else (bif (decide ((32768 : Int) < (p6.length : Int))) then (k (([] : List UInt8), (2 : Int))) else (Option.bind (T44 F ([] : List UInt8) (UInt64.ofInt p5)) fun z6 => (Option.bind (gapp z6 p6) fun x7 => (Option.bind (T51 F p0 x7) fun z8 => (k (z8, (0 : Int))))))))))
def T23 (F : Nat) (p0 : List UInt8) (p1 : List UInt8) (p2 : List UInt8) (p3 : List UInt8) (p4 : List UInt8) (p5 : Int) (p6 : List UInt8) : Option ((List UInt8) × Int) := T23c F p0 p1 p2 p3 p4 p5 p6 some
theorem T23n (F : Nat) (p0 : List UInt8) (p1 : List UInt8) (p2 : List UInt8) (p3 : List UInt8) (p4 : List UInt8) (p5 : Int) (p6 : List UInt8) {β : Type} (k : ((List UInt8) × Int) → Option β) : T23c F p0 p1 p2 p3 p4 p5 p6 k = (T23 F p0 p1 p2 p3 p4 p5 p6).bind k := by
  simp only [T23, T23c, Option.bind_assoc, cond_bind, Option.bind_some, elimS_bind]
@[reducible] def cA23 : List Sh := [(.pr .str (.pr .str (.pr .str (.pr .str (.pr .str .un))))), .i, (.ro .u8)]
@[reducible] def cB23 : List Sh := [.str, .i]
@[reducible] def cT23 : List TSh := []
@[reducible] def cU23 : List TSh := []
def ct23 (F : Nat) : Ct := mkC 0 cA23 cT23 cB23 cU23 (fun x y => T23 F x.1.1 x.1.2.1 x.1.2.2.1 x.1.2.2.2.1 x.1.2.2.2.2.1 x.2.1 x.2.2.1) (fun x y (z : (List UInt8) × Int) => ((z.1, z.2, ()), ()))
theorem eq23 (F : Nat) (x : dens cA23) (y : tdens cT23) : sev (E23 F) 0 [] (bodyOf Tryd.f23) [] (mkSt (rng 3) cA23 cT23 x y) (kFn (E23 F) 0 Tryd.f23.results.toList cB23 cU23 fun p q => some (p, q)) =
    T23c F x.1.1 x.1.2.1 x.1.2.2.1 x.1.2.2.2.1 x.1.2.2.2.2.1 x.2.1 x.2.2.1 (fun z => some ((z.1, z.2, ()), ())) := by kernel_rfl
theorem ok23 (F : Nat) : Sound Tryd.prog cfg 23 (ct23 F) :=
  mkC_ok (E := E23 F) (lp := []) (code := bodyOf Tryd.f23) Tryd.func23 rfl Tryd.ntmps23 rfl rfl cok (cts23 F) mixed trivial (by kernel_rfl) (fun x y k => T23c F x.1.1 x.1.2.1 x.1.2.2.1 x.1.2.2.2.1 x.1.2.2.2.2.1 x.2.1 x.2.2.1 k) (fun x y k => T23n F x.1.1 x.1.2.1 x.1.2.2.1 x.1.2.2.2.1 x.1.2.2.2.2.1 x.2.1 x.2.2.1 k) (eq23 F)
end Go.Proofs.YtjghgfohpihhfaaDoor
/- kinkeep/seal.Check: its twin, and that the call does what the twin says. Printed by a program. -/
namespace Go.Proofs.YtjghgfohpihhfaaDoor
open Go.Tw
set_option linter.unusedSimpArgs false
set_option linter.unusedVariables false
def ord25 : Nat → List (Tag × Nat)
  | _ => []
def al25 : Nat → Option Nat
  | _ => none
def E25 (F : Nat) : Ev := ⟨cfg, 18, ctOf [(50, ct50 F), (51, ct51 F)], ord25, ctOf [], al25⟩
theorem cts25 (F : Nat) : CtsOk Tryd.prog (E25 F) := cts_of (l := [(50, ct50 F), (51, ct51 F)]) (l' := []) rfl rfl ⟨⟨ok50 F, _, Tryd.func50, rfl, rfl⟩, ⟨⟨ok51 F, _, Tryd.func51, rfl, rfl⟩, trivial⟩⟩ trivial
def T25c (F : Nat) (p0 : List UInt8) (p1 : List UInt8) (p2 : List UInt8) (p3 : List UInt8) (p4 : List UInt8) (p5 : List UInt8) {β : Type} (k : (Int × (List UInt8)) → Option β) : Option β :=
  (Option.bind (T50 F p0 p1 p2 p3 p4) fun z5 => (bif (!z5) then (k ((1 : Int), ([] : List UInt8))) else (bif (decide ((32768 : Int) < (p5.length : Int))) then (k ((2 : Int), ([] : List UInt8))) else (Option.bind (T51 F p2 p5) fun z6 => (Option.bind (gsl z6 (0 : Int) (16 : Int)) fun x7 => (Option.bind (gstr x7) fun x8 => (k ((0 : Int), x8))))))))
def T25 (F : Nat) (p0 : List UInt8) (p1 : List UInt8) (p2 : List UInt8) (p3 : List UInt8) (p4 : List UInt8) (p5 : List UInt8) : Option (Int × (List UInt8)) := T25c F p0 p1 p2 p3 p4 p5 some
theorem T25n (F : Nat) (p0 : List UInt8) (p1 : List UInt8) (p2 : List UInt8) (p3 : List UInt8) (p4 : List UInt8) (p5 : List UInt8) {β : Type} (k : (Int × (List UInt8)) → Option β) : T25c F p0 p1 p2 p3 p4 p5 k = (T25 F p0 p1 p2 p3 p4 p5).bind k := by
  simp only [T25, T25c, Option.bind_assoc, cond_bind, Option.bind_some, elimS_bind]
@[reducible] def cA25 : List Sh := [(.pr .str (.pr .str (.pr .str (.pr .str (.pr .str .un))))), (.ro .u8)]
@[reducible] def cB25 : List Sh := [(.rw 0), .i]
@[reducible] def cT25 : List TSh := []
@[reducible] def cU25 : List TSh := [.row 5 .u8]
def ct25 (F : Nat) : Ct := mkC 0 cA25 cT25 cB25 cU25 (fun x y => T25 F x.1.1 x.1.2.1 x.1.2.2.1 x.1.2.2.2.1 x.1.2.2.2.2.1 x.2.1) (fun x y (z : Int × (List UInt8)) => (((), z.1, ()), (z.2, ())))
theorem eq25 (F : Nat) (x : dens cA25) (y : tdens cT25) : sev (E25 F) 0 [] (bodyOf Tryd.f25) [] (mkSt (rng 2) cA25 cT25 x y) (kFn (E25 F) 0 Tryd.f25.results.toList cB25 cU25 fun p q => some (p, q)) =
    T25c F x.1.1 x.1.2.1 x.1.2.2.1 x.1.2.2.2.1 x.1.2.2.2.2.1 x.2.1 (fun z => some (((), z.1, ()), (z.2, ()))) := by kernel_rfl
theorem ok25 (F : Nat) : Sound Tryd.prog cfg 25 (ct25 F) :=
  mkC_ok (E := E25 F) (lp := []) (code := bodyOf Tryd.f25) Tryd.func25 rfl Tryd.ntmps25 rfl rfl cok (cts25 F) mixed trivial (by kernel_rfl) (fun x y k => T25c F x.1.1 x.1.2.1 x.1.2.2.1 x.1.2.2.2.1 x.1.2.2.2.2.1 x.2.1 k) (fun x y k => T25n F x.1.1 x.1.2.1 x.1.2.2.1 x.1.2.2.2.1 x.1.2.2.2.2.1 x.2.1 k) (eq25 F)
end Go.Proofs.YtjghgfohpihhfaaDoor
/- kinkeep/chacha20.valid: its twin, and that the call does what the twin says. Printed by a program. -/
namespace Go.Proofs.YtjghgfohpihhfaaDoor
open Go.Tw
set_option linter.unusedSimpArgs false
set_option linter.unusedVariables false
def ord70 : Nat → List (Tag × Nat)
  | _ => []
def al70 : Nat → Option Nat
  | _ => none
def E70 (F : Nat) : Ev := ⟨cfg, 13, ctOf [], ord70, ctOf [], al70⟩
theorem cts70 (F : Nat) : CtsOk Tryd.prog (E70 F) := cts_of (l := []) (l' := []) rfl rfl trivial trivial
def T70c (F : Nat) (p0 : List UInt8) (p1 : List UInt8) {β : Type} (k : Bool → Option β) : Option β :=
  (bif ((p0.length : Int) == (32 : Int)) then (k ((p1.length : Int) == (12 : Int))) else (k false))
def T70 (F : Nat) (p0 : List UInt8) (p1 : List UInt8) : Option (Bool) := T70c F p0 p1 some
theorem T70n (F : Nat) (p0 : List UInt8) (p1 : List UInt8) {β : Type} (k : Bool → Option β) : T70c F p0 p1 k = (T70 F p0 p1).bind k := by
  simp only [T70, T70c, Option.bind_assoc, cond_bind, Option.bind_some, elimS_bind]
@[reducible] def cA70 : List Sh := [.str, .str]
@[reducible] def cB70 : List Sh := [.bo]
@[reducible] def cT70 : List TSh := []
@[reducible] def cU70 : List TSh := []
def ct70 (F : Nat) : Ct := mkC 0 cA70 cT70 cB70 cU70 (fun x y => T70 F x.1 x.2.1) (fun x y (z : Bool) => ((z, ()), ()))
theorem eq70 (F : Nat) (x : dens cA70) (y : tdens cT70) : sev (E70 F) 0 [] (bodyOf Tryd.f70) [] (mkSt (rng 2) cA70 cT70 x y) (kFn (E70 F) 0 Tryd.f70.results.toList cB70 cU70 fun p q => some (p, q)) =
    T70c F x.1 x.2.1 (fun z => some ((z, ()), ())) := by kernel_rfl
theorem ok70 (F : Nat) : Sound Tryd.prog cfg 70 (ct70 F) :=
  mkC_ok (E := E70 F) (lp := []) (code := bodyOf Tryd.f70) Tryd.func70 rfl Tryd.ntmps70 rfl rfl cok (cts70 F) mixed trivial (by kernel_rfl) (fun x y k => T70c F x.1 x.2.1 k) (fun x y k => T70n F x.1 x.2.1 k) (eq70 F)
end Go.Proofs.YtjghgfohpihhfaaDoor
/- kinkeep/chacha20.word: its twin, and that the call does what the twin says. Printed by a program. -/
namespace Go.Proofs.YtjghgfohpihhfaaDoor
open Go.Tw
set_option linter.unusedSimpArgs false
set_option linter.unusedVariables false
def ord86 : Nat → List (Tag × Nat)
  | 1 => [(.p, 0), (.p, 1), (.p, 2), (.p, 3), (.p, 4), (.p, 5), (.p, 6), (.p, 7), (.p, 8), (.p, 9), (.p, 10), (.p, 11), (.p, 12), (.p, 13), (.p, 14), (.p, 15), (.p, 16), (.p, 17), (.p, 18), (.p, 19), (.p, 20), (.p, 21), (.p, 22), (.p, 23), (.p, 24), (.p, 25)]
  | _ => []
def al86 : Nat → Option Nat
  | _ => none
def E86 (F : Nat) : Ev := ⟨cfg, 30, ctOf [], ord86, ctOf [], al86⟩
theorem cts86 (F : Nat) : CtsOk Tryd.prog (E86 F) := cts_of (l := []) (l' := []) rfl rfl trivial trivial
def T86c (F : Nat) (p0 : List UInt8) (p1 : Int) {β : Type} (k : UInt32 → Option β) : Option β :=
  (Option.bind (ix p0 p1) fun x5 => (Option.bind (ix p0 (w64 (p1 + (1 : Int)))) fun x6 => (Option.bind (ix p0 (w64 (p1 + (2 : Int)))) fun x7 => (Option.bind (ix p0 (w64 (p1 + (3 : Int)))) fun x8 => (k ((((x5.toUInt32) ||| (shl32 (x6.toUInt32) ((UInt64.ofNat 8).toNat))) ||| (shl32 (x7.toUInt32) ((UInt64.ofNat 16).toNat))) ||| (shl32 (x8.toUInt32) ((UInt64.ofNat 24).toNat))))))))
def T86 (F : Nat) (p0 : List UInt8) (p1 : Int) : Option (UInt32) := T86c F p0 p1 some
theorem T86n (F : Nat) (p0 : List UInt8) (p1 : Int) {β : Type} (k : UInt32 → Option β) : T86c F p0 p1 k = (T86 F p0 p1).bind k := by
  simp only [T86, T86c, Option.bind_assoc, cond_bind, Option.bind_some, elimS_bind]
@[reducible] def cA86 : List Sh := [.str, .i]
@[reducible] def cB86 : List Sh := [.u32]
@[reducible] def cT86 : List TSh := []
@[reducible] def cU86 : List TSh := []
def ct86 (F : Nat) : Ct := mkC 0 cA86 cT86 cB86 cU86 (fun x y => T86 F x.1 x.2.1) (fun x y (z : UInt32) => ((z, ()), ()))
theorem eq86 (F : Nat) (x : dens cA86) (y : tdens cT86) : sev (E86 F) 0 [] (bodyOf Tryd.f86) [] (mkSt (rng 2) cA86 cT86 x y) (kFn (E86 F) 0 Tryd.f86.results.toList cB86 cU86 fun p q => some (p, q)) =
    T86c F x.1 x.2.1 (fun z => some ((z, ()), ())) := by kernel_rfl
theorem ok86 (F : Nat) : Sound Tryd.prog cfg 86 (ct86 F) :=
  mkC_ok (E := E86 F) (lp := []) (code := bodyOf Tryd.f86) Tryd.func86 rfl Tryd.ntmps86 rfl rfl cok (cts86 F) mixed trivial (by kernel_rfl) (fun x y k => T86c F x.1 x.2.1 k) (fun x y k => T86n F x.1 x.2.1 k) (eq86 F)
end Go.Proofs.YtjghgfohpihhfaaDoor
/- kinkeep/chacha20.Quarter: its twin, and that the call does what the twin says. Printed by a program. -/
namespace Go.Proofs.YtjghgfohpihhfaaDoor
open Go.Tw
set_option linter.unusedSimpArgs false
set_option linter.unusedVariables false
def ord87 : Nat → List (Tag × Nat)
  | _ => []
def al87 : Nat → Option Nat
  | _ => none
def E87 (F : Nat) : Ev := ⟨cfg, 44, ctOf [(94, ct94 F)], ord87, ctOf [], al87⟩
theorem cts87 (F : Nat) : CtsOk Tryd.prog (E87 F) := cts_of (l := [(94, ct94 F)]) (l' := []) rfl rfl ⟨⟨ok94 F, _, Tryd.func94, rfl, rfl⟩, trivial⟩ trivial
def T87c (F : Nat) (p0 : UInt32) (p1 : UInt32) (p2 : UInt32) (p3 : UInt32) {β : Type} (k : (UInt32 × UInt32 × UInt32 × UInt32) → Option β) : Option β :=
  (Option.bind (T94 F (p3 ^^^ (p0 + p1)) (16 : Int)) fun z5 => (Option.bind (T94 F (p1 ^^^ (p2 + z5)) (12 : Int)) fun z6 => (Option.bind (T94 F (z5 ^^^ ((p0 + p1) + z6)) (8 : Int)) fun z7 => (Option.bind (T94 F (z6 ^^^ ((p2 + z5) + z7)) (7 : Int)) fun z8 => (k (((p0 + p1) + z6), z8, ((p2 + z5) + z7), z7))))))
def T87 (F : Nat) (p0 : UInt32) (p1 : UInt32) (p2 : UInt32) (p3 : UInt32) : Option (UInt32 × UInt32 × UInt32 × UInt32) := T87c F p0 p1 p2 p3 some
theorem T87n (F : Nat) (p0 : UInt32) (p1 : UInt32) (p2 : UInt32) (p3 : UInt32) {β : Type} (k : (UInt32 × UInt32 × UInt32 × UInt32) → Option β) : T87c F p0 p1 p2 p3 k = (T87 F p0 p1 p2 p3).bind k := by
  simp only [T87, T87c, Option.bind_assoc, cond_bind, Option.bind_some, elimS_bind]
@[reducible] def cA87 : List Sh := [.u32, .u32, .u32, .u32]
@[reducible] def cB87 : List Sh := [.u32, .u32, .u32, .u32]
@[reducible] def cT87 : List TSh := []
@[reducible] def cU87 : List TSh := []
def ct87 (F : Nat) : Ct := mkC 0 cA87 cT87 cB87 cU87 (fun x y => T87 F x.1 x.2.1 x.2.2.1 x.2.2.2.1) (fun x y (z : UInt32 × UInt32 × UInt32 × UInt32) => ((z.1, z.2.1, z.2.2.1, z.2.2.2, ()), ()))
theorem eq87 (F : Nat) (x : dens cA87) (y : tdens cT87) : sev (E87 F) 0 [] (bodyOf Tryd.f87) [] (mkSt (rng 4) cA87 cT87 x y) (kFn (E87 F) 0 Tryd.f87.results.toList cB87 cU87 fun p q => some (p, q)) =
    T87c F x.1 x.2.1 x.2.2.1 x.2.2.2.1 (fun z => some ((z.1, z.2.1, z.2.2.1, z.2.2.2, ()), ())) := by kernel_rfl
theorem ok87 (F : Nat) : Sound Tryd.prog cfg 87 (ct87 F) :=
  mkC_ok (E := E87 F) (lp := []) (code := bodyOf Tryd.f87) Tryd.func87 rfl Tryd.ntmps87 rfl rfl cok (cts87 F) mixed trivial (by kernel_rfl) (fun x y k => T87c F x.1 x.2.1 x.2.2.1 x.2.2.2.1 k) (fun x y k => T87n F x.1 x.2.1 x.2.2.1 x.2.2.2.1 k) (eq87 F)
end Go.Proofs.YtjghgfohpihhfaaDoor
/- kinkeep/chacha20.Block: its twin, and that the call does what the twin says. Printed by a program. -/
namespace Go.Proofs.YtjghgfohpihhfaaDoor
open Go.Tw
set_option linter.unusedSimpArgs false
set_option linter.unusedVariables false
def ord71 : Nat → List (Tag × Nat)
  | 22 => [(.p, 0), (.c, 1), (.p, 2), (.c, 3), (.p, 4), (.c, 5), (.p, 6), (.c, 7), (.p, 8), (.r, 9), (.p, 10), (.r, 11), (.p, 12), (.r, 13), (.p, 14), (.r, 15), (.p, 16), (.r, 17), (.p, 18), (.r, 19), (.p, 20), (.r, 21), (.p, 22), (.r, 23), (.w, 24), (.p, 25), (.p, 26), (.p, 27), (.p, 28), (.p, 29), (.p, 30), (.w, 31), (.p, 32), (.w, 33), (.p, 34), (.w, 35), (.p, 36), (.w, 37)]
  | _ => []
def al71 : Nat → Option Nat
  | _ => none
def E71 (F : Nat) : Ev := ⟨cfg, 126, ctOf [(70, ct70 F), (86, ct86 F), (87, ct87 F)], ord71, ctOf [], al71⟩
theorem cts71 (F : Nat) : CtsOk Tryd.prog (E71 F) := cts_of (l := [(70, ct70 F), (86, ct86 F), (87, ct87 F)]) (l' := []) rfl rfl ⟨⟨ok70 F, _, Tryd.func70, rfl, rfl⟩, ⟨⟨ok86 F, _, Tryd.func86, rfl, rfl⟩, ⟨⟨ok87 F, _, Tryd.func87, rfl, rfl⟩, trivial⟩⟩⟩ trivial
def L71_7c (F : Nat) (y100 : List UInt8) (y103 : Int) (y104 : Vector UInt32 16) {β : Type} (kA : (Int × (Vector UInt32 16)) → Option β) (kO : ((Vector UInt32 16)) → Option β) : Option β :=
  (bif (decide (y103 < (8 : Int))) then (Option.bind (T86 F y100 (w64 ((4 : Int) * y103))) fun z107 => (Option.bind (inb 16 (w64 ((4 : Int) + y103))) fun x108 => (kA ((w64 (y103 + (1 : Int))), (Vector.setIfInBounds y104 x108 z107))))) else (kO y104))
def L71_7 (F : Nat) (y100 : List UInt8) (y103 : Int) (y104 : Vector UInt32 16) : Option ((Int × (Vector UInt32 16)) ⊕ ((Vector UInt32 16))) := L71_7c F y100 y103 y104 (fun s => some (.inl s)) (fun z => some (.inr z))
theorem L71_7n (F : Nat) (y100 : List UInt8) (y103 : Int) (y104 : Vector UInt32 16) {β : Type} (kA : (Int × (Vector UInt32 16)) → Option β) (kO : ((Vector UInt32 16)) → Option β) : L71_7c F y100 y103 y104 kA kO = (L71_7 F y100 y103 y104).bind (elimS kA kO) := by
  simp only [L71_7, L71_7c, Option.bind_assoc, cond_bind, Option.bind_some, elimS_l, elimS_r, elimS_bind]
@[reducible] def sA71_7 : List Sh := [.str, .str, .u32, (.pt 0 []), .i]
@[reducible] def sA171_7 : List Sh := [.str, .u32, (.pt 0 [])]
@[reducible] def sT71_7 : List TSh := [.blk 115 (.ar 16 .u32)]
@[reducible] def sT171_7 : List TSh := [.blk 115 (.ar 16 .u32)]
def lc71_7 (F : Nat) : Lc := mkL [0, 1, 2, 8, 23] sA71_7 sT71_7 [1, 2, 8] sA171_7 sT171_7 F (fun x y (s : Int × (Vector UInt32 16)) => L71_7 F x.1 s.1 s.2) (fun x y => (x.2.2.2.2.1, y.1)) (fun x y (z : (Vector UInt32 16)) => ((x.2.1, x.2.2.1, (), ()), (z, ())))
theorem le71_7 (F : Nat) (x : dens sA71_7) (y : tdens sT71_7) (s : Int × (Vector UInt32 16)) : sev (E71 F) 0 [] (cAt (bodyOf Tryd.f71) (0 :: 0 :: [1, 0, 1, 1, 1])) (0 :: 0 :: [1, 0, 1, 1, 1]) (mkSt [0, 1, 2, 8, 23] sA71_7 sT71_7 (x.1, x.2.1, x.2.2.1, (), s.1, ()) (s.2, ())) (kLoop 0 [0, 1, 2, 8, 23] sA71_7 sT71_7 [1, 2, 8] sA171_7 sT171_7 [] [] [] 0 (fun x y => some (.inl (x, y))) (fun x y => some (.inr (.inl (x, y)))) (fun x y => some (.inr (.inr (x, y))))) =
    L71_7c (β := Full sA71_7 sT71_7 sA171_7 sT171_7 [] []) F x.1 s.1 s.2 (fun s => some (.inl ((x.1, x.2.1, x.2.2.1, (), s.1, ()), (s.2, ())))) (fun z => some (.inr (.inl ((x.2.1, x.2.2.1, (), ()), (z, ()))))) := by kernel_rfl
theorem lo71_7 (F : Nat) : LcOk Tryd.prog (E71 F) 0 (lc71_7 F) (cAt (bodyOf Tryd.f71) [1, 0, 1, 1, 1]) :=
  mkL_ok (lp := []) (id := 0) (b := cAt (bodyOf Tryd.f71) (0 :: 0 :: [1, 0, 1, 1, 1])) cok (cts71 F) mixed trivial (by kernel_rfl) (by kernel_rfl) (fun x y s => (x.1, x.2.1, x.2.2.1, (), s.1, ())) (fun x y s => (s.2, ())) (fun x y => rfl) (fun x y => rfl) (fun x y s kA kO => L71_7c F x.1 s.1 s.2 kA kO) (fun x y s kA kO => L71_7n F x.1 s.1 s.2 kA kO) (le71_7 F)
def L71_8c (F : Nat) (y110 : List UInt8) (y111 : Int) (y112 : Vector UInt32 16) {β : Type} (kA : (Int × (Vector UInt32 16)) → Option β) (kO : ((Vector UInt32 16)) → Option β) : Option β :=
  (bif (decide (y111 < (3 : Int))) then (Option.bind (T86 F y110 (w64 ((4 : Int) * y111))) fun z115 => (Option.bind (inb 16 (w64 ((13 : Int) + y111))) fun x116 => (kA ((w64 (y111 + (1 : Int))), (Vector.setIfInBounds y112 x116 z115))))) else (kO y112))
def L71_8 (F : Nat) (y110 : List UInt8) (y111 : Int) (y112 : Vector UInt32 16) : Option ((Int × (Vector UInt32 16)) ⊕ ((Vector UInt32 16))) := L71_8c F y110 y111 y112 (fun s => some (.inl s)) (fun z => some (.inr z))
theorem L71_8n (F : Nat) (y110 : List UInt8) (y111 : Int) (y112 : Vector UInt32 16) {β : Type} (kA : (Int × (Vector UInt32 16)) → Option β) (kO : ((Vector UInt32 16)) → Option β) : L71_8c F y110 y111 y112 kA kO = (L71_8 F y110 y111 y112).bind (elimS kA kO) := by
  simp only [L71_8, L71_8c, Option.bind_assoc, cond_bind, Option.bind_some, elimS_l, elimS_r, elimS_bind]
@[reducible] def sA71_8 : List Sh := [.str, (.pt 0 []), .i]
@[reducible] def sA171_8 : List Sh := [(.pt 0 [])]
@[reducible] def sT71_8 : List TSh := [.blk 115 (.ar 16 .u32)]
@[reducible] def sT171_8 : List TSh := [.blk 115 (.ar 16 .u32)]
def lc71_8 (F : Nat) : Lc := mkL [1, 8, 36] sA71_8 sT71_8 [8] sA171_8 sT171_8 F (fun x y (s : Int × (Vector UInt32 16)) => L71_8 F x.1 s.1 s.2) (fun x y => (x.2.2.1, y.1)) (fun x y (z : (Vector UInt32 16)) => (((), ()), (z, ())))
theorem le71_8 (F : Nat) (x : dens sA71_8) (y : tdens sT71_8) (s : Int × (Vector UInt32 16)) : sev (E71 F) 0 [] (cAt (bodyOf Tryd.f71) (0 :: 0 :: [1, 0, 1, 1, 1, 1, 1])) (0 :: 0 :: [1, 0, 1, 1, 1, 1, 1]) (mkSt [1, 8, 36] sA71_8 sT71_8 (x.1, (), s.1, ()) (s.2, ())) (kLoop 0 [1, 8, 36] sA71_8 sT71_8 [8] sA171_8 sT171_8 [] [] [] 2 (fun x y => some (.inl (x, y))) (fun x y => some (.inr (.inl (x, y)))) (fun x y => some (.inr (.inr (x, y))))) =
    L71_8c (β := Full sA71_8 sT71_8 sA171_8 sT171_8 [] []) F x.1 s.1 s.2 (fun s => some (.inl ((x.1, (), s.1, ()), (s.2, ())))) (fun z => some (.inr (.inl (((), ()), (z, ()))))) := by kernel_rfl
theorem lo71_8 (F : Nat) : LcOk Tryd.prog (E71 F) 0 (lc71_8 F) (cAt (bodyOf Tryd.f71) [1, 0, 1, 1, 1, 1, 1]) :=
  mkL_ok (lp := []) (id := 2) (b := cAt (bodyOf Tryd.f71) (0 :: 0 :: [1, 0, 1, 1, 1, 1, 1])) cok (cts71 F) mixed trivial (by kernel_rfl) (by kernel_rfl) (fun x y s => (x.1, (), s.1, ())) (fun x y s => (s.2, ())) (fun x y => rfl) (fun x y => rfl) (fun x y s kA kO => L71_8c F x.1 s.1 s.2 kA kO) (fun x y s kA kO => L71_8n F x.1 s.1 s.2 kA kO) (le71_8 F)
def L71_11c (F : Nat) (y131 : Vector (Vector Int 4) 8) (y132 : Int) (y134 : Vector UInt32 16) {β : Type} (kO : (Int × (Vector UInt32 16)) → Option β) : Option β :=
  (Option.bind (vix y131 y132) fun x158 => (Option.bind (vat x158 0) fun x159 => (Option.bind (vat x158 1) fun x160 => (Option.bind (vat x158 2) fun x161 => (Option.bind (vat x158 3) fun x162 => (Option.bind (vat x158 0) fun x163 => (Option.bind (inb 16 x163) fun x164 => (Option.bind (vat y134 x164) fun x165 => (Option.bind (vat x158 1) fun x166 => (Option.bind (inb 16 x166) fun x167 => (Option.bind (vat y134 x167) fun x168 => (Option.bind (vat x158 2) fun x169 => (Option.bind (inb 16 x169) fun x170 => (Option.bind (vat y134 x170) fun x171 => (Option.bind (vat x158 3) fun x172 => (Option.bind (inb 16 x172) fun x173 => (Option.bind (vat y134 x173) fun x174 => (Option.bind (T87 F x165 x168 x171 x174) fun z175 => (Option.bind (inb 16 x159) fun x176 => (Option.bind (inb 16 x160) fun x177 => (Option.bind (inb 16 x161) fun x178 => (Option.bind (inb 16 x162) fun x179 => (kO ((w64 (y132 + (1 : Int))), (Vector.setIfInBounds (Vector.setIfInBounds (Vector.setIfInBounds (Vector.setIfInBounds y134 x176 z175.1) x177 z175.2.1) x178 z175.2.2.1) x179 z175.2.2.2)))))))))))))))))))))))))
def L71_11 (F : Nat) (y131 : Vector (Vector Int 4) 8) (y132 : Int) (y134 : Vector UInt32 16) : Option (Int × (Vector UInt32 16)) := L71_11c F y131 y132 y134 (fun z => some z)
theorem L71_11n (F : Nat) (y131 : Vector (Vector Int 4) 8) (y132 : Int) (y134 : Vector UInt32 16) {β : Type} (kO : (Int × (Vector UInt32 16)) → Option β) : L71_11c F y131 y132 y134 kO = (L71_11 F y131 y132 y134).bind (kO) := by
  simp only [L71_11, L71_11c, Option.bind_assoc, cond_bind, Option.bind_some, elimS_l, elimS_r, elimS_bind]
@[reducible] def sA71_11 : List Sh := [(.pt 0 []), (.pt 1 []), (.pt 2 []), .i, (.ar 8 (.ar 4 .i)), .i]
@[reducible] def sA171_11 : List Sh := [(.pt 0 []), (.pt 1 []), (.pt 2 []), .i, (.ar 8 (.ar 4 .i)), .i]
@[reducible] def sT71_11 : List TSh := [.blk 115 (.ar 16 .u32), .blk 115 (.ar 16 .u32), .blk 118 (.ar 8 (.ar 4 .i))]
@[reducible] def sT171_11 : List TSh := [.blk 115 (.ar 16 .u32), .blk 115 (.ar 16 .u32), .blk 118 (.ar 8 (.ar 4 .i))]
def lc71_11 (F : Nat) : Lc := mkJ [8, 11, 12, 57, 59, 60] sA71_11 sT71_11 [8, 11, 12, 57, 59, 60] sA171_11 sT171_11 (fun x y => L71_11 F x.2.2.2.2.1 x.2.2.2.2.2.1 y.2.1) (fun x y (z : Int × (Vector UInt32 16)) => (((), (), (), x.2.2.2.1, x.2.2.2.2.1, z.1, ()), (y.1, z.2, y.2.2.1, ())))
theorem le71_11 (F : Nat) (x : dens sA71_11) (y : tdens sT71_11) : sev (E71 F) 0 [] (cAt (bodyOf Tryd.f71) [1, 1, 0, 0, 1, 0, 0, 1, 1, 0, 0, 1, 0, 1, 1, 1, 1, 1, 1, 1, 1]) [1, 1, 0, 0, 1, 0, 0, 1, 1, 0, 0, 1, 0, 1, 1, 1, 1, 1, 1, 1, 1] (mkSt [8, 11, 12, 57, 59, 60] sA71_11 sT71_11 x y) (kJoin 0 [8, 11, 12, 57, 59, 60] sA171_11 sT171_11 (fun x y => some (x, y))) =
    L71_11c (β := dens sA171_11 × tdens sT171_11) F x.2.2.2.2.1 x.2.2.2.2.2.1 y.2.1 (fun z => some (((), (), (), x.2.2.2.1, x.2.2.2.2.1, z.1, ()), (y.1, z.2, y.2.2.1, ()))) := by kernel_rfl
theorem lo71_11 (F : Nat) : LcOk Tryd.prog (E71 F) 0 (lc71_11 F) (cAt (bodyOf Tryd.f71) [1, 1, 0, 0, 1, 0, 0, 1, 1, 0, 0, 1, 0, 1, 1, 1, 1, 1, 1, 1, 1]) :=
  mkJ_ok (lp := []) cok (cts71 F) mixed trivial (by kernel_rfl) (fun x y kO => L71_11c F x.2.2.2.2.1 x.2.2.2.2.2.1 y.2.1 kO) (fun x y kO => L71_11n F x.2.2.2.2.1 x.2.2.2.2.2.1 y.2.1 kO) (le71_11 F)
def L71_10c (F : Nat) (y124 : Vector (Vector Int 4) 8) (y125 : Int) (y127 : Vector UInt32 16) {β : Type} (kA : (Int × (Vector UInt32 16)) → Option β) (kO : ((Vector UInt32 16)) → Option β) : Option β :=
  (bif (decide (y125 < (8 : Int))) then (Option.bind (L71_11 F y124 y125 y127) fun z180 => (kA (z180.1, z180.2))) else (kO y127))
def L71_10 (F : Nat) (y124 : Vector (Vector Int 4) 8) (y125 : Int) (y127 : Vector UInt32 16) : Option ((Int × (Vector UInt32 16)) ⊕ ((Vector UInt32 16))) := L71_10c F y124 y125 y127 (fun s => some (.inl s)) (fun z => some (.inr z))
theorem L71_10n (F : Nat) (y124 : Vector (Vector Int 4) 8) (y125 : Int) (y127 : Vector UInt32 16) {β : Type} (kA : (Int × (Vector UInt32 16)) → Option β) (kO : ((Vector UInt32 16)) → Option β) : L71_10c F y124 y125 y127 kA kO = (L71_10 F y124 y125 y127).bind (elimS kA kO) := by
  simp only [L71_10, L71_10c, Option.bind_assoc, cond_bind, Option.bind_some, elimS_l, elimS_r, elimS_bind]
@[reducible] def sA71_10 : List Sh := [(.pt 0 []), (.pt 1 []), (.pt 2 []), .i, (.ar 8 (.ar 4 .i)), .i]
@[reducible] def sA171_10 : List Sh := [(.pt 0 []), (.pt 1 []), (.pt 2 []), .i]
@[reducible] def sT71_10 : List TSh := [.blk 115 (.ar 16 .u32), .blk 115 (.ar 16 .u32), .blk 118 (.ar 8 (.ar 4 .i))]
@[reducible] def sT171_10 : List TSh := [.blk 115 (.ar 16 .u32), .blk 115 (.ar 16 .u32), .blk 118 (.ar 8 (.ar 4 .i))]
def lc71_10 (F : Nat) : Lc := mkL [8, 11, 12, 57, 59, 60] sA71_10 sT71_10 [8, 11, 12, 57] sA171_10 sT171_10 F (fun x y (s : Int × (Vector UInt32 16)) => L71_10 F x.2.2.2.2.1 s.1 s.2) (fun x y => (x.2.2.2.2.2.1, y.2.1)) (fun x y (z : (Vector UInt32 16)) => (((), (), (), x.2.2.2.1, ()), (y.1, z, y.2.2.1, ())))
theorem le71_10 (F : Nat) (x : dens sA71_10) (y : tdens sT71_10) (s : Int × (Vector UInt32 16)) : sev (E71 F) 0 [([1, 1, 0, 0, 1, 0, 0, 1, 1, 0, 0, 1, 0, 1, 1, 1, 1, 1, 1, 1, 1], lc71_11 F)] (cAt (bodyOf Tryd.f71) (0 :: 0 :: [1, 0, 0, 1, 1, 0, 0, 1, 0, 1, 1, 1, 1, 1, 1, 1, 1])) (0 :: 0 :: [1, 0, 0, 1, 1, 0, 0, 1, 0, 1, 1, 1, 1, 1, 1, 1, 1]) (mkSt [8, 11, 12, 57, 59, 60] sA71_10 sT71_10 ((), (), (), x.2.2.2.1, x.2.2.2.2.1, s.1, ()) (y.1, s.2, y.2.2.1, ())) (kLoop 0 [8, 11, 12, 57, 59, 60] sA71_10 sT71_10 [8, 11, 12, 57] sA171_10 sT171_10 [] [] [] 6 (fun x y => some (.inl (x, y))) (fun x y => some (.inr (.inl (x, y)))) (fun x y => some (.inr (.inr (x, y))))) =
    L71_10c (β := Full sA71_10 sT71_10 sA171_10 sT171_10 [] []) F x.2.2.2.2.1 s.1 s.2 (fun s => some (.inl (((), (), (), x.2.2.2.1, x.2.2.2.2.1, s.1, ()), (y.1, s.2, y.2.2.1, ())))) (fun z => some (.inr (.inl (((), (), (), x.2.2.2.1, ()), (y.1, z, y.2.2.1, ()))))) := by kernel_rfl
theorem lo71_10 (F : Nat) : LcOk Tryd.prog (E71 F) 0 (lc71_10 F) (cAt (bodyOf Tryd.f71) [1, 0, 0, 1, 1, 0, 0, 1, 0, 1, 1, 1, 1, 1, 1, 1, 1]) :=
  mkL_ok (lp := [([1, 1, 0, 0, 1, 0, 0, 1, 1, 0, 0, 1, 0, 1, 1, 1, 1, 1, 1, 1, 1], lc71_11 F)]) (id := 6) (b := cAt (bodyOf Tryd.f71) (0 :: 0 :: [1, 0, 0, 1, 1, 0, 0, 1, 0, 1, 1, 1, 1, 1, 1, 1, 1])) cok (cts71 F) mixed ⟨lo71_11 F, trivial⟩ (by kernel_rfl) (by kernel_rfl) (fun x y s => ((), (), (), x.2.2.2.1, x.2.2.2.2.1, s.1, ())) (fun x y s => (y.1, s.2, y.2.2.1, ())) (fun x y => rfl) (fun x y => rfl) (fun x y s kA kO => L71_10c F x.2.2.2.2.1 s.1 s.2 kA kO) (fun x y s kA kO => L71_10n F x.2.2.2.2.1 s.1 s.2 kA kO) (le71_10 F)
def L71_9c (F : Nat) (y121 : Vector (Vector Int 4) 8) (y118 : Int) (y120 : Vector UInt32 16) {β : Type} (kA : (Int × (Vector UInt32 16)) → Option β) (kO : ((Vector UInt32 16)) → Option β) : Option β :=
  (bif (decide (y118 < (10 : Int))) then (Option.bind (iter (fun s => L71_10 F y121 s.1 s.2) F ((0 : Int), y120)) fun z181 => (kA ((w64 (y118 + (1 : Int))), z181))) else (kO y120))
def L71_9 (F : Nat) (y121 : Vector (Vector Int 4) 8) (y118 : Int) (y120 : Vector UInt32 16) : Option ((Int × (Vector UInt32 16)) ⊕ ((Vector UInt32 16))) := L71_9c F y121 y118 y120 (fun s => some (.inl s)) (fun z => some (.inr z))
theorem L71_9n (F : Nat) (y121 : Vector (Vector Int 4) 8) (y118 : Int) (y120 : Vector UInt32 16) {β : Type} (kA : (Int × (Vector UInt32 16)) → Option β) (kO : ((Vector UInt32 16)) → Option β) : L71_9c F y121 y118 y120 kA kO = (L71_9 F y121 y118 y120).bind (elimS kA kO) := by
  simp only [L71_9, L71_9c, Option.bind_assoc, cond_bind, Option.bind_some, elimS_l, elimS_r, elimS_bind]
@[reducible] def sA71_9 : List Sh := [(.pt 0 []), (.pt 1 []), (.pt 2 []), .i]
@[reducible] def sA171_9 : List Sh := [(.pt 0 []), (.pt 1 [])]
@[reducible] def sT71_9 : List TSh := [.blk 115 (.ar 16 .u32), .blk 115 (.ar 16 .u32), .blk 118 (.ar 8 (.ar 4 .i))]
@[reducible] def sT171_9 : List TSh := [.blk 115 (.ar 16 .u32), .blk 115 (.ar 16 .u32)]
def lc71_9 (F : Nat) : Lc := mkL [8, 11, 12, 57] sA71_9 sT71_9 [8, 11] sA171_9 sT171_9 F (fun x y (s : Int × (Vector UInt32 16)) => L71_9 F y.2.2.1 s.1 s.2) (fun x y => (x.2.2.2.1, y.2.1)) (fun x y (z : (Vector UInt32 16)) => (((), (), ()), (y.1, z, ())))
theorem le71_9 (F : Nat) (x : dens sA71_9) (y : tdens sT71_9) (s : Int × (Vector UInt32 16)) : sev (E71 F) 0 [([1, 0, 0, 1, 1, 0, 0, 1, 0, 1, 1, 1, 1, 1, 1, 1, 1], lc71_10 F)] (cAt (bodyOf Tryd.f71) (0 :: 0 :: [1, 0, 1, 1, 1, 1, 1, 1, 1, 1])) (0 :: 0 :: [1, 0, 1, 1, 1, 1, 1, 1, 1, 1]) (mkSt [8, 11, 12, 57] sA71_9 sT71_9 ((), (), (), s.1, ()) (y.1, s.2, y.2.2.1, ())) (kLoop 0 [8, 11, 12, 57] sA71_9 sT71_9 [8, 11] sA171_9 sT171_9 [] [] [] 4 (fun x y => some (.inl (x, y))) (fun x y => some (.inr (.inl (x, y)))) (fun x y => some (.inr (.inr (x, y))))) =
    L71_9c (β := Full sA71_9 sT71_9 sA171_9 sT171_9 [] []) F y.2.2.1 s.1 s.2 (fun s => some (.inl (((), (), (), s.1, ()), (y.1, s.2, y.2.2.1, ())))) (fun z => some (.inr (.inl (((), (), ()), (y.1, z, ()))))) := by kernel_rfl
theorem lo71_9 (F : Nat) : LcOk Tryd.prog (E71 F) 0 (lc71_9 F) (cAt (bodyOf Tryd.f71) [1, 0, 1, 1, 1, 1, 1, 1, 1, 1]) :=
  mkL_ok (lp := [([1, 0, 0, 1, 1, 0, 0, 1, 0, 1, 1, 1, 1, 1, 1, 1, 1], lc71_10 F)]) (id := 4) (b := cAt (bodyOf Tryd.f71) (0 :: 0 :: [1, 0, 1, 1, 1, 1, 1, 1, 1, 1])) cok (cts71 F) mixed ⟨lo71_10 F, trivial⟩ (by kernel_rfl) (by kernel_rfl) (fun x y s => ((), (), (), s.1, ())) (fun x y s => (y.1, s.2, y.2.2.1, ())) (fun x y => rfl) (fun x y => rfl) (fun x y s kA kO => L71_9c F y.2.2.1 s.1 s.2 kA kO) (fun x y s kA kO => L71_9n F y.2.2.1 s.1 s.2 kA kO) (le71_9 F)
def L71_12c (F : Nat) (y184 : Vector UInt32 16) (y186 : Vector UInt32 16) (y185 : Int) (y187 : List UInt8) {β : Type} (kA : (Int × (List UInt8)) → Option β) (kO : ((List UInt8)) → Option β) : Option β :=
  (bif (decide (y185 < (16 : Int))) then (Option.bind (vix y184 y185) fun x192 => (Option.bind (inb 16 y185) fun x193 => (Option.bind (vat y186 x193) fun x194 => (Option.bind (gapp y187 ([((x192 + x194).toUInt8), ((shr32 (x192 + x194) ((UInt64.ofNat 8).toNat)).toUInt8), ((shr32 (x192 + x194) ((UInt64.ofNat 16).toNat)).toUInt8), ((shr32 (x192 + x194) ((UInt64.ofNat 24).toNat)).toUInt8)] : List UInt8)) fun x195 => (kA ((w64 (y185 + (1 : Int))), x195)))))) else (kO y187))
def L71_12 (F : Nat) (y184 : Vector UInt32 16) (y186 : Vector UInt32 16) (y185 : Int) (y187 : List UInt8) : Option ((Int × (List UInt8)) ⊕ ((List UInt8))) := L71_12c F y184 y186 y185 y187 (fun s => some (.inl s)) (fun z => some (.inr z))
theorem L71_12n (F : Nat) (y184 : Vector UInt32 16) (y186 : Vector UInt32 16) (y185 : Int) (y187 : List UInt8) {β : Type} (kA : (Int × (List UInt8)) → Option β) (kO : ((List UInt8)) → Option β) : L71_12c F y184 y186 y185 y187 kA kO = (L71_12 F y184 y186 y185 y187).bind (elimS kA kO) := by
  simp only [L71_12, L71_12c, Option.bind_assoc, cond_bind, Option.bind_some, elimS_l, elimS_r, elimS_bind]
@[reducible] def sA71_12 : List Sh := [(.pt 0 []), (.rw 1), (.ar 16 .u32), .i]
@[reducible] def sA171_12 : List Sh := [(.rw 0)]
@[reducible] def sT71_12 : List TSh := [.blk 115 (.ar 16 .u32), .row 5 .u8]
@[reducible] def sT171_12 : List TSh := [.row 5 .u8]
def lc71_12 (F : Nat) : Lc := mkL [8, 15, 100, 101] sA71_12 sT71_12 [15] sA171_12 sT171_12 F (fun x y (s : Int × (List UInt8)) => L71_12 F x.2.2.1 y.1 s.1 s.2) (fun x y => (x.2.2.2.1, y.2.1)) (fun x y (z : (List UInt8)) => (((), ()), (z, ())))
theorem le71_12 (F : Nat) (x : dens sA71_12) (y : tdens sT71_12) (s : Int × (List UInt8)) : sev (E71 F) 0 [] (cAt (bodyOf Tryd.f71) (0 :: 0 :: [1, 0, 1, 1, 1, 1, 1, 1, 1, 1, 1, 1])) (0 :: 0 :: [1, 0, 1, 1, 1, 1, 1, 1, 1, 1, 1, 1]) (mkSt [8, 15, 100, 101] sA71_12 sT71_12 ((), (), x.2.2.1, s.1, ()) (y.1, s.2, ())) (kLoop 0 [8, 15, 100, 101] sA71_12 sT71_12 [15] sA171_12 sT171_12 [] [] [] 8 (fun x y => some (.inl (x, y))) (fun x y => some (.inr (.inl (x, y)))) (fun x y => some (.inr (.inr (x, y))))) =
    L71_12c (β := Full sA71_12 sT71_12 sA171_12 sT171_12 [] []) F x.2.2.1 y.1 s.1 s.2 (fun s => some (.inl (((), (), x.2.2.1, s.1, ()), (y.1, s.2, ())))) (fun z => some (.inr (.inl (((), ()), (z, ()))))) := by kernel_rfl
theorem lo71_12 (F : Nat) : LcOk Tryd.prog (E71 F) 0 (lc71_12 F) (cAt (bodyOf Tryd.f71) [1, 0, 1, 1, 1, 1, 1, 1, 1, 1, 1, 1]) :=
  mkL_ok (lp := []) (id := 8) (b := cAt (bodyOf Tryd.f71) (0 :: 0 :: [1, 0, 1, 1, 1, 1, 1, 1, 1, 1, 1, 1])) cok (cts71 F) mixed trivial (by kernel_rfl) (by kernel_rfl) (fun x y s => ((), (), x.2.2.1, s.1, ())) (fun x y s => (y.1, s.2, ())) (fun x y => rfl) (fun x y => rfl) (fun x y s kA kO => L71_12c F x.2.2.1 y.1 s.1 s.2 kA kO) (fun x y s kA kO => L71_12n F x.2.2.1 y.1 s.1 s.2 kA kO) (le71_12 F)
def T71c (F : Nat) (p0 : List UInt8) (p1 : List UInt8) (p2 : UInt32) {β : Type} (k : (Int × (List UInt8)) → Option β) : Option β :=
  (Option.bind (T70 F p0 p1) fun z99 => (bif (!z99) then (k ((1 : Int), ([] : List UInt8))) else (Option.bind (iter (fun s => L71_7 F p0 s.1 s.2) F ((0 : Int), (Vector.setIfInBounds (Vector.setIfInBounds (Vector.setIfInBounds (Vector.setIfInBounds (Vector.replicate 16 (0 : UInt32)) 0 (UInt32.ofNat 1634760805)) 1 (UInt32.ofNat 857760878)) 2 (UInt32.ofNat 2036477234)) 3 (UInt32.ofNat 1797285236)))) fun z109 => (Option.bind (iter (fun s => L71_8 F p1 s.1 s.2) F ((0 : Int), (Vector.setIfInBounds z109 12 p2))) fun z117 => (Option.bind (iter (fun s => L71_9 F (#v[(#v[(0 : Int), (4 : Int), (8 : Int), (12 : Int)] : Vector Int 4), (#v[(1 : Int), (5 : Int), (9 : Int), (13 : Int)] : Vector Int 4), (#v[(2 : Int), (6 : Int), (10 : Int), (14 : Int)] : Vector Int 4), (#v[(3 : Int), (7 : Int), (11 : Int), (15 : Int)] : Vector Int 4), (#v[(0 : Int), (5 : Int), (10 : Int), (15 : Int)] : Vector Int 4), (#v[(1 : Int), (6 : Int), (11 : Int), (12 : Int)] : Vector Int 4), (#v[(2 : Int), (7 : Int), (8 : Int), (13 : Int)] : Vector Int 4), (#v[(3 : Int), (4 : Int), (9 : Int), (14 : Int)] : Vector Int 4)] : Vector (Vector Int 4) 8) s.1 s.2) F ((0 : Int), z117)) fun z182 => (Option.bind (gmake (0 : UInt8) (0 : Int) (64 : Int)) fun x183 => (Option.bind (iter (fun s => L71_12 F z182 z117 s.1 s.2) F ((0 : Int), x183)) fun z196 => (k ((0 : Int), z196)))))))))
def T71 (F : Nat) (p0 : List UInt8) (p1 : List UInt8) (p2 : UInt32) : Option (Int × (List UInt8)) := T71c F p0 p1 p2 some
theorem T71n (F : Nat) (p0 : List UInt8) (p1 : List UInt8) (p2 : UInt32) {β : Type} (k : (Int × (List UInt8)) → Option β) : T71c F p0 p1 p2 k = (T71 F p0 p1 p2).bind k := by
  simp only [T71, T71c, Option.bind_assoc, cond_bind, Option.bind_some, elimS_bind]
@[reducible] def cA71 : List Sh := [.str, .str, .u32]
@[reducible] def cB71 : List Sh := [(.rw 0), .i]
@[reducible] def cT71 : List TSh := []
@[reducible] def cU71 : List TSh := [.row 5 .u8]
def ct71 (F : Nat) : Ct := mkC 0 cA71 cT71 cB71 cU71 (fun x y => T71 F x.1 x.2.1 x.2.2.1) (fun x y (z : Int × (List UInt8)) => (((), z.1, ()), (z.2, ())))
theorem eq71 (F : Nat) (x : dens cA71) (y : tdens cT71) : sev (E71 F) 0 [([1, 0, 1, 1, 1], lc71_7 F), ([1, 0, 1, 1, 1, 1, 1], lc71_8 F), ([1, 0, 1, 1, 1, 1, 1, 1, 1, 1], lc71_9 F), ([1, 0, 1, 1, 1, 1, 1, 1, 1, 1, 1, 1], lc71_12 F)] (bodyOf Tryd.f71) [] (mkSt (rng 3) cA71 cT71 x y) (kFn (E71 F) 0 Tryd.f71.results.toList cB71 cU71 fun p q => some (p, q)) =
    T71c F x.1 x.2.1 x.2.2.1 (fun z => some (((), z.1, ()), (z.2, ()))) := by kernel_rfl
theorem ok71 (F : Nat) : Sound Tryd.prog cfg 71 (ct71 F) :=
  mkC_ok (E := E71 F) (lp := [([1, 0, 1, 1, 1], lc71_7 F), ([1, 0, 1, 1, 1, 1, 1], lc71_8 F), ([1, 0, 1, 1, 1, 1, 1, 1, 1, 1], lc71_9 F), ([1, 0, 1, 1, 1, 1, 1, 1, 1, 1, 1, 1], lc71_12 F)]) (code := bodyOf Tryd.f71) Tryd.func71 rfl Tryd.ntmps71 rfl rfl cok (cts71 F) mixed ⟨lo71_7 F, ⟨lo71_8 F, ⟨lo71_9 F, ⟨lo71_12 F, trivial⟩⟩⟩⟩ (by kernel_rfl) (fun x y k => T71c F x.1 x.2.1 x.2.2.1 k) (fun x y k => T71n F x.1 x.2.1 x.2.2.1 k) (eq71 F)
end Go.Proofs.YtjghgfohpihhfaaDoor
/- kinkeep/chacha20.Stream: its twin, and that the call does what the twin says. Printed by a program. -/
namespace Go.Proofs.YtjghgfohpihhfaaDoor
open Go.Tw
set_option linter.unusedSimpArgs false
set_option linter.unusedVariables false
def ord54 : Nat → List (Tag × Nat)
  | 10 => [(.p, 0), (.p, 1), (.p, 2), (.p, 3), (.p, 4), (.p, 5), (.p, 6), (.p, 7), (.w, 8), (.p, 9), (.p, 10)]
  | _ => []
def al54 : Nat → Option Nat
  | _ => none
def E54 (F : Nat) : Ev := ⟨cfg, 63, ctOf [(70, ct70 F), (71, ct71 F)], ord54, ctOf [], al54⟩
theorem cts54 (F : Nat) : CtsOk Tryd.prog (E54 F) := cts_of (l := [(70, ct70 F), (71, ct71 F)]) (l' := []) rfl rfl ⟨⟨ok70 F, _, Tryd.func70, rfl, rfl⟩, ⟨⟨ok71 F, _, Tryd.func71, rfl, rfl⟩, trivial⟩⟩ trivial
def L54_2c (F : Nat) (y18 : List UInt8) (y19 : List UInt8) (y20 : Int) (y21 : Int) (y22 : Int) (y23 : List UInt8) {β : Type} (kA : (Int × (List UInt8)) → Option β) (kO : ((List UInt8)) → Option β) : Option β :=
  (bif (decide (y22 < y21)) then (Option.bind (T71 F y18 y19 (UInt32.ofInt (w64 (Int.tdiv (w64 (y20 + y22)) (64 : Int))))) fun z27 => (Option.bind (gslb y23.length y22 (y23.length : Int)) fun x28 => (Option.bind (gslb z27.2.length (Int.tmod (w64 (y20 + y22)) (64 : Int)) (z27.2.length : Int)) fun x29 => (kA ((w64 (y22 + ((Nat.min ((z27.2.drop x29.1).take (x29.2 - x29.1)).length (x28.2 - x28.1)) : Int))), (splice y23 x28.1 ((z27.2.drop x29.1).take (x29.2 - x29.1)) (Nat.min ((z27.2.drop x29.1).take (x29.2 - x29.1)).length (x28.2 - x28.1)))))))) else (kO y23))
def L54_2 (F : Nat) (y18 : List UInt8) (y19 : List UInt8) (y20 : Int) (y21 : Int) (y22 : Int) (y23 : List UInt8) : Option ((Int × (List UInt8)) ⊕ ((List UInt8))) := L54_2c F y18 y19 y20 y21 y22 y23 (fun s => some (.inl s)) (fun z => some (.inr z))
theorem L54_2n (F : Nat) (y18 : List UInt8) (y19 : List UInt8) (y20 : Int) (y21 : Int) (y22 : Int) (y23 : List UInt8) {β : Type} (kA : (Int × (List UInt8)) → Option β) (kO : ((List UInt8)) → Option β) : L54_2c F y18 y19 y20 y21 y22 y23 kA kO = (L54_2 F y18 y19 y20 y21 y22 y23).bind (elimS kA kO) := by
  simp only [L54_2, L54_2c, Option.bind_assoc, cond_bind, Option.bind_some, elimS_l, elimS_r, elimS_bind]
@[reducible] def sA54_2 : List Sh := [.str, .str, .i, .i, (.rw 0), .i]
@[reducible] def sA154_2 : List Sh := [(.rw 0)]
@[reducible] def sT54_2 : List TSh := [.row 5 .u8]
@[reducible] def sT154_2 : List TSh := [.row 5 .u8]
def lc54_2 (F : Nat) : Lc := mkL [0, 1, 2, 3, 10, 11] sA54_2 sT54_2 [10] sA154_2 sT154_2 F (fun x y (s : Int × (List UInt8)) => L54_2 F x.1 x.2.1 x.2.2.1 x.2.2.2.1 s.1 s.2) (fun x y => (x.2.2.2.2.2.1, y.1)) (fun x y (z : (List UInt8)) => (((), ()), (z, ())))
theorem le54_2 (F : Nat) (x : dens sA54_2) (y : tdens sT54_2) (s : Int × (List UInt8)) : sev (E54 F) 0 [] (cAt (bodyOf Tryd.f54) (0 :: 0 :: [1, 0, 1, 1, 1, 1])) (0 :: 0 :: [1, 0, 1, 1, 1, 1]) (mkSt [0, 1, 2, 3, 10, 11] sA54_2 sT54_2 (x.1, x.2.1, x.2.2.1, x.2.2.2.1, (), s.1, ()) (s.2, ())) (kLoop 0 [0, 1, 2, 3, 10, 11] sA54_2 sT54_2 [10] sA154_2 sT154_2 [] [] [] 0 (fun x y => some (.inl (x, y))) (fun x y => some (.inr (.inl (x, y)))) (fun x y => some (.inr (.inr (x, y))))) =
    L54_2c (β := Full sA54_2 sT54_2 sA154_2 sT154_2 [] []) F x.1 x.2.1 x.2.2.1 x.2.2.2.1 s.1 s.2 (fun s => some (.inl ((x.1, x.2.1, x.2.2.1, x.2.2.2.1, (), s.1, ()), (s.2, ())))) (fun z => some (.inr (.inl (((), ()), (z, ()))))) := by kernel_rfl
theorem lo54_2 (F : Nat) : LcOk Tryd.prog (E54 F) 0 (lc54_2 F) (cAt (bodyOf Tryd.f54) [1, 0, 1, 1, 1, 1]) :=
  mkL_ok (lp := []) (id := 0) (b := cAt (bodyOf Tryd.f54) (0 :: 0 :: [1, 0, 1, 1, 1, 1])) cok (cts54 F) mixed trivial (by kernel_rfl) (by kernel_rfl) (fun x y s => (x.1, x.2.1, x.2.2.1, x.2.2.2.1, (), s.1, ())) (fun x y s => (s.2, ())) (fun x y => rfl) (fun x y => rfl) (fun x y s kA kO => L54_2c F x.1 x.2.1 x.2.2.1 x.2.2.2.1 s.1 s.2 kA kO) (fun x y s kA kO => L54_2n F x.1 x.2.1 x.2.2.1 x.2.2.2.1 s.1 s.2 kA kO) (le54_2 F)
def T54c (F : Nat) (p0 : List UInt8) (p1 : List UInt8) (p2 : Int) (p3 : Int) {β : Type} (k : (Int × (List UInt8)) → Option β) : Option β :=
  (Option.bind (T70 F p0 p1) fun z16 => (bif (!z16) then (k ((1 : Int), ([] : List UInt8))) else (bif (decide (p2 < (0 : Int))) then (k ((1 : Int), ([] : List UInt8))) else (bif (decide (p3 < (0 : Int))) then (k ((1 : Int), ([] : List UInt8))) else (bif (decide ((1048576 : Int) < p3)) then (k ((2 : Int), ([] : List UInt8))) else (bif (decide ((w64 ((274877906944 : Int) - p3)) < p2)) then (k ((2 : Int), ([] : List UInt8))) else (Option.bind (gmake (0 : UInt8) p3 p3) fun x17 => (Option.bind (iter (fun s => L54_2 F p0 p1 p2 p3 s.1 s.2) F ((0 : Int), x17)) fun z30 => (k ((0 : Int), z30))))))))))
def T54 (F : Nat) (p0 : List UInt8) (p1 : List UInt8) (p2 : Int) (p3 : Int) : Option (Int × (List UInt8)) := T54c F p0 p1 p2 p3 some
theorem T54n (F : Nat) (p0 : List UInt8) (p1 : List UInt8) (p2 : Int) (p3 : Int) {β : Type} (k : (Int × (List UInt8)) → Option β) : T54c F p0 p1 p2 p3 k = (T54 F p0 p1 p2 p3).bind k := by
  simp only [T54, T54c, Option.bind_assoc, cond_bind, Option.bind_some, elimS_bind]
@[reducible] def cA54 : List Sh := [.str, .str, .i, .i]
@[reducible] def cB54 : List Sh := [(.rw 0), .i]
@[reducible] def cT54 : List TSh := []
@[reducible] def cU54 : List TSh := [.row 5 .u8]
def ct54 (F : Nat) : Ct := mkC 0 cA54 cT54 cB54 cU54 (fun x y => T54 F x.1 x.2.1 x.2.2.1 x.2.2.2.1) (fun x y (z : Int × (List UInt8)) => (((), z.1, ()), (z.2, ())))
theorem eq54 (F : Nat) (x : dens cA54) (y : tdens cT54) : sev (E54 F) 0 [([1, 0, 1, 1, 1, 1], lc54_2 F)] (bodyOf Tryd.f54) [] (mkSt (rng 4) cA54 cT54 x y) (kFn (E54 F) 0 Tryd.f54.results.toList cB54 cU54 fun p q => some (p, q)) =
    T54c F x.1 x.2.1 x.2.2.1 x.2.2.2.1 (fun z => some (((), z.1, ()), (z.2, ()))) := by kernel_rfl
theorem ok54 (F : Nat) : Sound Tryd.prog cfg 54 (ct54 F) :=
  mkC_ok (E := E54 F) (lp := [([1, 0, 1, 1, 1, 1], lc54_2 F)]) (code := bodyOf Tryd.f54) Tryd.func54 rfl Tryd.ntmps54 rfl rfl cok (cts54 F) mixed ⟨lo54_2 F, trivial⟩ (by kernel_rfl) (fun x y k => T54c F x.1 x.2.1 x.2.2.1 x.2.2.2.1 k) (fun x y k => T54n F x.1 x.2.1 x.2.2.1 x.2.2.2.1 k) (eq54 F)
end Go.Proofs.YtjghgfohpihhfaaDoor
/- kinkeep/seal.Stream: its twin, and that the call does what the twin says. Printed by a program. -/
namespace Go.Proofs.YtjghgfohpihhfaaDoor
open Go.Tw
set_option linter.unusedSimpArgs false
set_option linter.unusedVariables false
def ord27 : Nat → List (Tag × Nat)
  | 5 => [(.p, 0), (.r, 1), (.p, 2), (.p, 3), (.p, 4), (.w, 5), (.p, 6), (.p, 7), (.p, 8), (.p, 9)]
  | _ => []
def al27 : Nat → Option Nat
  | _ => none
def E27 (F : Nat) : Ev := ⟨cfg, 30, ctOf [(50, ct50 F), (54, ct54 F)], ord27, ctOf [], al27⟩
theorem cts27 (F : Nat) : CtsOk Tryd.prog (E27 F) := cts_of (l := [(50, ct50 F), (54, ct54 F)]) (l' := []) rfl rfl ⟨⟨ok50 F, _, Tryd.func50, rfl, rfl⟩, ⟨⟨ok54 F, _, Tryd.func54, rfl, rfl⟩, trivial⟩⟩ trivial
def T27c (F : Nat) (p0 : List UInt8) (p1 : List UInt8) (p2 : List UInt8) (p3 : List UInt8) (p4 : List UInt8) (p5 : List UInt8) (p6 : Int) {β : Type} (k : (Int × (List UInt8)) → Option β) : Option β :=
  (Option.bind (T50 F p0 p1 p2 p3 p4) fun z4 => (bif (!z4) then (k ((1 : Int), ([] : List UInt8))) else (bif ((p5.length : Int) != (32 : Int)) then (k ((1 : Int), ([] : List UInt8))) else (bif (decide (p6 < (0 : Int))) then (k ((1 : Int), ([] : List UInt8))) else (bif (decide ((65536 : Int) < p6)) then (k ((2 : Int), ([] : List UInt8))) else (Option.bind (gsl p5 (0 : Int) (12 : Int)) fun x5 => (Option.bind (T54 F p1 x5 (0 : Int) p6) fun z6 => (k (z6.1, z6.2)))))))))
def T27 (F : Nat) (p0 : List UInt8) (p1 : List UInt8) (p2 : List UInt8) (p3 : List UInt8) (p4 : List UInt8) (p5 : List UInt8) (p6 : Int) : Option (Int × (List UInt8)) := T27c F p0 p1 p2 p3 p4 p5 p6 some
theorem T27n (F : Nat) (p0 : List UInt8) (p1 : List UInt8) (p2 : List UInt8) (p3 : List UInt8) (p4 : List UInt8) (p5 : List UInt8) (p6 : Int) {β : Type} (k : (Int × (List UInt8)) → Option β) : T27c F p0 p1 p2 p3 p4 p5 p6 k = (T27 F p0 p1 p2 p3 p4 p5 p6).bind k := by
  simp only [T27, T27c, Option.bind_assoc, cond_bind, Option.bind_some, elimS_bind]
@[reducible] def cA27 : List Sh := [(.pr .str (.pr .str (.pr .str (.pr .str (.pr .str .un))))), .str, .i]
@[reducible] def cB27 : List Sh := [(.rw 0), .i]
@[reducible] def cT27 : List TSh := []
@[reducible] def cU27 : List TSh := [.row 5 .u8]
def ct27 (F : Nat) : Ct := mkC 0 cA27 cT27 cB27 cU27 (fun x y => T27 F x.1.1 x.1.2.1 x.1.2.2.1 x.1.2.2.2.1 x.1.2.2.2.2.1 x.2.1 x.2.2.1) (fun x y (z : Int × (List UInt8)) => (((), z.1, ()), (z.2, ())))
theorem eq27 (F : Nat) (x : dens cA27) (y : tdens cT27) : sev (E27 F) 0 [] (bodyOf Tryd.f27) [] (mkSt (rng 3) cA27 cT27 x y) (kFn (E27 F) 0 Tryd.f27.results.toList cB27 cU27 fun p q => some (p, q)) =
    T27c F x.1.1 x.1.2.1 x.1.2.2.1 x.1.2.2.2.1 x.1.2.2.2.2.1 x.2.1 x.2.2.1 (fun z => some (((), z.1, ()), (z.2, ()))) := by kernel_rfl
theorem ok27 (F : Nat) : Sound Tryd.prog cfg 27 (ct27 F) :=
  mkC_ok (E := E27 F) (lp := []) (code := bodyOf Tryd.f27) Tryd.func27 rfl Tryd.ntmps27 rfl rfl cok (cts27 F) mixed trivial (by kernel_rfl) (fun x y k => T27c F x.1.1 x.1.2.1 x.1.2.2.1 x.1.2.2.2.1 x.1.2.2.2.2.1 x.2.1 x.2.2.1 k) (fun x y k => T27n F x.1.1 x.1.2.1 x.1.2.2.1 x.1.2.2.2.1 x.1.2.2.2.2.1 x.2.1 x.2.2.1 k) (eq27 F)
end Go.Proofs.YtjghgfohpihhfaaDoor
/- kinkeep/seal.Body: its twin, and that the call does what the twin says. Printed by a program. -/
namespace Go.Proofs.YtjghgfohpihhfaaDoor
open Go.Tw
set_option linter.unusedSimpArgs false
set_option linter.unusedVariables false
def ord18 : Nat → List (Tag × Nat)
  | _ => []
def al18 : Nat → Option Nat
  | _ => none
def E18 (F : Nat) : Ev := ⟨cfg, 42, ctOf [(14, ct14 F), (44, ct44 F)], ord18, ctOf [], al18⟩
theorem cts18 (F : Nat) : CtsOk Tryd.prog (E18 F) := cts_of (l := [(14, ct14 F), (44, ct44 F)]) (l' := []) rfl rfl ⟨⟨ok14 F, _, Tryd.func14, rfl, rfl⟩, ⟨⟨ok44 F, _, Tryd.func44, rfl, rfl⟩, trivial⟩⟩ trivial
def T18c (F : Nat) (p0 : List UInt8) (p1 : List UInt8) {β : Type} (k : (Int × (List UInt8)) → Option β) : Option β :=
  (bif ((p1.length : Int) != (16 : Int)) then (k ((1 : Int), ([] : List UInt8))) else (Option.bind (T14 F (p0.length : Int)) fun z6 => (bif (z6.2 != (0 : Int)) then (k (z6.2, ([] : List UInt8))) else (Option.bind (gmake (0 : UInt8) z6.1 z6.1) fun x7 => (Option.bind (T44 F ([] : List UInt8) (UInt64.ofInt (p0.length : Int))) fun z8 => (Option.bind (gslb (splice x7 0 z8 (Nat.min z8.length (x7.length))).length ((Nat.min z8.length (x7.length)) : Int) ((splice x7 0 z8 (Nat.min z8.length (x7.length))).length : Int)) fun x9 => (Option.bind (gslb (splice (splice x7 0 z8 (Nat.min z8.length (x7.length))) x9.1 p0 (Nat.min p0.length (x9.2 - x9.1))).length (w64 (z6.1 - (16 : Int))) ((splice (splice x7 0 z8 (Nat.min z8.length (x7.length))) x9.1 p0 (Nat.min p0.length (x9.2 - x9.1))).length : Int)) fun x10 => (k ((0 : Int), (splice (splice (splice x7 0 z8 (Nat.min z8.length (x7.length))) x9.1 p0 (Nat.min p0.length (x9.2 - x9.1))) x10.1 p1 (Nat.min p1.length (x10.2 - x10.1))))))))))))
def T18 (F : Nat) (p0 : List UInt8) (p1 : List UInt8) : Option (Int × (List UInt8)) := T18c F p0 p1 some
theorem T18n (F : Nat) (p0 : List UInt8) (p1 : List UInt8) {β : Type} (k : (Int × (List UInt8)) → Option β) : T18c F p0 p1 k = (T18 F p0 p1).bind k := by
  simp only [T18, T18c, Option.bind_assoc, cond_bind, Option.bind_some, elimS_bind]
@[reducible] def cA18 : List Sh := [(.ro .u8), (.ro .u8)]
@[reducible] def cB18 : List Sh := [(.rw 0), .i]
@[reducible] def cT18 : List TSh := []
@[reducible] def cU18 : List TSh := [.row 5 .u8]
def ct18 (F : Nat) : Ct := mkC 0 cA18 cT18 cB18 cU18 (fun x y => T18 F x.1 x.2.1) (fun x y (z : Int × (List UInt8)) => (((), z.1, ()), (z.2, ())))
theorem eq18 (F : Nat) (x : dens cA18) (y : tdens cT18) : sev (E18 F) 0 [] (bodyOf Tryd.f18) [] (mkSt (rng 2) cA18 cT18 x y) (kFn (E18 F) 0 Tryd.f18.results.toList cB18 cU18 fun p q => some (p, q)) =
    T18c F x.1 x.2.1 (fun z => some (((), z.1, ()), (z.2, ()))) := by kernel_rfl
theorem ok18 (F : Nat) : Sound Tryd.prog cfg 18 (ct18 F) :=
  mkC_ok (E := E18 F) (lp := []) (code := bodyOf Tryd.f18) Tryd.func18 rfl Tryd.ntmps18 rfl rfl cok (cts18 F) mixed trivial (by kernel_rfl) (fun x y k => T18c F x.1 x.2.1 k) (fun x y k => T18n F x.1 x.2.1 k) (eq18 F)
end Go.Proofs.YtjghgfohpihhfaaDoor
/- kinkeep/chacha20.Xor: its twin, and that the call does what the twin says. Printed by a program. -/
namespace Go.Proofs.YtjghgfohpihhfaaDoor
open Go.Tw
set_option linter.unusedSimpArgs false
set_option linter.unusedVariables false
def ord57 : Nat → List (Tag × Nat)
  | 7 => [(.p, 0), (.p, 1), (.p, 2), (.p, 3), (.p, 4), (.r, 5), (.p, 6), (.p, 7), (.p, 8), (.r, 9), (.p, 10), (.p, 11), (.w, 12)]
  | _ => []
def al57 : Nat → Option Nat
  | _ => none
def E57 (F : Nat) : Ev := ⟨cfg, 35, ctOf [], ord57, ctOf [], al57⟩
theorem cts57 (F : Nat) : CtsOk Tryd.prog (E57 F) := cts_of (l := []) (l' := []) rfl rfl trivial trivial
def L57_2c (F : Nat) (y15 : List UInt8) (y16 : List UInt8) (y17 : Int) (y18 : Int) (y19 : List UInt8) {β : Type} (kA : (Int × (List UInt8)) → Option β) (kO : ((List UInt8)) → Option β) : Option β :=
  (bif (decide (y18 < y17)) then (Option.bind (ix y15 y18) fun x23 => (Option.bind (ix y16 y18) fun x24 => (Option.bind (inb y19.length y18) fun x25 => (kA ((w64 (y18 + (1 : Int))), (List.set y19 x25 (x23 ^^^ x24))))))) else (kO y19))
def L57_2 (F : Nat) (y15 : List UInt8) (y16 : List UInt8) (y17 : Int) (y18 : Int) (y19 : List UInt8) : Option ((Int × (List UInt8)) ⊕ ((List UInt8))) := L57_2c F y15 y16 y17 y18 y19 (fun s => some (.inl s)) (fun z => some (.inr z))
theorem L57_2n (F : Nat) (y15 : List UInt8) (y16 : List UInt8) (y17 : Int) (y18 : Int) (y19 : List UInt8) {β : Type} (kA : (Int × (List UInt8)) → Option β) (kO : ((List UInt8)) → Option β) : L57_2c F y15 y16 y17 y18 y19 kA kO = (L57_2 F y15 y16 y17 y18 y19).bind (elimS kA kO) := by
  simp only [L57_2, L57_2c, Option.bind_assoc, cond_bind, Option.bind_some, elimS_l, elimS_r, elimS_bind]
@[reducible] def sA57_2 : List Sh := [(.ro .u8), (.ro .u8), (.rw 0), .i, .i]
@[reducible] def sA157_2 : List Sh := [(.rw 0)]
@[reducible] def sT57_2 : List TSh := [.row 5 .u8]
@[reducible] def sT157_2 : List TSh := [.row 5 .u8]
def lc57_2 (F : Nat) : Lc := mkL [0, 1, 6, 17, 18] sA57_2 sT57_2 [6] sA157_2 sT157_2 F (fun x y (s : Int × (List UInt8)) => L57_2 F x.1 x.2.1 x.2.2.2.1 s.1 s.2) (fun x y => (x.2.2.2.2.1, y.1)) (fun x y (z : (List UInt8)) => (((), ()), (z, ())))
theorem le57_2 (F : Nat) (x : dens sA57_2) (y : tdens sT57_2) (s : Int × (List UInt8)) : sev (E57 F) 0 [] (cAt (bodyOf Tryd.f57) (0 :: 0 :: [1, 0, 1, 1, 1])) (0 :: 0 :: [1, 0, 1, 1, 1]) (mkSt [0, 1, 6, 17, 18] sA57_2 sT57_2 (x.1, x.2.1, (), x.2.2.2.1, s.1, ()) (s.2, ())) (kLoop 0 [0, 1, 6, 17, 18] sA57_2 sT57_2 [6] sA157_2 sT157_2 [] [] [] 0 (fun x y => some (.inl (x, y))) (fun x y => some (.inr (.inl (x, y)))) (fun x y => some (.inr (.inr (x, y))))) =
    L57_2c (β := Full sA57_2 sT57_2 sA157_2 sT157_2 [] []) F x.1 x.2.1 x.2.2.2.1 s.1 s.2 (fun s => some (.inl ((x.1, x.2.1, (), x.2.2.2.1, s.1, ()), (s.2, ())))) (fun z => some (.inr (.inl (((), ()), (z, ()))))) := by kernel_rfl
theorem lo57_2 (F : Nat) : LcOk Tryd.prog (E57 F) 0 (lc57_2 F) (cAt (bodyOf Tryd.f57) [1, 0, 1, 1, 1]) :=
  mkL_ok (lp := []) (id := 0) (b := cAt (bodyOf Tryd.f57) (0 :: 0 :: [1, 0, 1, 1, 1])) cok (cts57 F) mixed trivial (by kernel_rfl) (by kernel_rfl) (fun x y s => (x.1, x.2.1, (), x.2.2.2.1, s.1, ())) (fun x y s => (s.2, ())) (fun x y => rfl) (fun x y => rfl) (fun x y s kA kO => L57_2c F x.1 x.2.1 x.2.2.2.1 s.1 s.2 kA kO) (fun x y s kA kO => L57_2n F x.1 x.2.1 x.2.2.2.1 s.1 s.2 kA kO) (le57_2 F)
def T57c (F : Nat) (p0 : List UInt8) (p1 : List UInt8) {β : Type} (k : (Int × (List UInt8)) → Option β) : Option β :=
  (bif ((p0.length : Int) != (p1.length : Int)) then (k ((1 : Int), ([] : List UInt8))) else (Option.bind (gmake (0 : UInt8) (p0.length : Int) (p0.length : Int)) fun x14 => (Option.bind (iter (fun s => L57_2 F p0 p1 (p0.length : Int) s.1 s.2) F ((0 : Int), x14)) fun z26 => (k ((0 : Int), z26)))))
def T57 (F : Nat) (p0 : List UInt8) (p1 : List UInt8) : Option (Int × (List UInt8)) := T57c F p0 p1 some
theorem T57n (F : Nat) (p0 : List UInt8) (p1 : List UInt8) {β : Type} (k : (Int × (List UInt8)) → Option β) : T57c F p0 p1 k = (T57 F p0 p1).bind k := by
  simp only [T57, T57c, Option.bind_assoc, cond_bind, Option.bind_some, elimS_bind]
@[reducible] def cA57 : List Sh := [(.ro .u8), (.ro .u8)]
@[reducible] def cB57 : List Sh := [(.rw 0), .i]
@[reducible] def cT57 : List TSh := []
@[reducible] def cU57 : List TSh := [.row 5 .u8]
def ct57 (F : Nat) : Ct := mkC 0 cA57 cT57 cB57 cU57 (fun x y => T57 F x.1 x.2.1) (fun x y (z : Int × (List UInt8)) => (((), z.1, ()), (z.2, ())))
theorem eq57 (F : Nat) (x : dens cA57) (y : tdens cT57) : sev (E57 F) 0 [([1, 0, 1, 1, 1], lc57_2 F)] (bodyOf Tryd.f57) [] (mkSt (rng 2) cA57 cT57 x y) (kFn (E57 F) 0 Tryd.f57.results.toList cB57 cU57 fun p q => some (p, q)) =
    T57c F x.1 x.2.1 (fun z => some (((), z.1, ()), (z.2, ()))) := by kernel_rfl
theorem ok57 (F : Nat) : Sound Tryd.prog cfg 57 (ct57 F) :=
  mkC_ok (E := E57 F) (lp := [([1, 0, 1, 1, 1], lc57_2 F)]) (code := bodyOf Tryd.f57) Tryd.func57 rfl Tryd.ntmps57 rfl rfl cok (cts57 F) mixed ⟨lo57_2 F, trivial⟩ (by kernel_rfl) (fun x y k => T57c F x.1 x.2.1 k) (fun x y k => T57n F x.1 x.2.1 k) (eq57 F)
end Go.Proofs.YtjghgfohpihhfaaDoor
/- kinkeep/seal.SealWith: its twin, and that the call does what the twin says. Printed by a program. -/
namespace Go.Proofs.YtjghgfohpihhfaaDoor
open Go.Tw
set_option linter.unusedSimpArgs false
set_option linter.unusedVariables false
def ord34 : Nat → List (Tag × Nat)
  | _ => []
def al34 : Nat → Option Nat
  | _ => none
def E34 (F : Nat) : Ev := ⟨cfg, 24, ctOf [(18, ct18 F), (57, ct57 F)], ord34, ctOf [], al34⟩
theorem cts34 (F : Nat) : CtsOk Tryd.prog (E34 F) := cts_of (l := [(18, ct18 F), (57, ct57 F)]) (l' := []) rfl rfl ⟨⟨ok18 F, _, Tryd.func18, rfl, rfl⟩, ⟨⟨ok57 F, _, Tryd.func57, rfl, rfl⟩, trivial⟩⟩ trivial
def T34c (F : Nat) (p0 : List UInt8) (p1 : List UInt8) (p2 : List UInt8) {β : Type} (k : (Int × (List UInt8)) → Option β) : Option β :=
  (Option.bind (T18 F p2 p1) fun z3 => (bif (z3.1 != (0 : Int)) then (k (z3.1, ([] : List UInt8))) else (Option.bind (T57 F z3.2 p0) fun z4 => (k (z4.1, z4.2)))))
def T34 (F : Nat) (p0 : List UInt8) (p1 : List UInt8) (p2 : List UInt8) : Option (Int × (List UInt8)) := T34c F p0 p1 p2 some
theorem T34n (F : Nat) (p0 : List UInt8) (p1 : List UInt8) (p2 : List UInt8) {β : Type} (k : (Int × (List UInt8)) → Option β) : T34c F p0 p1 p2 k = (T34 F p0 p1 p2).bind k := by
  simp only [T34, T34c, Option.bind_assoc, cond_bind, Option.bind_some, elimS_bind]
@[reducible] def cA34 : List Sh := [(.ro .u8), (.ro .u8), (.ro .u8)]
@[reducible] def cB34 : List Sh := [(.rw 0), .i]
@[reducible] def cT34 : List TSh := []
@[reducible] def cU34 : List TSh := [.row 5 .u8]
def ct34 (F : Nat) : Ct := mkC 0 cA34 cT34 cB34 cU34 (fun x y => T34 F x.1 x.2.1 x.2.2.1) (fun x y (z : Int × (List UInt8)) => (((), z.1, ()), (z.2, ())))
theorem eq34 (F : Nat) (x : dens cA34) (y : tdens cT34) : sev (E34 F) 0 [] (bodyOf Tryd.f34) [] (mkSt (rng 3) cA34 cT34 x y) (kFn (E34 F) 0 Tryd.f34.results.toList cB34 cU34 fun p q => some (p, q)) =
    T34c F x.1 x.2.1 x.2.2.1 (fun z => some (((), z.1, ()), (z.2, ()))) := by kernel_rfl
theorem ok34 (F : Nat) : Sound Tryd.prog cfg 34 (ct34 F) :=
  mkC_ok (E := E34 F) (lp := []) (code := bodyOf Tryd.f34) Tryd.func34 rfl Tryd.ntmps34 rfl rfl cok (cts34 F) mixed trivial (by kernel_rfl) (fun x y k => T34c F x.1 x.2.1 x.2.2.1 k) (fun x y k => T34n F x.1 x.2.1 x.2.2.1 k) (eq34 F)
end Go.Proofs.YtjghgfohpihhfaaDoor
/- kinkeep/seal.Seal: its twin, and that the call does what the twin says. Printed by a program. -/
namespace Go.Proofs.YtjghgfohpihhfaaDoor
open Go.Tw
set_option linter.unusedSimpArgs false
set_option linter.unusedVariables false
def ord29 : Nat → List (Tag × Nat)
  | _ => []
def al29 : Nat → Option Nat
  | _ => none
def E29 (F : Nat) : Ev := ⟨cfg, 62, ctOf [(23, ct23 F), (25, ct25 F), (14, ct14 F), (27, ct27 F), (34, ct34 F)], ord29, ctOf [], al29⟩
theorem cts29 (F : Nat) : CtsOk Tryd.prog (E29 F) := cts_of (l := [(23, ct23 F), (25, ct25 F), (14, ct14 F), (27, ct27 F), (34, ct34 F)]) (l' := []) rfl rfl ⟨⟨ok23 F, _, Tryd.func23, rfl, rfl⟩, ⟨⟨ok25 F, _, Tryd.func25, rfl, rfl⟩, ⟨⟨ok14 F, _, Tryd.func14, rfl, rfl⟩, ⟨⟨ok27 F, _, Tryd.func27, rfl, rfl⟩, ⟨⟨ok34 F, _, Tryd.func34, rfl, rfl⟩, trivial⟩⟩⟩⟩⟩ trivial
def T29c (F : Nat) (p0 : List UInt8) (p1 : List UInt8) (p2 : List UInt8) (p3 : List UInt8) (p4 : List UInt8) (p5 : Int) (p6 : List UInt8) {β : Type} (k : ((List UInt8) × Int × Int × Int × (List UInt8)) → Option β) : Option β :=
  (Option.bind (T23 F p0 p1 p2 p3 p4 p5 p6) fun z6 => (bif (z6.2 != (0 : Int)) then (k (([] : List UInt8), (0 : Int), (0 : Int), z6.2, ([] : List UInt8))) else (Option.bind (T25 F p0 p1 p2 p3 p4 p6) fun z7 => (Option.bind (T14 F (p6.length : Int)) fun z8 => (Option.bind (T27 F p0 p1 p2 p3 p4 z6.1 z8.1) fun z9 => (Option.bind (T34 F z9.2 z7.2 p6) fun z10 => (k (z6.1, p5, (p6.length : Int), (0 : Int), z10.2))))))))
def T29 (F : Nat) (p0 : List UInt8) (p1 : List UInt8) (p2 : List UInt8) (p3 : List UInt8) (p4 : List UInt8) (p5 : Int) (p6 : List UInt8) : Option ((List UInt8) × Int × Int × Int × (List UInt8)) := T29c F p0 p1 p2 p3 p4 p5 p6 some
theorem T29n (F : Nat) (p0 : List UInt8) (p1 : List UInt8) (p2 : List UInt8) (p3 : List UInt8) (p4 : List UInt8) (p5 : Int) (p6 : List UInt8) {β : Type} (k : ((List UInt8) × Int × Int × Int × (List UInt8)) → Option β) : T29c F p0 p1 p2 p3 p4 p5 p6 k = (T29 F p0 p1 p2 p3 p4 p5 p6).bind k := by
  simp only [T29, T29c, Option.bind_assoc, cond_bind, Option.bind_some, elimS_bind]
@[reducible] def cA29 : List Sh := [(.pr .str (.pr .str (.pr .str (.pr .str (.pr .str .un))))), .i, (.ro .u8)]
@[reducible] def cB29 : List Sh := [(.pr .str (.pr .i (.pr .i .un))), (.rw 0), .i]
@[reducible] def cT29 : List TSh := []
@[reducible] def cU29 : List TSh := [.row 5 .u8]
def ct29 (F : Nat) : Ct := mkC 0 cA29 cT29 cB29 cU29 (fun x y => T29 F x.1.1 x.1.2.1 x.1.2.2.1 x.1.2.2.2.1 x.1.2.2.2.2.1 x.2.1 x.2.2.1) (fun x y (z : (List UInt8) × Int × Int × Int × (List UInt8)) => (((z.1, z.2.1, z.2.2.1, ()), (), z.2.2.2.1, ()), (z.2.2.2.2, ())))
theorem eq29 (F : Nat) (x : dens cA29) (y : tdens cT29) : sev (E29 F) 0 [] (bodyOf Tryd.f29) [] (mkSt (rng 3) cA29 cT29 x y) (kFn (E29 F) 0 Tryd.f29.results.toList cB29 cU29 fun p q => some (p, q)) =
    T29c F x.1.1 x.1.2.1 x.1.2.2.1 x.1.2.2.2.1 x.1.2.2.2.2.1 x.2.1 x.2.2.1 (fun z => some (((z.1, z.2.1, z.2.2.1, ()), (), z.2.2.2.1, ()), (z.2.2.2.2, ()))) := by kernel_rfl
theorem ok29 (F : Nat) : Sound Tryd.prog cfg 29 (ct29 F) :=
  mkC_ok (E := E29 F) (lp := []) (code := bodyOf Tryd.f29) Tryd.func29 rfl Tryd.ntmps29 rfl rfl cok (cts29 F) mixed trivial (by kernel_rfl) (fun x y k => T29c F x.1.1 x.1.2.1 x.1.2.2.1 x.1.2.2.2.1 x.1.2.2.2.2.1 x.2.1 x.2.2.1 k) (fun x y k => T29n F x.1.1 x.1.2.1 x.1.2.2.1 x.1.2.2.2.1 x.1.2.2.2.2.1 x.2.1 x.2.2.1 k) (eq29 F)
end Go.Proofs.YtjghgfohpihhfaaDoor
/- kinkeep/wire.NewReader: its twin, and that the call does what the twin says. Printed by a program. -/
namespace Go.Proofs.YtjghgfohpihhfaaDoor
open Go.Tw
set_option linter.unusedSimpArgs false
set_option linter.unusedVariables false
def ord46 : Nat → List (Tag × Nat)
  | _ => []
def al46 : Nat → Option Nat
  | _ => none
def E46 (F : Nat) : Ev := ⟨cfg, 8, ctOf [], ord46, ctOf [], al46⟩
theorem cts46 (F : Nat) : CtsOk Tryd.prog (E46 F) := cts_of (l := []) (l' := []) rfl rfl trivial trivial
def T46c (F : Nat) (p0 : List UInt8) {β : Type} (k : (Int × Int × Int × (List UInt8)) → Option β) : Option β :=
  (Option.bind (gapp ([] : List UInt8) p0) fun x2 => (k ((0 : Int), (0 : Int), (0 : Int), x2)))
def T46 (F : Nat) (p0 : List UInt8) : Option (Int × Int × Int × (List UInt8)) := T46c F p0 some
theorem T46n (F : Nat) (p0 : List UInt8) {β : Type} (k : (Int × Int × Int × (List UInt8)) → Option β) : T46c F p0 k = (T46 F p0).bind k := by
  simp only [T46, T46c, Option.bind_assoc, cond_bind, Option.bind_some, elimS_bind]
@[reducible] def cA46 : List Sh := [(.ro .u8)]
@[reducible] def cB46 : List Sh := [(.pt 0 [])]
@[reducible] def cT46 : List TSh := []
@[reducible] def cU46 : List TSh := [.blk 82 (.pr (.rw 1) (.pr .i (.pr .i (.pr .i .un)))), .row 5 .u8]
def ct46 (F : Nat) : Ct := mkC 0 cA46 cT46 cB46 cU46 (fun x y => T46 F x.1) (fun x y (z : Int × Int × Int × (List UInt8)) => (((), ()), (((), z.1, z.2.1, z.2.2.1, ()), z.2.2.2, ())))
theorem eq46 (F : Nat) (x : dens cA46) (y : tdens cT46) : sev (E46 F) 0 [] (bodyOf Tryd.f46) [] (mkSt (rng 1) cA46 cT46 x y) (kFn (E46 F) 0 Tryd.f46.results.toList cB46 cU46 fun p q => some (p, q)) =
    T46c F x.1 (fun z => some (((), ()), (((), z.1, z.2.1, z.2.2.1, ()), z.2.2.2, ()))) := by kernel_rfl
theorem ok46 (F : Nat) : Sound Tryd.prog cfg 46 (ct46 F) :=
  mkC_ok (E := E46 F) (lp := []) (code := bodyOf Tryd.f46) Tryd.func46 rfl Tryd.ntmps46 rfl rfl cok (cts46 F) mixed trivial (by kernel_rfl) (fun x y k => T46c F x.1 k) (fun x y k => T46n F x.1 k) (eq46 F)
end Go.Proofs.YtjghgfohpihhfaaDoor
/- (*kinkeep/wire.Reader).number: its twin, and that the call does what the twin says. Printed by a program. -/
namespace Go.Proofs.YtjghgfohpihhfaaDoor
open Go.Tw
set_option linter.unusedSimpArgs false
set_option linter.unusedVariables false
def ord90 : Nat → List (Tag × Nat)
  | 4 => [(.p, 0), (.p, 1), (.p, 2), (.r, 3), (.p, 4), (.p, 5), (.p, 6), (.r, 7), (.p, 8), (.p, 9)]
  | 6 => [(.p, 0), (.p, 1), (.p, 2), (.r, 3), (.p, 4), (.p, 5), (.p, 6), (.r, 7), (.p, 8), (.r, 9), (.p, 10)]
  | _ => []
def al90 : Nat → Option Nat
  | _ => none
def E90 (F : Nat) : Ev := ⟨cfg, 62, ctOf [], ord90, ctOf [], al90⟩
theorem cts90 (F : Nat) : CtsOk Tryd.prog (E90 F) := cts_of (l := []) (l' := []) rfl rfl trivial trivial
def L90_2c (F : Nat) (y19 : List UInt8) (y14 : UInt64) (y15 : Int) (y16 : Int) {β : Type} (kA : (UInt64 × Int × Int) → Option β) (kO : Int → Option β) (kR : (UInt64 × Int × Int) → Option β) : Option β :=
  (bif (decide (y15 < (10 : Int))) then (bif (y16 == (y19.length : Int)) then (kR ((UInt64.ofNat 0), (3 : Int), y16)) else (Option.bind (inb y19.length y16) fun x23 => (Option.bind (y19[x23]?) fun x24 => (Option.bind (gnn (w64 ((7 : Int) * y15))) fun x25 => (bif (decide ((UInt8.ofNat 128) ≤ x24)) then (kA ((y14 ||| (shl64 ((x24 &&& (UInt8.ofNat 127)).toUInt64) x25)), (w64 (y15 + (1 : Int))), (w64 (y16 + (1 : Int))))) else (bif (decide ((0 : Int) < y15)) then (bif (x24 == (UInt8.ofNat 0)) then (kR ((UInt64.ofNat 0), (3 : Int), (w64 (y16 + (1 : Int))))) else (bif (y15 == (9 : Int)) then (bif (decide ((UInt8.ofNat 1) < x24)) then (kR ((UInt64.ofNat 0), (3 : Int), (w64 (y16 + (1 : Int))))) else (kR ((y14 ||| (shl64 ((x24 &&& (UInt8.ofNat 127)).toUInt64) x25)), (0 : Int), (w64 (y16 + (1 : Int)))))) else (kR ((y14 ||| (shl64 ((x24 &&& (UInt8.ofNat 127)).toUInt64) x25)), (0 : Int), (w64 (y16 + (1 : Int))))))) else (bif (y15 == (9 : Int)) then (bif (decide ((UInt8.ofNat 1) < x24)) then (kR ((UInt64.ofNat 0), (3 : Int), (w64 (y16 + (1 : Int))))) else (kR ((y14 ||| (shl64 ((x24 &&& (UInt8.ofNat 127)).toUInt64) x25)), (0 : Int), (w64 (y16 + (1 : Int)))))) else (kR ((y14 ||| (shl64 ((x24 &&& (UInt8.ofNat 127)).toUInt64) x25)), (0 : Int), (w64 (y16 + (1 : Int)))))))))))) else (kO y16))
def L90_2 (F : Nat) (y19 : List UInt8) (y14 : UInt64) (y15 : Int) (y16 : Int) : Option ((UInt64 × Int × Int) ⊕ ((Int) ⊕ (UInt64 × Int × Int))) := L90_2c F y19 y14 y15 y16 (fun s => some (.inl s)) (fun z => some (.inr (.inl z))) (fun z => some (.inr (.inr z)))
theorem L90_2n (F : Nat) (y19 : List UInt8) (y14 : UInt64) (y15 : Int) (y16 : Int) {β : Type} (kA : (UInt64 × Int × Int) → Option β) (kO : Int → Option β) (kR : (UInt64 × Int × Int) → Option β) : L90_2c F y19 y14 y15 y16 kA kO kR = (L90_2 F y19 y14 y15 y16).bind (elimS kA (elimS kO kR)) := by
  simp only [L90_2, L90_2c, Option.bind_assoc, cond_bind, Option.bind_some, elimS_l, elimS_r, elimS_bind]
@[reducible] def sA90_2 : List Sh := [(.pt 0 []), .u64, .i]
@[reducible] def sA190_2 : List Sh := []
@[reducible] def sA290_2 : List Sh := [.u64, .i]
@[reducible] def sT90_2 : List TSh := [.blk 82 (.pr (.rw 1) (.pr .i (.pr .i (.pr .i .un)))), .row 5 .u8]
@[reducible] def sT190_2 : List TSh := [.blk 82 (.pr (.rw 1) (.pr .i (.pr .i (.pr .i .un)))), .row 5 .u8]
@[reducible] def sT290_2 : List TSh := [.blk 82 (.pr (.rw 1) (.pr .i (.pr .i (.pr .i .un)))), .row 5 .u8]
def lc90_2 (F : Nat) : Lc := mkR [0, 2, 6] sA90_2 sT90_2 [] sA190_2 sT190_2 [2, 3] sA290_2 sT290_2 F (fun x y (s : UInt64 × Int × Int) => L90_2 F y.2.1 s.1 s.2.1 s.2.2) (fun x y => (x.2.1, x.2.2.1, y.1.2.1)) (fun x y (z : Int) => ((), (((), z, y.1.2.2.1, y.1.2.2.2.1, ()), y.2.1, ()))) (fun x y (z : UInt64 × Int × Int) => ((z.1, z.2.1, ()), (((), z.2.2, y.1.2.2.1, y.1.2.2.2.1, ()), y.2.1, ())))
theorem le90_2 (F : Nat) (x : dens sA90_2) (y : tdens sT90_2) (s : UInt64 × Int × Int) : sev (E90 F) 2 [] (cAt (bodyOf Tryd.f90) (0 :: 0 :: [1, 0, 1])) (0 :: 0 :: [1, 0, 1]) (mkSt [0, 2, 6] sA90_2 sT90_2 ((), s.1, s.2.1, ()) (((), s.2.2, y.1.2.2.1, y.1.2.2.2.1, ()), y.2.1, ())) (kLoop 2 [0, 2, 6] sA90_2 sT90_2 [] sA190_2 sT190_2 [2, 3] sA290_2 sT290_2 0 (fun x y => some (.inl (x, y))) (fun x y => some (.inr (.inl (x, y)))) (fun x y => some (.inr (.inr (x, y))))) =
    L90_2c (β := Full sA90_2 sT90_2 sA190_2 sT190_2 sA290_2 sT290_2) F y.2.1 s.1 s.2.1 s.2.2 (fun s => some (.inl (((), s.1, s.2.1, ()), (((), s.2.2, y.1.2.2.1, y.1.2.2.2.1, ()), y.2.1, ())))) (fun z => some (.inr (.inl ((), (((), z, y.1.2.2.1, y.1.2.2.2.1, ()), y.2.1, ()))))) (fun z => some (.inr (.inr ((z.1, z.2.1, ()), (((), z.2.2, y.1.2.2.1, y.1.2.2.2.1, ()), y.2.1, ()))))) := by kernel_rfl
theorem lo90_2 (F : Nat) : LcOk Tryd.prog (E90 F) 2 (lc90_2 F) (cAt (bodyOf Tryd.f90) [1, 0, 1]) :=
  mkR_ok (lp := []) (id := 0) (b := cAt (bodyOf Tryd.f90) (0 :: 0 :: [1, 0, 1])) cok (cts90 F) mixed trivial (by kernel_rfl) (by kernel_rfl) (fun x y s => ((), s.1, s.2.1, ())) (fun x y s => (((), s.2.2, y.1.2.2.1, y.1.2.2.2.1, ()), y.2.1, ())) (fun x y => rfl) (fun x y => rfl) (fun x y s kA kO kR => L90_2c F y.2.1 s.1 s.2.1 s.2.2 kA kO kR) (fun x y s kA kO kR => L90_2n F y.2.1 s.1 s.2.1 s.2.2 kA kO kR) (le90_2 F)
def T90c (F : Nat) (p0 : Int) (p3 : List UInt8) {β : Type} (k : (UInt64 × Int × Int) → Option β) : Option β :=
  (Option.bind (iter (fun s => L90_2 F p3 s.1 s.2.1 s.2.2) F ((UInt64.ofNat 0), (0 : Int), p0)) fun z26 => elimS (fun z26 => (k ((UInt64.ofNat 0), (3 : Int), z26))) (fun z26 => (k (z26.1, z26.2.1, z26.2.2))) z26)
def T90 (F : Nat) (p0 : Int) (p3 : List UInt8) : Option (UInt64 × Int × Int) := T90c F p0 p3 some
theorem T90n (F : Nat) (p0 : Int) (p3 : List UInt8) {β : Type} (k : (UInt64 × Int × Int) → Option β) : T90c F p0 p3 k = (T90 F p0 p3).bind k := by
  simp only [T90, T90c, Option.bind_assoc, cond_bind, Option.bind_some, elimS_bind]
@[reducible] def cA90 : List Sh := [(.pt 0 [])]
@[reducible] def cB90 : List Sh := [.u64, .i]
@[reducible] def cT90 : List TSh := [.blk 82 (.pr (.rw 1) (.pr .i (.pr .i (.pr .i .un)))), .row 5 .u8]
@[reducible] def cU90 : List TSh := [.blk 82 (.pr (.rw 1) (.pr .i (.pr .i (.pr .i .un)))), .row 5 .u8]
def ct90 (F : Nat) : Ct := mkC 2 cA90 cT90 cB90 cU90 (fun x y => T90 F y.1.2.1 y.2.1) (fun x y (z : UInt64 × Int × Int) => ((z.1, z.2.1, ()), (((), z.2.2, y.1.2.2.1, y.1.2.2.2.1, ()), y.2.1, ())))
theorem eq90 (F : Nat) (x : dens cA90) (y : tdens cT90) : sev (E90 F) 2 [([1, 0, 1], lc90_2 F)] (bodyOf Tryd.f90) [] (mkSt (rng 1) cA90 cT90 x y) (kFn (E90 F) 2 Tryd.f90.results.toList cB90 cU90 fun p q => some (p, q)) =
    T90c F y.1.2.1 y.2.1 (fun z => some ((z.1, z.2.1, ()), (((), z.2.2, y.1.2.2.1, y.1.2.2.2.1, ()), y.2.1, ()))) := by kernel_rfl
theorem ok90 (F : Nat) : Sound Tryd.prog cfg 90 (ct90 F) :=
  mkC_ok (E := E90 F) (lp := [([1, 0, 1], lc90_2 F)]) (code := bodyOf Tryd.f90) Tryd.func90 rfl Tryd.ntmps90 rfl rfl cok (cts90 F) mixed ⟨lo90_2 F, trivial⟩ (by kernel_rfl) (fun x y k => T90c F y.1.2.1 y.2.1 k) (fun x y k => T90n F y.1.2.1 y.2.1 k) (eq90 F)
end Go.Proofs.YtjghgfohpihhfaaDoor
/- (*kinkeep/wire.Reader).limited: its twin, and that the call does what the twin says. Printed by a program. -/
namespace Go.Proofs.YtjghgfohpihhfaaDoor
open Go.Tw
set_option linter.unusedSimpArgs false
set_option linter.unusedVariables false
def ord75 : Nat → List (Tag × Nat)
  | _ => []
def al75 : Nat → Option Nat
  | _ => none
def E75 (F : Nat) : Ev := ⟨cfg, 23, ctOf [(90, ct90 F)], ord75, ctOf [], al75⟩
theorem cts75 (F : Nat) : CtsOk Tryd.prog (E75 F) := cts_of (l := [(90, ct90 F)]) (l' := []) rfl rfl ⟨⟨ok90 F, _, Tryd.func90, rfl, rfl⟩, trivial⟩ trivial
def T75c (F : Nat) (p0 : Int) (p1 : Int) (p4 : List UInt8) {β : Type} (k : (Int × Int × Int) → Option β) : Option β :=
  (Option.bind (T90 F p1 p4) fun z2 => (bif (z2.2.1 != (0 : Int)) then (k ((0 : Int), z2.2.1, z2.2.2)) else (bif (decide ((UInt64.ofInt (if p0 < (0 : Int) then (0 : Int) else p0)) < z2.1)) then (k ((0 : Int), (2 : Int), z2.2.2)) else (k ((w64 (z2.1.toNat : Int)), (0 : Int), z2.2.2)))))
def T75 (F : Nat) (p0 : Int) (p1 : Int) (p4 : List UInt8) : Option (Int × Int × Int) := T75c F p0 p1 p4 some
theorem T75n (F : Nat) (p0 : Int) (p1 : Int) (p4 : List UInt8) {β : Type} (k : (Int × Int × Int) → Option β) : T75c F p0 p1 p4 k = (T75 F p0 p1 p4).bind k := by
  simp only [T75, T75c, Option.bind_assoc, cond_bind, Option.bind_some, elimS_bind]
@[reducible] def cA75 : List Sh := [(.pt 0 []), .i]
@[reducible] def cB75 : List Sh := [.i, .i]
@[reducible] def cT75 : List TSh := [.blk 82 (.pr (.rw 1) (.pr .i (.pr .i (.pr .i .un)))), .row 5 .u8]
@[reducible] def cU75 : List TSh := [.blk 82 (.pr (.rw 1) (.pr .i (.pr .i (.pr .i .un)))), .row 5 .u8]
def ct75 (F : Nat) : Ct := mkC 2 cA75 cT75 cB75 cU75 (fun x y => T75 F x.2.1 y.1.2.1 y.2.1) (fun x y (z : Int × Int × Int) => ((z.1, z.2.1, ()), (((), z.2.2, y.1.2.2.1, y.1.2.2.2.1, ()), y.2.1, ())))
theorem eq75 (F : Nat) (x : dens cA75) (y : tdens cT75) : sev (E75 F) 2 [] (bodyOf Tryd.f75) [] (mkSt (rng 2) cA75 cT75 x y) (kFn (E75 F) 2 Tryd.f75.results.toList cB75 cU75 fun p q => some (p, q)) =
    T75c F x.2.1 y.1.2.1 y.2.1 (fun z => some ((z.1, z.2.1, ()), (((), z.2.2, y.1.2.2.1, y.1.2.2.2.1, ()), y.2.1, ()))) := by kernel_rfl
theorem ok75 (F : Nat) : Sound Tryd.prog cfg 75 (ct75 F) :=
  mkC_ok (E := E75 F) (lp := []) (code := bodyOf Tryd.f75) Tryd.func75 rfl Tryd.ntmps75 rfl rfl cok (cts75 F) mixed trivial (by kernel_rfl) (fun x y k => T75c F x.2.1 y.1.2.1 y.2.1 k) (fun x y k => T75n F x.2.1 y.1.2.1 y.2.1 k) (eq75 F)
end Go.Proofs.YtjghgfohpihhfaaDoor
/- (*kinkeep/wire.Reader).take: its twin, and that the call does what the twin says. Printed by a program. -/
namespace Go.Proofs.YtjghgfohpihhfaaDoor
open Go.Tw
set_option linter.unusedSimpArgs false
set_option linter.unusedVariables false
def ord76 : Nat → List (Tag × Nat)
  | 1 => [(.p, 0), (.p, 1), (.p, 2), (.p, 3), (.r, 4), (.p, 5), (.p, 6), (.p, 7), (.p, 8), (.r, 9), (.p, 10), (.p, 11)]
  | 3 => [(.p, 0), (.p, 1), (.p, 2), (.r, 3), (.p, 4), (.p, 5), (.p, 6), (.r, 7), (.p, 8), (.p, 9), (.p, 10), (.r, 11), (.p, 12), (.p, 13), (.p, 14), (.p, 15)]
  | _ => []
def al76 : Nat → Option Nat
  | _ => none
def E76 (F : Nat) : Ev := ⟨cfg, 43, ctOf [], ord76, ctOf [], al76⟩
theorem cts76 (F : Nat) : CtsOk Tryd.prog (E76 F) := cts_of (l := []) (l' := []) rfl rfl trivial trivial
def T76c (F : Nat) (p0 : Int) (p1 : Int) (p4 : List UInt8) {β : Type} (k : ((Nat × Nat) × Int × Int) → Option β) : Option β :=
  (bif (decide ((w64 ((p4.length : Int) - p1)) < p0)) then (k ((0, 0), (3 : Int), p1)) else (Option.bind (gslb p4.length p1 (w64 (p1 + p0))) fun x2 => (k ((x2.1, x2.2), (0 : Int), (w64 (p1 + p0))))))
def T76 (F : Nat) (p0 : Int) (p1 : Int) (p4 : List UInt8) : Option ((Nat × Nat) × Int × Int) := T76c F p0 p1 p4 some
theorem T76n (F : Nat) (p0 : Int) (p1 : Int) (p4 : List UInt8) {β : Type} (k : ((Nat × Nat) × Int × Int) → Option β) : T76c F p0 p1 p4 k = (T76 F p0 p1 p4).bind k := by
  simp only [T76, T76c, Option.bind_assoc, cond_bind, Option.bind_some, elimS_bind]
@[reducible] def cA76 : List Sh := [(.pt 0 []), .i]
@[reducible] def cB76 : List Sh := [(.rp 1), .i]
@[reducible] def cT76 : List TSh := [.blk 82 (.pr (.rw 1) (.pr .i (.pr .i (.pr .i .un)))), .row 5 .u8]
@[reducible] def cU76 : List TSh := [.blk 82 (.pr (.rw 1) (.pr .i (.pr .i (.pr .i .un)))), .row 5 .u8]
def ct76 (F : Nat) : Ct := mkC 2 cA76 cT76 cB76 cU76 (fun x y => T76 F x.2.1 y.1.2.1 y.2.1) (fun x y (z : (Nat × Nat) × Int × Int) => ((z.1, z.2.1, ()), (((), z.2.2, y.1.2.2.1, y.1.2.2.2.1, ()), y.2.1, ())))
theorem eq76 (F : Nat) (x : dens cA76) (y : tdens cT76) : sev (E76 F) 2 [] (bodyOf Tryd.f76) [] (mkSt (rng 2) cA76 cT76 x y) (kFn (E76 F) 2 Tryd.f76.results.toList cB76 cU76 fun p q => some (p, q)) =
    T76c F x.2.1 y.1.2.1 y.2.1 (fun z => some ((z.1, z.2.1, ()), (((), z.2.2, y.1.2.2.1, y.1.2.2.2.1, ()), y.2.1, ()))) := by kernel_rfl
theorem ok76 (F : Nat) : Sound Tryd.prog cfg 76 (ct76 F) :=
  mkC_ok (E := E76 F) (lp := []) (code := bodyOf Tryd.f76) Tryd.func76 rfl Tryd.ntmps76 rfl rfl cok (cts76 F) mixed trivial (by kernel_rfl) (fun x y k => T76c F x.2.1 y.1.2.1 y.2.1 k) (fun x y k => T76n F x.2.1 y.1.2.1 y.2.1 k) (eq76 F)
end Go.Proofs.YtjghgfohpihhfaaDoor
/- (*kinkeep/wire.Reader).block: its twin, and that the call does what the twin says. Printed by a program. -/
namespace Go.Proofs.YtjghgfohpihhfaaDoor
open Go.Tw
set_option linter.unusedSimpArgs false
set_option linter.unusedVariables false
def ord63 : Nat → List (Tag × Nat)
  | _ => []
def al63 : Nat → Option Nat
  | _ => none
def E63 (F : Nat) : Ev := ⟨cfg, 22, ctOf [(75, ct75 F), (76, ct76 F)], ord63, ctOf [], al63⟩
theorem cts63 (F : Nat) : CtsOk Tryd.prog (E63 F) := cts_of (l := [(75, ct75 F), (76, ct76 F)]) (l' := []) rfl rfl ⟨⟨ok75 F, _, Tryd.func75, rfl, rfl⟩, ⟨⟨ok76 F, _, Tryd.func76, rfl, rfl⟩, trivial⟩⟩ trivial
def T63c (F : Nat) (p0 : Int) (p1 : Int) (p4 : List UInt8) {β : Type} (k : ((Nat × Nat) × Int × Int) → Option β) : Option β :=
  (Option.bind (T75 F p0 p1 p4) fun z3 => (bif (z3.2.1 != (0 : Int)) then (k ((0, 0), z3.2.1, z3.2.2)) else (Option.bind (T76 F z3.1 z3.2.2 p4) fun z4 => (k ((z4.1.1, z4.1.2), z4.2.1, z4.2.2)))))
def T63 (F : Nat) (p0 : Int) (p1 : Int) (p4 : List UInt8) : Option ((Nat × Nat) × Int × Int) := T63c F p0 p1 p4 some
theorem T63n (F : Nat) (p0 : Int) (p1 : Int) (p4 : List UInt8) {β : Type} (k : ((Nat × Nat) × Int × Int) → Option β) : T63c F p0 p1 p4 k = (T63 F p0 p1 p4).bind k := by
  simp only [T63, T63c, Option.bind_assoc, cond_bind, Option.bind_some, elimS_bind]
@[reducible] def cA63 : List Sh := [(.pt 0 []), .i]
@[reducible] def cB63 : List Sh := [(.rp 1), .i]
@[reducible] def cT63 : List TSh := [.blk 82 (.pr (.rw 1) (.pr .i (.pr .i (.pr .i .un)))), .row 5 .u8]
@[reducible] def cU63 : List TSh := [.blk 82 (.pr (.rw 1) (.pr .i (.pr .i (.pr .i .un)))), .row 5 .u8]
def ct63 (F : Nat) : Ct := mkC 2 cA63 cT63 cB63 cU63 (fun x y => T63 F x.2.1 y.1.2.1 y.2.1) (fun x y (z : (Nat × Nat) × Int × Int) => ((z.1, z.2.1, ()), (((), z.2.2, y.1.2.2.1, y.1.2.2.2.1, ()), y.2.1, ())))
theorem eq63 (F : Nat) (x : dens cA63) (y : tdens cT63) : sev (E63 F) 2 [] (bodyOf Tryd.f63) [] (mkSt (rng 2) cA63 cT63 x y) (kFn (E63 F) 2 Tryd.f63.results.toList cB63 cU63 fun p q => some (p, q)) =
    T63c F x.2.1 y.1.2.1 y.2.1 (fun z => some ((z.1, z.2.1, ()), (((), z.2.2, y.1.2.2.1, y.1.2.2.2.1, ()), y.2.1, ()))) := by kernel_rfl
theorem ok63 (F : Nat) : Sound Tryd.prog cfg 63 (ct63 F) :=
  mkC_ok (E := E63 F) (lp := []) (code := bodyOf Tryd.f63) Tryd.func63 rfl Tryd.ntmps63 rfl rfl cok (cts63 F) mixed trivial (by kernel_rfl) (fun x y k => T63c F x.2.1 y.1.2.1 y.2.1 k) (fun x y k => T63n F x.2.1 y.1.2.1 y.2.1 k) (eq63 F)
end Go.Proofs.YtjghgfohpihhfaaDoor
