/- What is known of the types. -/
import Derived.Test.YtooplgiihmdfgaaDoorProg
import Derived.Test.YtooplgiihmdfgaaDoorAK3
namespace Go.Proofs.YtooplgiihmdfgaaDoor
open Go.Tw
set_option maxRecDepth 100000
set_option linter.unusedSimpArgs false
set_option linter.unusedVariables false
def cD:Nat->Option TypeDesc
 | 3=>some (TypeDesc.int IntKind.i64)
 | 4=>some TypeDesc.bool
 | 5=>some (TypeDesc.int IntKind.u8)
 | 9=>some TypeDesc.string
 | 22=>some (TypeDesc.slice 41)
 | 23=>some (TypeDesc.slice 3)
 | 25=>some (TypeDesc.slice 22)
 | 37=>some (TypeDesc.map 3 4)
 | 41=>some (TypeDesc.struct #[(Field.mk "Name" 9 0 false "" "" 0),(Field.mk "Gen" 3 1 false "" "" 16),(Field.mk "Size" 3 2 false "" "" 24)])
 | 43=>some (TypeDesc.slice 55)
 | 45=>some (TypeDesc.struct #[(Field.mk "Vault" 3 0 false "" "" 0),(Field.mk "Data" 3 1 false "" "" 8),(Field.mk "Total" 3 2 false "" "" 16),(Field.mk "Refs" 22 3 false "" "" 24),(Field.mk "Blocks" 43 4 false "" "" 48)])
 | 46=>some (TypeDesc.int IntKind.u32)
 | 47=>some (TypeDesc.int IntKind.u16)
 | 49=>some (TypeDesc.struct #[(Field.mk "ID" 9 0 false "" "" 0),(Field.mk "Vault" 3 1 false "" "" 16),(Field.mk "Block" 3 2 false "" "" 24),(Field.mk "Data" 3 3 false "" "" 32),(Field.mk "Total" 3 4 false "" "" 40),(Field.mk "Refs" 22 5 false "" "" 48)])
 | 50=>some (TypeDesc.slice 58)
 | 54=>some (TypeDesc.struct #[(Field.mk "Stripe" 9 0 false "" "" 0),(Field.mk "Index" 3 1 false "" "" 16)])
 | 55=>some (TypeDesc.slice 5)
 | 56=>some (TypeDesc.slice 9)
 | 58=>some (TypeDesc.struct #[(Field.mk "ID" 54 0 false "" "" 0),(Field.mk "Data" 55 2 false "" "" 24),(Field.mk "Sums" 56 3 false "" "" 48)])
 | 79=>some (TypeDesc.map 3 3)
 | 85=>some (TypeDesc.int IntKind.u64)
 | 101=>some (TypeDesc.map 9 4)
 | 103=>some (TypeDesc.int IntKind.u64)
 | 131=>some (TypeDesc.array 8 46)
 | 132=>some (TypeDesc.array 64 5)
 | 134=>some (TypeDesc.struct #[(Field.mk "words" 131 0 false "" "kinkeep/sha256" 0),(Field.mk "buffer" 132 8 false "" "kinkeep/sha256" 32),(Field.mk "length" 3 72 false "" "kinkeep/sha256" 96)])
 | 139=>some (TypeDesc.array 8 5)
 | 140=>some (TypeDesc.array 16 139)
 | 142=>some (TypeDesc.struct #[(Field.mk "data" 3 0 false "" "kinkeep/reedsolomon" 0),(Field.mk "rows" 140 1 false "" "kinkeep/reedsolomon" 8)])
 | 146=>some (TypeDesc.array 64 46)
 | 148=>some (TypeDesc.array 16 4)
 | 152=>some (TypeDesc.pointer 156)
 | 156=>some (TypeDesc.struct #[(Field.mk "rows" 43 0 false "" "kinkeep/matrix" 0),(Field.mk "pivots" 23 1 false "" "kinkeep/matrix" 24),(Field.mk "product" 5 2 false "" "kinkeep/matrix" 48)])
 | 163=>some (TypeDesc.array 16 5)
 | _=>none
def cZ:Nat->Option Nat
 | 3=>some 1
 | 4=>some 1
 | 5=>some 1
 | 9=>some 1
 | 22=>some 1
 | 23=>some 1
 | 25=>some 1
 | 37=>some 1
 | 41=>some 3
 | 43=>some 1
 | 45=>some 5
 | 46=>some 1
 | 47=>some 1
 | 49=>some 6
 | 50=>some 1
 | 54=>some 2
 | 55=>some 1
 | 56=>some 1
 | 58=>some 4
 | 79=>some 1
 | 85=>some 1
 | 101=>some 1
 | 103=>some 1
 | 131=>some 8
 | 132=>some 64
 | 134=>some 73
 | 139=>some 8
 | 140=>some 128
 | 142=>some 129
 | 146=>some 64
 | 148=>some 16
 | 152=>some 1
 | 156=>some 3
 | 163=>some 16
 | _=>none
def cI:Nat->Option ZD
 | 3=>some (.t .i)
 | 4=>some (.t .bo)
 | 5=>some (.t .u8)
 | 9=>some (.t .s)
 | 22=>some (.t (.sl (.pr .s (.pr .i (.pr .i .un)))))
 | 23=>some (.v (.slice none 0 0))
 | 25=>some (.t (.sl (.sl (.pr .s (.pr .i (.pr .i .un))))))
 | 41=>some (.t (.pr .s (.pr .i (.pr .i .un))))
 | 43=>some (.v (.slice none 0 0))
 | 45=>some (.t (.pr .i (.pr .i (.pr .i (.pr (.sl (.pr .s (.pr .i (.pr .i .un)))) (.pr (.sl (.sl .u8)) .un))))))
 | 46=>some (.t .u32)
 | 49=>some (.t (.pr .s (.pr .i (.pr .i (.pr .i (.pr .i (.pr (.sl (.pr .s (.pr .i (.pr .i .un)))) .un)))))))
 | 50=>some (.t (.sl (.pr (.pr .s (.pr .i .un)) (.pr (.sl .u8) (.pr (.sl .s) .un)))))
 | 54=>some (.t (.pr .s (.pr .i .un)))
 | 55=>some (.t (.sl .u8))
 | 56=>some (.t (.sl .s))
 | 58=>some (.t (.pr (.pr .s (.pr .i .un)) (.pr (.sl .u8) (.pr (.sl .s) .un))))
 | 85=>some (.t .u64)
 | 103=>some (.t .u64)
 | 131=>some (.t (.ar 8 .u32))
 | 132=>some (.t (.ar 64 .u8))
 | 134=>some (.t (.pr (.ar 8 .u32) (.pr (.ar 64 .u8) (.pr .i .un))))
 | 139=>some (.t (.ar 8 .u8))
 | 140=>some (.t (.ar 16 (.ar 8 .u8)))
 | 142=>some (.t (.pr .i (.pr (.ar 16 (.ar 8 .u8)) .un)))
 | 146=>some (.t (.ar 64 .u32))
 | 148=>some (.t (.ar 16 .bo))
 | 152=>some (.v (.pointer none))
 | 156=>some (.pr (.v (.slice none 0 0)) (.pr (.v (.slice none 0 0)) (.pr (.t .u8) .un)))
 | 163=>some (.t (.ar 16 .u8))
 | _=>none
def cE:Nat->Option Ty
 | 3=>some .i
 | 5=>some .u8
 | 9=>some .s
 | 22=>some (.sl (.pr .s (.pr .i (.pr .i .un))))
 | 41=>some (.pr .s (.pr .i (.pr .i .un)))
 | 55=>some (.sl .u8)
 | 58=>some (.pr (.pr .s (.pr .i .un)) (.pr (.sl .u8) (.pr (.sl .s) .un)))
 | _=>none
def gv0:Vector UInt32 8:=#v[1779033703,3144134277,1013904242,2773480762,1359893119,2600822924,528734635,1541459225]
def gv1:Vector UInt32 64:=#v[1116352408,1899447441,3049323471,3921009573,961987163,1508970993,2453635748,2870763221,3624381080,310598401,607225278,1426881987,1925078388,2162078206,2614888103,3248222580,3835390401,4022224774,264347078,604807628,770255983,1249150122,1555081692,1996064986,2554220882,2821834349,2952996808,3210313671,3336571891,3584528711,113926993,338241895,666307205,773529912,1294757372,1396182291,1695183700,1986661051,2177026350,2456956037,2730485921,2820302411,3259730800,3345764771,3516065817,3600352804,4094571909,275423344,430227734,506948616,659060556,883997877,958139571,1322822218,1537002063,1747873779,1955562222,2024104815,2227730452,2361852424,2428436474,2756734187,3204031479,3329325298]
def cG:Nat->Option ((t:Ty)×t.den)
 | 0=>some ⟨(.ar 8 .u32),(gv0:Ty.den (.ar 8 .u32))⟩
 | 1=>some ⟨(.ar 64 .u32),(gv1:Ty.den (.ar 64 .u32))⟩
 | _=>none
def cV:Nat->Bool
 | _=>false
def cW:Nat->Bool
 | _=>false
def cM:Nat->Option (Ty×Ty)
 | 37=>some (.i,.bo)
 | 79=>some (.i,.i)
 | 101=>some (.s,.bo)
 | _=>none
def cQ:Nat->Bool
 | 41=>true
 | 54=>true
 | _=>false
def cfg:Cfg:=⟨cD,cZ,fun t=>match cI t with | some d=>some d.iv | none=>none,cE,cG,cQ,cV,cW,cM,fun _=>none⟩
theorem tok:TOk Tryd.prog cD cZ:=⟨fun t d h=>by
 unfold cD at h
 split at h<;>first | (cases h;done) | skip
 ·cases h;exact Tryd.underlying3
 ·cases h;exact Tryd.underlying4
 ·cases h;exact Tryd.underlying5
 ·cases h;exact Tryd.underlying9
 ·cases h;exact Tryd.underlying22
 ·cases h;exact Tryd.underlying23
 ·cases h;exact Tryd.underlying25
 ·cases h;exact Tryd.underlying37
 ·cases h;exact Tryd.underlying41
 ·cases h;exact Tryd.underlying43
 ·cases h;exact Tryd.underlying45
 ·cases h;exact Tryd.underlying46
 ·cases h;exact Tryd.underlying47
 ·cases h;exact Tryd.underlying49
 ·cases h;exact Tryd.underlying50
 ·cases h;exact Tryd.underlying54
 ·cases h;exact Tryd.underlying55
 ·cases h;exact Tryd.underlying56
 ·cases h;exact Tryd.underlying58
 ·cases h;exact Tryd.underlying79
 ·cases h;exact Tryd.underlying85
 ·cases h;exact Tryd.underlying101
 ·cases h;exact Tryd.underlying103
 ·cases h;exact Tryd.underlying131
 ·cases h;exact Tryd.underlying132
 ·cases h;exact Tryd.underlying134
 ·cases h;exact Tryd.underlying139
 ·cases h;exact Tryd.underlying140
 ·cases h;exact Tryd.underlying142
 ·cases h;exact Tryd.underlying146
 ·cases h;exact Tryd.underlying148
 ·cases h;exact Tryd.underlying152
 ·cases h;exact Tryd.underlying156
 ·cases h;exact Tryd.underlying163
 , fun t n h=>by
 unfold cZ at h
 split at h<;>first | (cases h;done) | skip
 ·cases h;exact fun w=>by kernel_rfl
 ·cases h;exact fun w=>by kernel_rfl
 ·cases h;exact fun w=>by kernel_rfl
 ·cases h;exact fun w=>by kernel_rfl
 ·cases h;exact fun w=>by kernel_rfl
 ·cases h;exact fun w=>by kernel_rfl
 ·cases h;exact fun w=>by kernel_rfl
 ·cases h;exact fun w=>by kernel_rfl
 ·cases h;exact fun w=>by kernel_rfl
 ·cases h;exact fun w=>by kernel_rfl
 ·cases h;exact fun w=>by kernel_rfl
 ·cases h;exact fun w=>by kernel_rfl
 ·cases h;exact fun w=>by kernel_rfl
 ·cases h;exact fun w=>by kernel_rfl
 ·cases h;exact fun w=>by kernel_rfl
 ·cases h;exact fun w=>by kernel_rfl
 ·cases h;exact fun w=>by kernel_rfl
 ·cases h;exact fun w=>by kernel_rfl
 ·cases h;exact fun w=>by kernel_rfl
 ·cases h;exact fun w=>by kernel_rfl
 ·cases h;exact fun w=>by kernel_rfl
 ·cases h;exact fun w=>by kernel_rfl
 ·cases h;exact fun w=>by kernel_rfl
 ·cases h;exact fun w=>by kernel_rfl
 ·cases h;exact fun w=>by kernel_rfl
 ·cases h;exact fun w=>by kernel_rfl
 ·cases h;exact fun w=>by kernel_rfl
 ·cases h;exact fun w=>by kernel_rfl
 ·cases h;exact fun w=>by kernel_rfl
 ·cases h;exact fun w=>by kernel_rfl
 ·cases h;exact fun w=>by kernel_rfl
 ·cases h;exact fun w=>by kernel_rfl
 ·cases h;exact fun w=>by kernel_rfl
 ·cases h;exact fun w=>by kernel_rfl
⟩
theorem zr3:∃ z cs,(∀ w,(zeroValue 3).run Tryd.prog w=.ok z w)∧z.cells=cs.toArray∧∀ O ρ,R O ρ false ((.t .i):ZD).iv cs:=zero_of (z:=(.int .i64 0)) (fun w=>by kernel_rfl) (by kernel_rfl) rfl
theorem zr4:∃ z cs,(∀ w,(zeroValue 4).run Tryd.prog w=.ok z w)∧z.cells=cs.toArray∧∀ O ρ,R O ρ false ((.t .bo):ZD).iv cs:=zero_of (z:=(.bool false)) (fun w=>by kernel_rfl) (by kernel_rfl) rfl
theorem zr5:∃ z cs,(∀ w,(zeroValue 5).run Tryd.prog w=.ok z w)∧z.cells=cs.toArray∧∀ O ρ,R O ρ false ((.t .u8):ZD).iv cs:=zero_of (z:=(.int .u8 0)) (fun w=>by kernel_rfl) (by kernel_rfl) rfl
theorem zr9:∃ z cs,(∀ w,(zeroValue 9).run Tryd.prog w=.ok z w)∧z.cells=cs.toArray∧∀ O ρ,R O ρ false ((.t .s):ZD).iv cs:=zero_of (z:=(.string ⟨#[]⟩)) (fun w=>by kernel_rfl) (by kernel_rfl) rfl
theorem zr22:∃ z cs,(∀ w,(zeroValue 22).run Tryd.prog w=.ok z w)∧z.cells=cs.toArray∧∀ O ρ,R O ρ false ((.t (.sl (.pr .s (.pr .i (.pr .i .un))))):ZD).iv cs:=zero_of (z:=(.slice none 0 0)) (fun w=>by kernel_rfl) (by kernel_rfl) rfl
theorem zr23:∃ z cs,(∀ w,(zeroValue 23).run Tryd.prog w=.ok z w)∧z.cells=cs.toArray∧∀ O ρ,R O ρ false ((.v (.slice none 0 0)):ZD).iv cs:=zero_of (z:=(.slice none 0 0)) (fun w=>by kernel_rfl) (by kernel_rfl) rfl
theorem zr25:∃ z cs,(∀ w,(zeroValue 25).run Tryd.prog w=.ok z w)∧z.cells=cs.toArray∧∀ O ρ,R O ρ false ((.t (.sl (.sl (.pr .s (.pr .i (.pr .i .un)))))):ZD).iv cs:=zero_of (z:=(.slice none 0 0)) (fun w=>by kernel_rfl) (by kernel_rfl) rfl
theorem zr41:∃ z cs,(∀ w,(zeroValue 41).run Tryd.prog w=.ok z w)∧z.cells=cs.toArray∧∀ O ρ,R O ρ false ((.t (.pr .s (.pr .i (.pr .i .un)))):ZD).iv cs:=zero_of (z:=(.agg #[(.string ⟨#[]⟩),(.int .i64 0),(.int .i64 0)])) (fun w=>by kernel_rfl) (by kernel_rfl) rfl
theorem zr43:∃ z cs,(∀ w,(zeroValue 43).run Tryd.prog w=.ok z w)∧z.cells=cs.toArray∧∀ O ρ,R O ρ false ((.v (.slice none 0 0)):ZD).iv cs:=zero_of (z:=(.slice none 0 0)) (fun w=>by kernel_rfl) (by kernel_rfl) rfl
theorem zr45:∃ z cs,(∀ w,(zeroValue 45).run Tryd.prog w=.ok z w)∧z.cells=cs.toArray∧∀ O ρ,R O ρ false ((.t (.pr .i (.pr .i (.pr .i (.pr (.sl (.pr .s (.pr .i (.pr .i .un)))) (.pr (.sl (.sl .u8)) .un)))))):ZD).iv cs:=zero_of (z:=(.agg #[(.int .i64 0),(.int .i64 0),(.int .i64 0),(.slice none 0 0),(.slice none 0 0)])) (fun w=>by kernel_rfl) (by kernel_rfl) rfl
theorem zr46:∃ z cs,(∀ w,(zeroValue 46).run Tryd.prog w=.ok z w)∧z.cells=cs.toArray∧∀ O ρ,R O ρ false ((.t .u32):ZD).iv cs:=zero_of (z:=(.int .u32 0)) (fun w=>by kernel_rfl) (by kernel_rfl) rfl
theorem zr49:∃ z cs,(∀ w,(zeroValue 49).run Tryd.prog w=.ok z w)∧z.cells=cs.toArray∧∀ O ρ,R O ρ false ((.t (.pr .s (.pr .i (.pr .i (.pr .i (.pr .i (.pr (.sl (.pr .s (.pr .i (.pr .i .un)))) .un))))))):ZD).iv cs:=zero_of (z:=(.agg #[(.string ⟨#[]⟩),(.int .i64 0),(.int .i64 0),(.int .i64 0),(.int .i64 0),(.slice none 0 0)])) (fun w=>by kernel_rfl) (by kernel_rfl) rfl
theorem zr50:∃ z cs,(∀ w,(zeroValue 50).run Tryd.prog w=.ok z w)∧z.cells=cs.toArray∧∀ O ρ,R O ρ false ((.t (.sl (.pr (.pr .s (.pr .i .un)) (.pr (.sl .u8) (.pr (.sl .s) .un))))):ZD).iv cs:=zero_of (z:=(.slice none 0 0)) (fun w=>by kernel_rfl) (by kernel_rfl) rfl
theorem zr54:∃ z cs,(∀ w,(zeroValue 54).run Tryd.prog w=.ok z w)∧z.cells=cs.toArray∧∀ O ρ,R O ρ false ((.t (.pr .s (.pr .i .un))):ZD).iv cs:=zero_of (z:=(.agg #[(.string ⟨#[]⟩),(.int .i64 0)])) (fun w=>by kernel_rfl) (by kernel_rfl) rfl
theorem zr55:∃ z cs,(∀ w,(zeroValue 55).run Tryd.prog w=.ok z w)∧z.cells=cs.toArray∧∀ O ρ,R O ρ false ((.t (.sl .u8)):ZD).iv cs:=zero_of (z:=(.slice none 0 0)) (fun w=>by kernel_rfl) (by kernel_rfl) rfl
theorem zr56:∃ z cs,(∀ w,(zeroValue 56).run Tryd.prog w=.ok z w)∧z.cells=cs.toArray∧∀ O ρ,R O ρ false ((.t (.sl .s)):ZD).iv cs:=zero_of (z:=(.slice none 0 0)) (fun w=>by kernel_rfl) (by kernel_rfl) rfl
theorem zr58:∃ z cs,(∀ w,(zeroValue 58).run Tryd.prog w=.ok z w)∧z.cells=cs.toArray∧∀ O ρ,R O ρ false ((.t (.pr (.pr .s (.pr .i .un)) (.pr (.sl .u8) (.pr (.sl .s) .un)))):ZD).iv cs:=zero_of (z:=(.agg #[(.string ⟨#[]⟩),(.int .i64 0),(.slice none 0 0),(.slice none 0 0)])) (fun w=>by kernel_rfl) (by kernel_rfl) rfl
theorem zr85:∃ z cs,(∀ w,(zeroValue 85).run Tryd.prog w=.ok z w)∧z.cells=cs.toArray∧∀ O ρ,R O ρ false ((.t .u64):ZD).iv cs:=zero_of (z:=(.int .u64 0)) (fun w=>by kernel_rfl) (by kernel_rfl) rfl
theorem zr103:∃ z cs,(∀ w,(zeroValue 103).run Tryd.prog w=.ok z w)∧z.cells=cs.toArray∧∀ O ρ,R O ρ false ((.t .u64):ZD).iv cs:=zero_of (z:=(.int .u64 0)) (fun w=>by kernel_rfl) (by kernel_rfl) rfl
theorem zr131:∃ z cs,(∀ w,(zeroValue 131).run Tryd.prog w=.ok z w)∧z.cells=cs.toArray∧∀ O ρ,R O ρ false ((.t (.ar 8 .u32)):ZD).iv cs:=zero_of (z:=(.agg #[(.int .u32 0),(.int .u32 0),(.int .u32 0),(.int .u32 0),(.int .u32 0),(.int .u32 0),(.int .u32 0),(.int .u32 0)])) (fun w=>by kernel_rfl) (by kernel_rfl) rfl
theorem zr132:∃ z cs,(∀ w,(zeroValue 132).run Tryd.prog w=.ok z w)∧z.cells=cs.toArray∧∀ O ρ,R O ρ false ((.t (.ar 64 .u8)):ZD).iv cs:=zero_of (z:=(.agg (List.replicate 64 (.int .u8 0)).toArray)) (fun w=>by kernel_rfl) (by kernel_rfl) rfl
theorem zr134:∃ z cs,(∀ w,(zeroValue 134).run Tryd.prog w=.ok z w)∧z.cells=cs.toArray∧∀ O ρ,R O ρ false ((.t (.pr (.ar 8 .u32) (.pr (.ar 64 .u8) (.pr .i .un)))):ZD).iv cs:=zero_of (z:=(.agg #[(.int .u32 0),(.int .u32 0),(.int .u32 0),(.int .u32 0),(.int .u32 0),(.int .u32 0),(.int .u32 0),(.int .u32 0),(.int .u8 0),(.int .u8 0),(.int .u8 0),(.int .u8 0),(.int .u8 0),(.int .u8 0),(.int .u8 0),(.int .u8 0),(.int .u8 0),(.int .u8 0),(.int .u8 0),(.int .u8 0),(.int .u8 0),(.int .u8 0),(.int .u8 0),(.int .u8 0),(.int .u8 0),(.int .u8 0),(.int .u8 0),(.int .u8 0),(.int .u8 0),(.int .u8 0),(.int .u8 0),(.int .u8 0),(.int .u8 0),(.int .u8 0),(.int .u8 0),(.int .u8 0),(.int .u8 0),(.int .u8 0),(.int .u8 0),(.int .u8 0),(.int .u8 0),(.int .u8 0),(.int .u8 0),(.int .u8 0),(.int .u8 0),(.int .u8 0),(.int .u8 0),(.int .u8 0),(.int .u8 0),(.int .u8 0),(.int .u8 0),(.int .u8 0),(.int .u8 0),(.int .u8 0),(.int .u8 0),(.int .u8 0),(.int .u8 0),(.int .u8 0),(.int .u8 0),(.int .u8 0),(.int .u8 0),(.int .u8 0),(.int .u8 0),(.int .u8 0),(.int .u8 0),(.int .u8 0),(.int .u8 0),(.int .u8 0),(.int .u8 0),(.int .u8 0),(.int .u8 0),(.int .u8 0),(.int .i64 0)])) (fun w=>by kernel_rfl) (by kernel_rfl) rfl
theorem zr139:∃ z cs,(∀ w,(zeroValue 139).run Tryd.prog w=.ok z w)∧z.cells=cs.toArray∧∀ O ρ,R O ρ false ((.t (.ar 8 .u8)):ZD).iv cs:=zero_of (z:=(.agg #[(.int .u8 0),(.int .u8 0),(.int .u8 0),(.int .u8 0),(.int .u8 0),(.int .u8 0),(.int .u8 0),(.int .u8 0)])) (fun w=>by kernel_rfl) (by kernel_rfl) rfl
theorem zr140:∃ z cs,(∀ w,(zeroValue 140).run Tryd.prog w=.ok z w)∧z.cells=cs.toArray∧∀ O ρ,R O ρ false ((.t (.ar 16 (.ar 8 .u8))):ZD).iv cs:=zero_of (z:=(.agg (List.replicate 128 (.int .u8 0)).toArray)) (fun w=>by kernel_rfl) (by kernel_rfl) rfl
theorem zr142:∃ z cs,(∀ w,(zeroValue 142).run Tryd.prog w=.ok z w)∧z.cells=cs.toArray∧∀ O ρ,R O ρ false ((.t (.pr .i (.pr (.ar 16 (.ar 8 .u8)) .un))):ZD).iv cs:=zero_of (z:=(.agg #[(.int .i64 0),(.int .u8 0),(.int .u8 0),(.int .u8 0),(.int .u8 0),(.int .u8 0),(.int .u8 0),(.int .u8 0),(.int .u8 0),(.int .u8 0),(.int .u8 0),(.int .u8 0),(.int .u8 0),(.int .u8 0),(.int .u8 0),(.int .u8 0),(.int .u8 0),(.int .u8 0),(.int .u8 0),(.int .u8 0),(.int .u8 0),(.int .u8 0),(.int .u8 0),(.int .u8 0),(.int .u8 0),(.int .u8 0),(.int .u8 0),(.int .u8 0),(.int .u8 0),(.int .u8 0),(.int .u8 0),(.int .u8 0),(.int .u8 0),(.int .u8 0),(.int .u8 0),(.int .u8 0),(.int .u8 0),(.int .u8 0),(.int .u8 0),(.int .u8 0),(.int .u8 0),(.int .u8 0),(.int .u8 0),(.int .u8 0),(.int .u8 0),(.int .u8 0),(.int .u8 0),(.int .u8 0),(.int .u8 0),(.int .u8 0),(.int .u8 0),(.int .u8 0),(.int .u8 0),(.int .u8 0),(.int .u8 0),(.int .u8 0),(.int .u8 0),(.int .u8 0),(.int .u8 0),(.int .u8 0),(.int .u8 0),(.int .u8 0),(.int .u8 0),(.int .u8 0),(.int .u8 0),(.int .u8 0),(.int .u8 0),(.int .u8 0),(.int .u8 0),(.int .u8 0),(.int .u8 0),(.int .u8 0),(.int .u8 0),(.int .u8 0),(.int .u8 0),(.int .u8 0),(.int .u8 0),(.int .u8 0),(.int .u8 0),(.int .u8 0),(.int .u8 0),(.int .u8 0),(.int .u8 0),(.int .u8 0),(.int .u8 0),(.int .u8 0),(.int .u8 0),(.int .u8 0),(.int .u8 0),(.int .u8 0),(.int .u8 0),(.int .u8 0),(.int .u8 0),(.int .u8 0),(.int .u8 0),(.int .u8 0),(.int .u8 0),(.int .u8 0),(.int .u8 0),(.int .u8 0),(.int .u8 0),(.int .u8 0),(.int .u8 0),(.int .u8 0),(.int .u8 0),(.int .u8 0),(.int .u8 0),(.int .u8 0),(.int .u8 0),(.int .u8 0),(.int .u8 0),(.int .u8 0),(.int .u8 0),(.int .u8 0),(.int .u8 0),(.int .u8 0),(.int .u8 0),(.int .u8 0),(.int .u8 0),(.int .u8 0),(.int .u8 0),(.int .u8 0),(.int .u8 0),(.int .u8 0),(.int .u8 0),(.int .u8 0),(.int .u8 0),(.int .u8 0),(.int .u8 0)])) (fun w=>by kernel_rfl) (by kernel_rfl) rfl
theorem zr146:∃ z cs,(∀ w,(zeroValue 146).run Tryd.prog w=.ok z w)∧z.cells=cs.toArray∧∀ O ρ,R O ρ false ((.t (.ar 64 .u32)):ZD).iv cs:=zero_of (z:=(.agg (List.replicate 64 (.int .u32 0)).toArray)) (fun w=>by kernel_rfl) (by kernel_rfl) rfl
theorem zr148:∃ z cs,(∀ w,(zeroValue 148).run Tryd.prog w=.ok z w)∧z.cells=cs.toArray∧∀ O ρ,R O ρ false ((.t (.ar 16 .bo)):ZD).iv cs:=zero_of (z:=(.agg #[(.bool false),(.bool false),(.bool false),(.bool false),(.bool false),(.bool false),(.bool false),(.bool false),(.bool false),(.bool false),(.bool false),(.bool false),(.bool false),(.bool false),(.bool false),(.bool false)])) (fun w=>by kernel_rfl) (by kernel_rfl) rfl
theorem zr152:∃ z cs,(∀ w,(zeroValue 152).run Tryd.prog w=.ok z w)∧z.cells=cs.toArray∧∀ O ρ,R O ρ false ((.v (.pointer none)):ZD).iv cs:=zero_of (z:=(.pointer none)) (fun w=>by kernel_rfl) (by kernel_rfl) rfl
theorem zr156:∃ z cs,(∀ w,(zeroValue 156).run Tryd.prog w=.ok z w)∧z.cells=cs.toArray∧∀ O ρ,R O ρ false ((.pr (.v (.slice none 0 0)) (.pr (.v (.slice none 0 0)) (.pr (.t .u8) .un))):ZD).iv cs:=zero_of (z:=(.agg #[(.slice none 0 0),(.slice none 0 0),(.int .u8 0)])) (fun w=>by kernel_rfl) (by kernel_rfl) rfl
theorem zr163:∃ z cs,(∀ w,(zeroValue 163).run Tryd.prog w=.ok z w)∧z.cells=cs.toArray∧∀ O ρ,R O ρ false ((.t (.ar 16 .u8)):ZD).iv cs:=zero_of (z:=(.agg #[(.int .u8 0),(.int .u8 0),(.int .u8 0),(.int .u8 0),(.int .u8 0),(.int .u8 0),(.int .u8 0),(.int .u8 0),(.int .u8 0),(.int .u8 0),(.int .u8 0),(.int .u8 0),(.int .u8 0),(.int .u8 0),(.int .u8 0),(.int .u8 0)])) (fun w=>by kernel_rfl) (by kernel_rfl) rfl
theorem czero:∀ t v,cfg.I t=some v->∃ z cs,(∀ w,(zeroValue t).run Tryd.prog w=.ok z w)∧z.cells=cs.toArray∧∀ O ρ,R O ρ false v cs:=by
 intro t v h
 simp only [cfg] at h
 split at h<;>first | (cases h;done) | skip
 rename_i d hd
 cases h
 unfold cI at hd
 split at hd<;>first | (cases hd;done) | skip
 ·cases hd;exact zr3
 ·cases hd;exact zr4
 ·cases hd;exact zr5
 ·cases hd;exact zr9
 ·cases hd;exact zr22
 ·cases hd;exact zr23
 ·cases hd;exact zr25
 ·cases hd;exact zr41
 ·cases hd;exact zr43
 ·cases hd;exact zr45
 ·cases hd;exact zr46
 ·cases hd;exact zr49
 ·cases hd;exact zr50
 ·cases hd;exact zr54
 ·cases hd;exact zr55
 ·cases hd;exact zr56
 ·cases hd;exact zr58
 ·cases hd;exact zr85
 ·cases hd;exact zr103
 ·cases hd;exact zr131
 ·cases hd;exact zr132
 ·cases hd;exact zr134
 ·cases hd;exact zr139
 ·cases hd;exact zr140
 ·cases hd;exact zr142
 ·cases hd;exact zr146
 ·cases hd;exact zr148
 ·cases hd;exact zr152
 ·cases hd;exact zr156
 ·cases hd;exact zr163
theorem el22:∃ bytes z zc,EOk Tryd.prog 22 41 ((.pr .s (.pr .i (.pr .i .un))):Ty).size bytes z∧bytes≤128∧z.cells=zc.toArray∧∀ O,TR O (.pr .s (.pr .i (.pr .i .un))) ((.pr .s (.pr .i (.pr .i .un))):Ty).zero zc:=elem_of (b:=32) (z:=(.agg #[(.string ⟨#[]⟩),(.int .i64 0),(.int .i64 0)])) (eok_of Tryd.underlying22 (by kernel_rfl) (by kernel_rfl) (by decide)) (by decide) (by kernel_rfl)
theorem el23:∃ bytes z zc,EOk Tryd.prog 23 3 (.i:Ty).size bytes z∧bytes≤128∧z.cells=zc.toArray∧∀ O,TR O .i (.i:Ty).zero zc:=elem_of (b:=8) (z:=(.int .i64 0)) (eok_of Tryd.underlying23 (by kernel_rfl) (by kernel_rfl) (by decide)) (by decide) (by kernel_rfl)
theorem el25:∃ bytes z zc,EOk Tryd.prog 25 22 ((.sl (.pr .s (.pr .i (.pr .i .un)))):Ty).size bytes z∧bytes≤128∧z.cells=zc.toArray∧∀ O,TR O (.sl (.pr .s (.pr .i (.pr .i .un)))) ((.sl (.pr .s (.pr .i (.pr .i .un)))):Ty).zero zc:=elem_of (b:=24) (z:=(.slice none 0 0)) (eok_of Tryd.underlying25 (by kernel_rfl) (by kernel_rfl) (by decide)) (by decide) (by kernel_rfl)
theorem el43:∃ bytes z zc,EOk Tryd.prog 43 55 ((.sl .u8):Ty).size bytes z∧bytes≤128∧z.cells=zc.toArray∧∀ O,TR O (.sl .u8) ((.sl .u8):Ty).zero zc:=elem_of (b:=24) (z:=(.slice none 0 0)) (eok_of Tryd.underlying43 (by kernel_rfl) (by kernel_rfl) (by decide)) (by decide) (by kernel_rfl)
theorem el50:∃ bytes z zc,EOk Tryd.prog 50 58 ((.pr (.pr .s (.pr .i .un)) (.pr (.sl .u8) (.pr (.sl .s) .un))):Ty).size bytes z∧bytes≤128∧z.cells=zc.toArray∧∀ O,TR O (.pr (.pr .s (.pr .i .un)) (.pr (.sl .u8) (.pr (.sl .s) .un))) ((.pr (.pr .s (.pr .i .un)) (.pr (.sl .u8) (.pr (.sl .s) .un))):Ty).zero zc:=elem_of (b:=72) (z:=(.agg #[(.string ⟨#[]⟩),(.int .i64 0),(.slice none 0 0),(.slice none 0 0)])) (eok_of Tryd.underlying50 (by kernel_rfl) (by kernel_rfl) (by decide)) (by decide) (by kernel_rfl)
theorem el55:∃ bytes z zc,EOk Tryd.prog 55 5 (.u8:Ty).size bytes z∧bytes≤128∧z.cells=zc.toArray∧∀ O,TR O .u8 (.u8:Ty).zero zc:=elem_of (b:=1) (z:=(.int .u8 0)) (eok_of Tryd.underlying55 (by kernel_rfl) (by kernel_rfl) (by decide)) (by decide) (by kernel_rfl)
theorem el56:∃ bytes z zc,EOk Tryd.prog 56 9 (.s:Ty).size bytes z∧bytes≤128∧z.cells=zc.toArray∧∀ O,TR O .s (.s:Ty).zero zc:=elem_of (b:=16) (z:=(.string ⟨#[]⟩)) (eok_of Tryd.underlying56 (by kernel_rfl) (by kernel_rfl) (by decide)) (by decide) (by kernel_rfl)
theorem celem:∀ t e ty,cfg.D t=some (.slice e)->cfg.E e=some ty->∃ bytes z zc,EOk Tryd.prog t e ty.size bytes z∧bytes≤128∧z.cells=zc.toArray∧∀ O,TR O ty ty.zero zc:=by
 intro t e ty h k
 have h:cD t=some (.slice e):=h
 have k:cE e=some ty:=k
 unfold cD at h
 split at h<;>first | (cases h;done) | skip
 ·cases h;cases k;exact el22
 ·cases h;cases k;exact el23
 ·cases h;cases k;exact el25
 ·cases h;cases k;exact el43
 ·cases h;cases k;exact el50
 ·cases h;cases k;exact el55
 ·cases h;cases k;exact el56
theorem pl41:∃ pl:Array (Nat×Nat),(∀ w,((#[(Field.mk "Name" 9 0 false "" "" 0),(Field.mk "Gen" 3 1 false "" "" 16),(Field.mk "Size" 3 2 false "" "" 24)]:Array Field).mapM (m:=Sem) fun f=>do pure (f.offset,← sizeOf f.type)).run Tryd.prog w=.ok pl w)∧∀ (i:Nat) (f:Field),(#[(Field.mk "Name" 9 0 false "" "" 0),(Field.mk "Gen" 3 1 false "" "" 16),(Field.mk "Size" 3 2 false "" "" 24)]:Array Field)[i]? = some f->∃ z,pl[i]? = some (f.offset,z)∧cZ f.type=some z:=places_of #[(0,1),(1,1),(2,1)] (fun w=>by kernel_rfl) (by kernel_rfl)
theorem pl45:∃ pl:Array (Nat×Nat),(∀ w,((#[(Field.mk "Vault" 3 0 false "" "" 0),(Field.mk "Data" 3 1 false "" "" 8),(Field.mk "Total" 3 2 false "" "" 16),(Field.mk "Refs" 22 3 false "" "" 24),(Field.mk "Blocks" 43 4 false "" "" 48)]:Array Field).mapM (m:=Sem) fun f=>do pure (f.offset,← sizeOf f.type)).run Tryd.prog w=.ok pl w)∧∀ (i:Nat) (f:Field),(#[(Field.mk "Vault" 3 0 false "" "" 0),(Field.mk "Data" 3 1 false "" "" 8),(Field.mk "Total" 3 2 false "" "" 16),(Field.mk "Refs" 22 3 false "" "" 24),(Field.mk "Blocks" 43 4 false "" "" 48)]:Array Field)[i]? = some f->∃ z,pl[i]? = some (f.offset,z)∧cZ f.type=some z:=places_of #[(0,1),(1,1),(2,1),(3,1),(4,1)] (fun w=>by kernel_rfl) (by kernel_rfl)
theorem pl49:∃ pl:Array (Nat×Nat),(∀ w,((#[(Field.mk "ID" 9 0 false "" "" 0),(Field.mk "Vault" 3 1 false "" "" 16),(Field.mk "Block" 3 2 false "" "" 24),(Field.mk "Data" 3 3 false "" "" 32),(Field.mk "Total" 3 4 false "" "" 40),(Field.mk "Refs" 22 5 false "" "" 48)]:Array Field).mapM (m:=Sem) fun f=>do pure (f.offset,← sizeOf f.type)).run Tryd.prog w=.ok pl w)∧∀ (i:Nat) (f:Field),(#[(Field.mk "ID" 9 0 false "" "" 0),(Field.mk "Vault" 3 1 false "" "" 16),(Field.mk "Block" 3 2 false "" "" 24),(Field.mk "Data" 3 3 false "" "" 32),(Field.mk "Total" 3 4 false "" "" 40),(Field.mk "Refs" 22 5 false "" "" 48)]:Array Field)[i]? = some f->∃ z,pl[i]? = some (f.offset,z)∧cZ f.type=some z:=places_of #[(0,1),(1,1),(2,1),(3,1),(4,1),(5,1)] (fun w=>by kernel_rfl) (by kernel_rfl)
theorem pl54:∃ pl:Array (Nat×Nat),(∀ w,((#[(Field.mk "Stripe" 9 0 false "" "" 0),(Field.mk "Index" 3 1 false "" "" 16)]:Array Field).mapM (m:=Sem) fun f=>do pure (f.offset,← sizeOf f.type)).run Tryd.prog w=.ok pl w)∧∀ (i:Nat) (f:Field),(#[(Field.mk "Stripe" 9 0 false "" "" 0),(Field.mk "Index" 3 1 false "" "" 16)]:Array Field)[i]? = some f->∃ z,pl[i]? = some (f.offset,z)∧cZ f.type=some z:=places_of #[(0,1),(1,1)] (fun w=>by kernel_rfl) (by kernel_rfl)
theorem pl58:∃ pl:Array (Nat×Nat),(∀ w,((#[(Field.mk "ID" 54 0 false "" "" 0),(Field.mk "Data" 55 2 false "" "" 24),(Field.mk "Sums" 56 3 false "" "" 48)]:Array Field).mapM (m:=Sem) fun f=>do pure (f.offset,← sizeOf f.type)).run Tryd.prog w=.ok pl w)∧∀ (i:Nat) (f:Field),(#[(Field.mk "ID" 54 0 false "" "" 0),(Field.mk "Data" 55 2 false "" "" 24),(Field.mk "Sums" 56 3 false "" "" 48)]:Array Field)[i]? = some f->∃ z,pl[i]? = some (f.offset,z)∧cZ f.type=some z:=places_of #[(0,2),(2,1),(3,1)] (fun w=>by kernel_rfl) (by kernel_rfl)
theorem pl134:∃ pl:Array (Nat×Nat),(∀ w,((#[(Field.mk "words" 131 0 false "" "kinkeep/sha256" 0),(Field.mk "buffer" 132 8 false "" "kinkeep/sha256" 32),(Field.mk "length" 3 72 false "" "kinkeep/sha256" 96)]:Array Field).mapM (m:=Sem) fun f=>do pure (f.offset,← sizeOf f.type)).run Tryd.prog w=.ok pl w)∧∀ (i:Nat) (f:Field),(#[(Field.mk "words" 131 0 false "" "kinkeep/sha256" 0),(Field.mk "buffer" 132 8 false "" "kinkeep/sha256" 32),(Field.mk "length" 3 72 false "" "kinkeep/sha256" 96)]:Array Field)[i]? = some f->∃ z,pl[i]? = some (f.offset,z)∧cZ f.type=some z:=places_of #[(0,8),(8,64),(72,1)] (fun w=>by kernel_rfl) (by kernel_rfl)
theorem pl142:∃ pl:Array (Nat×Nat),(∀ w,((#[(Field.mk "data" 3 0 false "" "kinkeep/reedsolomon" 0),(Field.mk "rows" 140 1 false "" "kinkeep/reedsolomon" 8)]:Array Field).mapM (m:=Sem) fun f=>do pure (f.offset,← sizeOf f.type)).run Tryd.prog w=.ok pl w)∧∀ (i:Nat) (f:Field),(#[(Field.mk "data" 3 0 false "" "kinkeep/reedsolomon" 0),(Field.mk "rows" 140 1 false "" "kinkeep/reedsolomon" 8)]:Array Field)[i]? = some f->∃ z,pl[i]? = some (f.offset,z)∧cZ f.type=some z:=places_of #[(0,1),(1,128)] (fun w=>by kernel_rfl) (by kernel_rfl)
theorem pl156:∃ pl:Array (Nat×Nat),(∀ w,((#[(Field.mk "rows" 43 0 false "" "kinkeep/matrix" 0),(Field.mk "pivots" 23 1 false "" "kinkeep/matrix" 24),(Field.mk "product" 5 2 false "" "kinkeep/matrix" 48)]:Array Field).mapM (m:=Sem) fun f=>do pure (f.offset,← sizeOf f.type)).run Tryd.prog w=.ok pl w)∧∀ (i:Nat) (f:Field),(#[(Field.mk "rows" 43 0 false "" "kinkeep/matrix" 0),(Field.mk "pivots" 23 1 false "" "kinkeep/matrix" 24),(Field.mk "product" 5 2 false "" "kinkeep/matrix" 48)]:Array Field)[i]? = some f->∃ z,pl[i]? = some (f.offset,z)∧cZ f.type=some z:=places_of #[(0,1),(1,1),(2,1)] (fun w=>by kernel_rfl) (by kernel_rfl)
theorem cplaces:∀ t fs,cfg.D t=some (.struct fs)->∃ pl:Array (Nat×Nat),(∀ w,(fs.mapM (m:=Sem) fun f=>do pure (f.offset,← sizeOf f.type)).run Tryd.prog w=.ok pl w)∧∀ (i:Nat) (f:Field),fs[i]? = some f->∃ z,pl[i]? = some (f.offset,z)∧cfg.Z f.type=some z:=by
 intro t fs h
 have h:cD t=some (.struct fs):=h
 unfold cD at h
 split at h<;>first | (cases h;done) | skip
 ·cases h;exact pl41
 ·cases h;exact pl45
 ·cases h;exact pl49
 ·cases h;exact pl54
 ·cases h;exact pl58
 ·cases h;exact pl134
 ·cases h;exact pl142
 ·cases h;exact pl156
theorem ceqs:∀ t fs,cfg.D t=some (.struct fs)->cfg.Q t=true->Tryd.prog.stoodInHeld t=false∧Tryd.prog.eqGuardType Tryd.prog.depth t=false∧∀ f ∈ fs.toList,f.name ≠ "_" := by
 intro t fs h k
 have h:cD t=some (.struct fs):=h
 have k:cQ t=true:=k
 unfold cD at h
 split at h<;>first | (cases h;done) | skip
 ·cases h;exact ⟨by kernel_rfl,by kernel_rfl,names_of (by kernel_rfl)⟩
 ·exact absurd k (by decide)
 ·exact absurd k (by decide)
 ·cases h;exact ⟨by kernel_rfl,by kernel_rfl,names_of (by kernel_rfl)⟩
 ·exact absurd k (by decide)
 ·exact absurd k (by decide)
 ·exact absurd k (by decide)
 ·exact absurd k (by decide)
theorem cone:∀ t e,cfg.D t=some (.slice e)->cfg.W e=true->∃ bytes z,EOk Tryd.prog t e 1 bytes z:=by
 intro t e h k
 have h:cD t=some (.slice e):=h
 have k:cW e=true:=k
 unfold cD at h
 split at h<;>first | (cases h;done) | skip
 ·cases h;exact absurd k (by decide)
 ·cases h;exact absurd k (by decide)
 ·cases h;exact absurd k (by decide)
 ·cases h;exact absurd k (by decide)
 ·cases h;exact absurd k (by decide)
 ·cases h;exact absurd k (by decide)
 ·cases h;exact absurd k (by decide)
theorem cmaps:∀ t kt vt,cfg.M t=some (kt,vt)->∃ k e d z,Tryd.prog.underlying t=some (.map k e)∧Tryd.prog.underlying k=some d∧keyD d kt=true∧(∀ w,(zeroValue e).run Tryd.prog w=.ok z w)∧∀ O,VR O vt vt.zero z:=by
 intro t kt vt h
 have h:cM t=some (kt,vt):=h
 unfold cM at h
 split at h<;>first | (cases h;done) | skip
 ·cases h;exact ⟨3,4,_,(.bool false),Tryd.underlying37,Tryd.underlying3,rfl,fun w=>by kernel_rfl,vzero_ok rfl⟩
 ·cases h;exact ⟨3,3,_,(.int .i64 0),Tryd.underlying79,Tryd.underlying3,rfl,fun w=>by kernel_rfl,vzero_ok rfl⟩
 ·cases h;exact ⟨9,4,_,(.bool false),Tryd.underlying101,Tryd.underlying9,rfl,fun w=>by kernel_rfl,vzero_ok rfl⟩
theorem cok:COk Tryd.prog cfg:=⟨tok,czero,celem,cplaces,ceqs,cone,cmaps,fun _ _ _ _ h=>by cases h⟩
def cR:Nat->Option (Nat×Ty)
 | 22=>some (41,(.pr .s (.pr .i (.pr .i .un))))
 | 55=>some (5,.u8)
 | _=>none
def cfgR:Cfg:=⟨cD,cZ,fun t=>match cI t with | some d=>some d.iv | none=>none,cE,cG,cQ,cV,cW,cM,cR⟩
theorem crows:∀ t e p,cfgR.D t=some (.slice e)->cfgR.R e=some p->∃ bytes,EOk Tryd.prog t e 1 bytes (.slice none 0 0)∧bytes≤128:=by
 intro t e p h k
 have h:cD t=some (.slice e):=h
 have k:cR e=some p:=k
 unfold cD at h
 split at h<;>first | (cases h;done) | skip
 ·cases h;exact absurd k (by simp [cR])
 ·cases h;exact absurd k (by simp [cR])
 ·cases h;exact ⟨24,eok_of Tryd.underlying25 (by kernel_rfl) (by kernel_rfl) (by decide),by decide⟩
 ·cases h;exact ⟨24,eok_of Tryd.underlying43 (by kernel_rfl) (by kernel_rfl) (by decide),by decide⟩
 ·cases h;exact absurd k (by simp [cR])
 ·cases h;exact absurd k (by simp [cR])
 ·cases h;exact absurd k (by simp [cR])
theorem cokR:COk Tryd.prog cfgR:=⟨tok,czero,celem,cplaces,ceqs,cone,cmaps,crows⟩
theorem mixed:Tryd.prog.follows .mixedOrders=true:=by kernel_rfl
def bodyOf (f:Func):Code:=match f.body with
 | some c=>c
 | none=>.skip
end Go.Proofs.YtooplgiihmdfgaaDoor
