/- What is known of the types. -/
import Derived.Test.YtpnhgldpeiogbaaGreatDoorProg
import Derived.Test.YtpnhgldpeiogbaaGreatDoorOK3
namespace Go.Proofs.YtpnhgldpeiogbaaGreatDoor
open Go.Tw
set_option maxRecDepth 100000
set_option linter.unusedSimpArgs false
set_option linter.unusedVariables false
def cD:Nat->Option TypeDesc
 | 3=>some (TypeDesc.int IntKind.i64)
 | 4=>some TypeDesc.bool
 | 5=>some (TypeDesc.int IntKind.u8)
 | 9=>some TypeDesc.string
 | 22=>some (TypeDesc.slice 45)
 | 23=>some (TypeDesc.slice 39)
 | 27=>some (TypeDesc.struct #[(Field.mk "ID" 9 0 false "" "" 0),(Field.mk "Vault" 3 1 false "" "" 16),(Field.mk "Block" 3 2 false "" "" 24),(Field.mk "Data" 3 3 false "" "" 32),(Field.mk "Total" 3 4 false "" "" 40),(Field.mk "Refs" 22 5 false "" "" 48)])
 | 28=>some (TypeDesc.slice 42)
 | 29=>some (TypeDesc.int IntKind.i64)
 | 38=>some (TypeDesc.struct #[(Field.mk "Stripe" 9 0 false "" "" 0),(Field.mk "Index" 3 1 false "" "" 16)])
 | 39=>some (TypeDesc.slice 5)
 | 40=>some (TypeDesc.slice 9)
 | 42=>some (TypeDesc.struct #[(Field.mk "ID" 38 0 false "" "" 0),(Field.mk "Data" 39 2 false "" "" 24),(Field.mk "Sums" 40 3 false "" "" 48)])
 | 45=>some (TypeDesc.struct #[(Field.mk "Name" 9 0 false "" "" 0),(Field.mk "Gen" 3 1 false "" "" 16),(Field.mk "Size" 3 2 false "" "" 24)])
 | 66=>some (TypeDesc.struct #[(Field.mk "Name" 9 0 false "" "" 0),(Field.mk "Stream" 9 1 false "" "" 16),(Field.mk "Check" 9 2 false "" "" 32),(Field.mk "Index" 9 3 false "" "" 48),(Field.mk "Token" 9 4 false "" "" 64)])
 | 67=>some (TypeDesc.int IntKind.u32)
 | 74=>some (TypeDesc.slice 22)
 | 79=>some (TypeDesc.slice 3)
 | 106=>some (TypeDesc.int IntKind.u64)
 | 109=>some (TypeDesc.pointer 152)
 | 125=>some (TypeDesc.map 3 3)
 | 127=>some (TypeDesc.map 9 4)
 | 152=>some (TypeDesc.struct #[(Field.mk "data" 39 0 false "" "kinkeep/wire" 0),(Field.mk "offset" 3 1 false "" "kinkeep/wire" 24),(Field.mk "last" 3 2 false "" "kinkeep/wire" 32),(Field.mk "err" 29 3 false "" "kinkeep/wire" 40)])
 | 163=>some (TypeDesc.int IntKind.u64)
 | 174=>some (TypeDesc.array 8 67)
 | 190=>some (TypeDesc.array 8 5)
 | 191=>some (TypeDesc.array 16 190)
 | 193=>some (TypeDesc.struct #[(Field.mk "data" 3 0 false "" "kinkeep/reedsolomon" 0),(Field.mk "rows" 191 1 false "" "kinkeep/reedsolomon" 8)])
 | 196=>some (TypeDesc.array 64 5)
 | 198=>some (TypeDesc.struct #[(Field.mk "words" 174 0 false "" "kinkeep/sha256" 0),(Field.mk "buffer" 196 8 false "" "kinkeep/sha256" 32),(Field.mk "length" 3 72 false "" "kinkeep/sha256" 96)])
 | 200=>some (TypeDesc.array 64 67)
 | 206=>some (TypeDesc.array 2 5)
 | 208=>some (TypeDesc.struct #[(Field.mk "State" 198 0 true "" "" 0),(Field.mk "outer" 196 73 false "" "kinkeep/hmac" 104)])
 | 210=>some (TypeDesc.struct #[(Field.mk "state" 208 0 false "" "kinkeep/hmac" 0)])
 | 211=>some (TypeDesc.array 16 67)
 | 213=>some (TypeDesc.array 4 3)
 | 214=>some (TypeDesc.array 8 213)
 | 219=>some (TypeDesc.array 16 4)
 | 220=>some (TypeDesc.pointer 224)
 | 224=>some (TypeDesc.struct #[(Field.mk "rows" 23 0 false "" "kinkeep/matrix" 0),(Field.mk "pivots" 79 1 false "" "kinkeep/matrix" 24),(Field.mk "product" 5 2 false "" "kinkeep/matrix" 48)])
 | 229=>some (TypeDesc.array 16 5)
 | _=>none
def cZ:Nat->Option Nat
 | 3=>some 1
 | 4=>some 1
 | 5=>some 1
 | 9=>some 1
 | 22=>some 1
 | 23=>some 1
 | 27=>some 6
 | 28=>some 1
 | 29=>some 1
 | 38=>some 2
 | 39=>some 1
 | 40=>some 1
 | 42=>some 4
 | 45=>some 3
 | 66=>some 5
 | 67=>some 1
 | 74=>some 1
 | 79=>some 1
 | 106=>some 1
 | 109=>some 1
 | 125=>some 1
 | 127=>some 1
 | 152=>some 4
 | 163=>some 1
 | 174=>some 8
 | 190=>some 8
 | 191=>some 128
 | 193=>some 129
 | 196=>some 64
 | 198=>some 73
 | 200=>some 64
 | 206=>some 2
 | 208=>some 137
 | 210=>some 137
 | 211=>some 16
 | 213=>some 4
 | 214=>some 32
 | 219=>some 16
 | 220=>some 1
 | 224=>some 3
 | 229=>some 16
 | _=>none
def cI:Nat->Option ZD
 | 3=>some (.t .i)
 | 4=>some (.t .bo)
 | 5=>some (.t .u8)
 | 9=>some (.t .s)
 | 22=>some (.t (.sl (.pr .s (.pr .i (.pr .i .un)))))
 | 23=>some (.v (.slice none 0 0))
 | 27=>some (.pr (.t .s) (.pr (.t .i) (.pr (.t .i) (.pr (.t .i) (.pr (.t .i) (.pr (.v (.slice none 0 0)) .un))))))
 | 28=>some (.t (.sl (.pr (.pr .s (.pr .i .un)) (.pr (.sl .u8) (.pr (.sl .s) .un)))))
 | 29=>some (.t .i)
 | 38=>some (.t (.pr .s (.pr .i .un)))
 | 39=>some (.t (.sl .u8))
 | 40=>some (.t (.sl .s))
 | 42=>some (.t (.pr (.pr .s (.pr .i .un)) (.pr (.sl .u8) (.pr (.sl .s) .un))))
 | 45=>some (.t (.pr .s (.pr .i (.pr .i .un))))
 | 66=>some (.t (.pr .s (.pr .s (.pr .s (.pr .s (.pr .s .un))))))
 | 67=>some (.t .u32)
 | 74=>some (.t (.sl (.sl (.pr .s (.pr .i (.pr .i .un))))))
 | 79=>some (.v (.slice none 0 0))
 | 106=>some (.t .u64)
 | 109=>some (.v (.pointer none))
 | 152=>some (.pr (.v (.slice none 0 0)) (.pr (.t .i) (.pr (.t .i) (.pr (.t .i) .un))))
 | 163=>some (.t .u64)
 | 174=>some (.t (.ar 8 .u32))
 | 190=>some (.t (.ar 8 .u8))
 | 191=>some (.t (.ar 16 (.ar 8 .u8)))
 | 193=>some (.t (.pr .i (.pr (.ar 16 (.ar 8 .u8)) .un)))
 | 196=>some (.t (.ar 64 .u8))
 | 198=>some (.t (.pr (.ar 8 .u32) (.pr (.ar 64 .u8) (.pr .i .un))))
 | 200=>some (.t (.ar 64 .u32))
 | 206=>some (.t (.ar 2 .u8))
 | 208=>some (.t (.pr (.pr (.ar 8 .u32) (.pr (.ar 64 .u8) (.pr .i .un))) (.pr (.ar 64 .u8) .un)))
 | 210=>some (.t (.pr (.pr (.pr (.ar 8 .u32) (.pr (.ar 64 .u8) (.pr .i .un))) (.pr (.ar 64 .u8) .un)) .un))
 | 211=>some (.t (.ar 16 .u32))
 | 213=>some (.t (.ar 4 .i))
 | 214=>some (.t (.ar 8 (.ar 4 .i)))
 | 219=>some (.t (.ar 16 .bo))
 | 220=>some (.v (.pointer none))
 | 224=>some (.pr (.v (.slice none 0 0)) (.pr (.v (.slice none 0 0)) (.pr (.t .u8) .un)))
 | 229=>some (.t (.ar 16 .u8))
 | _=>none
def cE:Nat->Option Ty
 | 3=>some .i
 | 5=>some .u8
 | 9=>some .s
 | 22=>some (.sl (.pr .s (.pr .i (.pr .i .un))))
 | 39=>some (.sl .u8)
 | 42=>some (.pr (.pr .s (.pr .i .un)) (.pr (.sl .u8) (.pr (.sl .s) .un)))
 | 45=>some (.pr .s (.pr .i (.pr .i .un)))
 | _=>none
def gv0:Vector UInt32 8:=#v[1779033703,3144134277,1013904242,2773480762,1359893119,2600822924,528734635,1541459225]
def gv1:Vector UInt8 2:=#v[54,92]
def gv2:Vector UInt32 64:=#v[1116352408,1899447441,3049323471,3921009573,961987163,1508970993,2453635748,2870763221,3624381080,310598401,607225278,1426881987,1925078388,2162078206,2614888103,3248222580,3835390401,4022224774,264347078,604807628,770255983,1249150122,1555081692,1996064986,2554220882,2821834349,2952996808,3210313671,3336571891,3584528711,113926993,338241895,666307205,773529912,1294757372,1396182291,1695183700,1986661051,2177026350,2456956037,2730485921,2820302411,3259730800,3345764771,3516065817,3600352804,4094571909,275423344,430227734,506948616,659060556,883997877,958139571,1322822218,1537002063,1747873779,1955562222,2024104815,2227730452,2361852424,2428436474,2756734187,3204031479,3329325298]
def cG:Nat->Option ((t:Ty)×t.den)
 | 0=>some ⟨(.ar 8 .u32),(gv0:Ty.den (.ar 8 .u32))⟩
 | 1=>some ⟨(.ar 2 .u8),(gv1:Ty.den (.ar 2 .u8))⟩
 | 2=>some ⟨(.ar 64 .u32),(gv2:Ty.den (.ar 64 .u32))⟩
 | _=>none
def cV:Nat->Bool
 | _=>false
def cW:Nat->Bool
 | _=>false
def cM:Nat->Option (Ty×Ty)
 | 125=>some (.i,.i)
 | 127=>some (.s,.bo)
 | _=>none
def cQ:Nat->Bool
 | 38=>true
 | 45=>true
 | 66=>true
 | _=>false
def cfg:Cfg:=⟨cD,cZ,fun t=>match cI t with | some d=>some d.iv | none=>none,cE,cG,cQ,cV,cW,cM,fun _=>none⟩
theorem tok:TOk Tryz.prog cD cZ:=⟨fun t d h=>by
 unfold cD at h
 split at h<;>first | (cases h;done) | skip
 ·cases h;exact Tryz.underlying3
 ·cases h;exact Tryz.underlying4
 ·cases h;exact Tryz.underlying5
 ·cases h;exact Tryz.underlying9
 ·cases h;exact Tryz.underlying22
 ·cases h;exact Tryz.underlying23
 ·cases h;exact Tryz.underlying27
 ·cases h;exact Tryz.underlying28
 ·cases h;exact Tryz.underlying29
 ·cases h;exact Tryz.underlying38
 ·cases h;exact Tryz.underlying39
 ·cases h;exact Tryz.underlying40
 ·cases h;exact Tryz.underlying42
 ·cases h;exact Tryz.underlying45
 ·cases h;exact Tryz.underlying66
 ·cases h;exact Tryz.underlying67
 ·cases h;exact Tryz.underlying74
 ·cases h;exact Tryz.underlying79
 ·cases h;exact Tryz.underlying106
 ·cases h;exact Tryz.underlying109
 ·cases h;exact Tryz.underlying125
 ·cases h;exact Tryz.underlying127
 ·cases h;exact Tryz.underlying152
 ·cases h;exact Tryz.underlying163
 ·cases h;exact Tryz.underlying174
 ·cases h;exact Tryz.underlying190
 ·cases h;exact Tryz.underlying191
 ·cases h;exact Tryz.underlying193
 ·cases h;exact Tryz.underlying196
 ·cases h;exact Tryz.underlying198
 ·cases h;exact Tryz.underlying200
 ·cases h;exact Tryz.underlying206
 ·cases h;exact Tryz.underlying208
 ·cases h;exact Tryz.underlying210
 ·cases h;exact Tryz.underlying211
 ·cases h;exact Tryz.underlying213
 ·cases h;exact Tryz.underlying214
 ·cases h;exact Tryz.underlying219
 ·cases h;exact Tryz.underlying220
 ·cases h;exact Tryz.underlying224
 ·cases h;exact Tryz.underlying229
 , fun t n h=>by
 unfold cZ at h
 split at h<;>first | (cases h;done) | skip
 ·cases h;exact fun w=>by kernel_rfl
 ·cases h;exact fun w=>by kernel_rfl
 ·cases h;exact fun w=>by kernel_rfl
 ·cases h;exact fun w=>by kernel_rfl
 ·cases h;exact fun w=>by kernel_rfl
 ·cases h;exact fun w=>by kernel_rfl
 ·cases h;exact fun w=>by kernel_rfl
 ·cases h;exact fun w=>by kernel_rfl
 ·cases h;exact fun w=>by kernel_rfl
 ·cases h;exact fun w=>by kernel_rfl
 ·cases h;exact fun w=>by kernel_rfl
 ·cases h;exact fun w=>by kernel_rfl
 ·cases h;exact fun w=>by kernel_rfl
 ·cases h;exact fun w=>by kernel_rfl
 ·cases h;exact fun w=>by kernel_rfl
 ·cases h;exact fun w=>by kernel_rfl
 ·cases h;exact fun w=>by kernel_rfl
 ·cases h;exact fun w=>by kernel_rfl
 ·cases h;exact fun w=>by kernel_rfl
 ·cases h;exact fun w=>by kernel_rfl
 ·cases h;exact fun w=>by kernel_rfl
 ·cases h;exact fun w=>by kernel_rfl
 ·cases h;exact fun w=>by kernel_rfl
 ·cases h;exact fun w=>by kernel_rfl
 ·cases h;exact fun w=>by kernel_rfl
 ·cases h;exact fun w=>by kernel_rfl
 ·cases h;exact fun w=>by kernel_rfl
 ·cases h;exact fun w=>by kernel_rfl
 ·cases h;exact fun w=>by kernel_rfl
 ·cases h;exact fun w=>by kernel_rfl
 ·cases h;exact fun w=>by kernel_rfl
 ·cases h;exact fun w=>by kernel_rfl
 ·cases h;exact fun w=>by kernel_rfl
 ·cases h;exact fun w=>by kernel_rfl
 ·cases h;exact fun w=>by kernel_rfl
 ·cases h;exact fun w=>by kernel_rfl
 ·cases h;exact fun w=>by kernel_rfl
 ·cases h;exact fun w=>by kernel_rfl
 ·cases h;exact fun w=>by kernel_rfl
 ·cases h;exact fun w=>by kernel_rfl
 ·cases h;exact fun w=>by kernel_rfl
⟩
theorem zr3:∃ z cs,(∀ w,(zeroValue 3).run Tryz.prog w=.ok z w)∧z.cells=cs.toArray∧∀ O ρ,R O ρ false ((.t .i):ZD).iv cs:=zero_of (z:=(.int .i64 0)) (fun w=>by kernel_rfl) (by kernel_rfl) rfl
theorem zr4:∃ z cs,(∀ w,(zeroValue 4).run Tryz.prog w=.ok z w)∧z.cells=cs.toArray∧∀ O ρ,R O ρ false ((.t .bo):ZD).iv cs:=zero_of (z:=(.bool false)) (fun w=>by kernel_rfl) (by kernel_rfl) rfl
theorem zr5:∃ z cs,(∀ w,(zeroValue 5).run Tryz.prog w=.ok z w)∧z.cells=cs.toArray∧∀ O ρ,R O ρ false ((.t .u8):ZD).iv cs:=zero_of (z:=(.int .u8 0)) (fun w=>by kernel_rfl) (by kernel_rfl) rfl
theorem zr9:∃ z cs,(∀ w,(zeroValue 9).run Tryz.prog w=.ok z w)∧z.cells=cs.toArray∧∀ O ρ,R O ρ false ((.t .s):ZD).iv cs:=zero_of (z:=(.string ⟨#[]⟩)) (fun w=>by kernel_rfl) (by kernel_rfl) rfl
theorem zr22:∃ z cs,(∀ w,(zeroValue 22).run Tryz.prog w=.ok z w)∧z.cells=cs.toArray∧∀ O ρ,R O ρ false ((.t (.sl (.pr .s (.pr .i (.pr .i .un))))):ZD).iv cs:=zero_of (z:=(.slice none 0 0)) (fun w=>by kernel_rfl) (by kernel_rfl) rfl
theorem zr23:∃ z cs,(∀ w,(zeroValue 23).run Tryz.prog w=.ok z w)∧z.cells=cs.toArray∧∀ O ρ,R O ρ false ((.v (.slice none 0 0)):ZD).iv cs:=zero_of (z:=(.slice none 0 0)) (fun w=>by kernel_rfl) (by kernel_rfl) rfl
theorem zr27:∃ z cs,(∀ w,(zeroValue 27).run Tryz.prog w=.ok z w)∧z.cells=cs.toArray∧∀ O ρ,R O ρ false ((.pr (.t .s) (.pr (.t .i) (.pr (.t .i) (.pr (.t .i) (.pr (.t .i) (.pr (.v (.slice none 0 0)) .un)))))):ZD).iv cs:=zero_of (z:=(.agg #[(.string ⟨#[]⟩),(.int .i64 0),(.int .i64 0),(.int .i64 0),(.int .i64 0),(.slice none 0 0)])) (fun w=>by kernel_rfl) (by kernel_rfl) rfl
theorem zr28:∃ z cs,(∀ w,(zeroValue 28).run Tryz.prog w=.ok z w)∧z.cells=cs.toArray∧∀ O ρ,R O ρ false ((.t (.sl (.pr (.pr .s (.pr .i .un)) (.pr (.sl .u8) (.pr (.sl .s) .un))))):ZD).iv cs:=zero_of (z:=(.slice none 0 0)) (fun w=>by kernel_rfl) (by kernel_rfl) rfl
theorem zr29:∃ z cs,(∀ w,(zeroValue 29).run Tryz.prog w=.ok z w)∧z.cells=cs.toArray∧∀ O ρ,R O ρ false ((.t .i):ZD).iv cs:=zero_of (z:=(.int .i64 0)) (fun w=>by kernel_rfl) (by kernel_rfl) rfl
theorem zr38:∃ z cs,(∀ w,(zeroValue 38).run Tryz.prog w=.ok z w)∧z.cells=cs.toArray∧∀ O ρ,R O ρ false ((.t (.pr .s (.pr .i .un))):ZD).iv cs:=zero_of (z:=(.agg #[(.string ⟨#[]⟩),(.int .i64 0)])) (fun w=>by kernel_rfl) (by kernel_rfl) rfl
theorem zr39:∃ z cs,(∀ w,(zeroValue 39).run Tryz.prog w=.ok z w)∧z.cells=cs.toArray∧∀ O ρ,R O ρ false ((.t (.sl .u8)):ZD).iv cs:=zero_of (z:=(.slice none 0 0)) (fun w=>by kernel_rfl) (by kernel_rfl) rfl
theorem zr40:∃ z cs,(∀ w,(zeroValue 40).run Tryz.prog w=.ok z w)∧z.cells=cs.toArray∧∀ O ρ,R O ρ false ((.t (.sl .s)):ZD).iv cs:=zero_of (z:=(.slice none 0 0)) (fun w=>by kernel_rfl) (by kernel_rfl) rfl
theorem zr42:∃ z cs,(∀ w,(zeroValue 42).run Tryz.prog w=.ok z w)∧z.cells=cs.toArray∧∀ O ρ,R O ρ false ((.t (.pr (.pr .s (.pr .i .un)) (.pr (.sl .u8) (.pr (.sl .s) .un)))):ZD).iv cs:=zero_of (z:=(.agg #[(.string ⟨#[]⟩),(.int .i64 0),(.slice none 0 0),(.slice none 0 0)])) (fun w=>by kernel_rfl) (by kernel_rfl) rfl
theorem zr45:∃ z cs,(∀ w,(zeroValue 45).run Tryz.prog w=.ok z w)∧z.cells=cs.toArray∧∀ O ρ,R O ρ false ((.t (.pr .s (.pr .i (.pr .i .un)))):ZD).iv cs:=zero_of (z:=(.agg #[(.string ⟨#[]⟩),(.int .i64 0),(.int .i64 0)])) (fun w=>by kernel_rfl) (by kernel_rfl) rfl
theorem zr66:∃ z cs,(∀ w,(zeroValue 66).run Tryz.prog w=.ok z w)∧z.cells=cs.toArray∧∀ O ρ,R O ρ false ((.t (.pr .s (.pr .s (.pr .s (.pr .s (.pr .s .un)))))):ZD).iv cs:=zero_of (z:=(.agg #[(.string ⟨#[]⟩),(.string ⟨#[]⟩),(.string ⟨#[]⟩),(.string ⟨#[]⟩),(.string ⟨#[]⟩)])) (fun w=>by kernel_rfl) (by kernel_rfl) rfl
theorem zr67:∃ z cs,(∀ w,(zeroValue 67).run Tryz.prog w=.ok z w)∧z.cells=cs.toArray∧∀ O ρ,R O ρ false ((.t .u32):ZD).iv cs:=zero_of (z:=(.int .u32 0)) (fun w=>by kernel_rfl) (by kernel_rfl) rfl
theorem zr74:∃ z cs,(∀ w,(zeroValue 74).run Tryz.prog w=.ok z w)∧z.cells=cs.toArray∧∀ O ρ,R O ρ false ((.t (.sl (.sl (.pr .s (.pr .i (.pr .i .un)))))):ZD).iv cs:=zero_of (z:=(.slice none 0 0)) (fun w=>by kernel_rfl) (by kernel_rfl) rfl
theorem zr79:∃ z cs,(∀ w,(zeroValue 79).run Tryz.prog w=.ok z w)∧z.cells=cs.toArray∧∀ O ρ,R O ρ false ((.v (.slice none 0 0)):ZD).iv cs:=zero_of (z:=(.slice none 0 0)) (fun w=>by kernel_rfl) (by kernel_rfl) rfl
theorem zr106:∃ z cs,(∀ w,(zeroValue 106).run Tryz.prog w=.ok z w)∧z.cells=cs.toArray∧∀ O ρ,R O ρ false ((.t .u64):ZD).iv cs:=zero_of (z:=(.int .u64 0)) (fun w=>by kernel_rfl) (by kernel_rfl) rfl
theorem zr109:∃ z cs,(∀ w,(zeroValue 109).run Tryz.prog w=.ok z w)∧z.cells=cs.toArray∧∀ O ρ,R O ρ false ((.v (.pointer none)):ZD).iv cs:=zero_of (z:=(.pointer none)) (fun w=>by kernel_rfl) (by kernel_rfl) rfl
theorem zr152:∃ z cs,(∀ w,(zeroValue 152).run Tryz.prog w=.ok z w)∧z.cells=cs.toArray∧∀ O ρ,R O ρ false ((.pr (.v (.slice none 0 0)) (.pr (.t .i) (.pr (.t .i) (.pr (.t .i) .un)))):ZD).iv cs:=zero_of (z:=(.agg #[(.slice none 0 0),(.int .i64 0),(.int .i64 0),(.int .i64 0)])) (fun w=>by kernel_rfl) (by kernel_rfl) rfl
theorem zr163:∃ z cs,(∀ w,(zeroValue 163).run Tryz.prog w=.ok z w)∧z.cells=cs.toArray∧∀ O ρ,R O ρ false ((.t .u64):ZD).iv cs:=zero_of (z:=(.int .u64 0)) (fun w=>by kernel_rfl) (by kernel_rfl) rfl
theorem zr174:∃ z cs,(∀ w,(zeroValue 174).run Tryz.prog w=.ok z w)∧z.cells=cs.toArray∧∀ O ρ,R O ρ false ((.t (.ar 8 .u32)):ZD).iv cs:=zero_of (z:=(.agg #[(.int .u32 0),(.int .u32 0),(.int .u32 0),(.int .u32 0),(.int .u32 0),(.int .u32 0),(.int .u32 0),(.int .u32 0)])) (fun w=>by kernel_rfl) (by kernel_rfl) rfl
theorem zr190:∃ z cs,(∀ w,(zeroValue 190).run Tryz.prog w=.ok z w)∧z.cells=cs.toArray∧∀ O ρ,R O ρ false ((.t (.ar 8 .u8)):ZD).iv cs:=zero_of (z:=(.agg #[(.int .u8 0),(.int .u8 0),(.int .u8 0),(.int .u8 0),(.int .u8 0),(.int .u8 0),(.int .u8 0),(.int .u8 0)])) (fun w=>by kernel_rfl) (by kernel_rfl) rfl
theorem zr191:∃ z cs,(∀ w,(zeroValue 191).run Tryz.prog w=.ok z w)∧z.cells=cs.toArray∧∀ O ρ,R O ρ false ((.t (.ar 16 (.ar 8 .u8))):ZD).iv cs:=zero_of (z:=(.agg (List.replicate 128 (.int .u8 0)).toArray)) (fun w=>by kernel_rfl) (by kernel_rfl) rfl
theorem zr193:∃ z cs,(∀ w,(zeroValue 193).run Tryz.prog w=.ok z w)∧z.cells=cs.toArray∧∀ O ρ,R O ρ false ((.t (.pr .i (.pr (.ar 16 (.ar 8 .u8)) .un))):ZD).iv cs:=zero_of (z:=(.agg #[(.int .i64 0),(.int .u8 0),(.int .u8 0),(.int .u8 0),(.int .u8 0),(.int .u8 0),(.int .u8 0),(.int .u8 0),(.int .u8 0),(.int .u8 0),(.int .u8 0),(.int .u8 0),(.int .u8 0),(.int .u8 0),(.int .u8 0),(.int .u8 0),(.int .u8 0),(.int .u8 0),(.int .u8 0),(.int .u8 0),(.int .u8 0),(.int .u8 0),(.int .u8 0),(.int .u8 0),(.int .u8 0),(.int .u8 0),(.int .u8 0),(.int .u8 0),(.int .u8 0),(.int .u8 0),(.int .u8 0),(.int .u8 0),(.int .u8 0),(.int .u8 0),(.int .u8 0),(.int .u8 0),(.int .u8 0),(.int .u8 0),(.int .u8 0),(.int .u8 0),(.int .u8 0),(.int .u8 0),(.int .u8 0),(.int .u8 0),(.int .u8 0),(.int .u8 0),(.int .u8 0),(.int .u8 0),(.int .u8 0),(.int .u8 0),(.int .u8 0),(.int .u8 0),(.int .u8 0),(.int .u8 0),(.int .u8 0),(.int .u8 0),(.int .u8 0),(.int .u8 0),(.int .u8 0),(.int .u8 0),(.int .u8 0),(.int .u8 0),(.int .u8 0),(.int .u8 0),(.int .u8 0),(.int .u8 0),(.int .u8 0),(.int .u8 0),(.int .u8 0),(.int .u8 0),(.int .u8 0),(.int .u8 0),(.int .u8 0),(.int .u8 0),(.int .u8 0),(.int .u8 0),(.int .u8 0),(.int .u8 0),(.int .u8 0),(.int .u8 0),(.int .u8 0),(.int .u8 0),(.int .u8 0),(.int .u8 0),(.int .u8 0),(.int .u8 0),(.int .u8 0),(.int .u8 0),(.int .u8 0),(.int .u8 0),(.int .u8 0),(.int .u8 0),(.int .u8 0),(.int .u8 0),(.int .u8 0),(.int .u8 0),(.int .u8 0),(.int .u8 0),(.int .u8 0),(.int .u8 0),(.int .u8 0),(.int .u8 0),(.int .u8 0),(.int .u8 0),(.int .u8 0),(.int .u8 0),(.int .u8 0),(.int .u8 0),(.int .u8 0),(.int .u8 0),(.int .u8 0),(.int .u8 0),(.int .u8 0),(.int .u8 0),(.int .u8 0),(.int .u8 0),(.int .u8 0),(.int .u8 0),(.int .u8 0),(.int .u8 0),(.int .u8 0),(.int .u8 0),(.int .u8 0),(.int .u8 0),(.int .u8 0),(.int .u8 0),(.int .u8 0),(.int .u8 0),(.int .u8 0)])) (fun w=>by kernel_rfl) (by kernel_rfl) rfl
theorem zr196:∃ z cs,(∀ w,(zeroValue 196).run Tryz.prog w=.ok z w)∧z.cells=cs.toArray∧∀ O ρ,R O ρ false ((.t (.ar 64 .u8)):ZD).iv cs:=zero_of (z:=(.agg (List.replicate 64 (.int .u8 0)).toArray)) (fun w=>by kernel_rfl) (by kernel_rfl) rfl
theorem zr198:∃ z cs,(∀ w,(zeroValue 198).run Tryz.prog w=.ok z w)∧z.cells=cs.toArray∧∀ O ρ,R O ρ false ((.t (.pr (.ar 8 .u32) (.pr (.ar 64 .u8) (.pr .i .un)))):ZD).iv cs:=zero_of (z:=(.agg #[(.int .u32 0),(.int .u32 0),(.int .u32 0),(.int .u32 0),(.int .u32 0),(.int .u32 0),(.int .u32 0),(.int .u32 0),(.int .u8 0),(.int .u8 0),(.int .u8 0),(.int .u8 0),(.int .u8 0),(.int .u8 0),(.int .u8 0),(.int .u8 0),(.int .u8 0),(.int .u8 0),(.int .u8 0),(.int .u8 0),(.int .u8 0),(.int .u8 0),(.int .u8 0),(.int .u8 0),(.int .u8 0),(.int .u8 0),(.int .u8 0),(.int .u8 0),(.int .u8 0),(.int .u8 0),(.int .u8 0),(.int .u8 0),(.int .u8 0),(.int .u8 0),(.int .u8 0),(.int .u8 0),(.int .u8 0),(.int .u8 0),(.int .u8 0),(.int .u8 0),(.int .u8 0),(.int .u8 0),(.int .u8 0),(.int .u8 0),(.int .u8 0),(.int .u8 0),(.int .u8 0),(.int .u8 0),(.int .u8 0),(.int .u8 0),(.int .u8 0),(.int .u8 0),(.int .u8 0),(.int .u8 0),(.int .u8 0),(.int .u8 0),(.int .u8 0),(.int .u8 0),(.int .u8 0),(.int .u8 0),(.int .u8 0),(.int .u8 0),(.int .u8 0),(.int .u8 0),(.int .u8 0),(.int .u8 0),(.int .u8 0),(.int .u8 0),(.int .u8 0),(.int .u8 0),(.int .u8 0),(.int .u8 0),(.int .i64 0)])) (fun w=>by kernel_rfl) (by kernel_rfl) rfl
theorem zr200:∃ z cs,(∀ w,(zeroValue 200).run Tryz.prog w=.ok z w)∧z.cells=cs.toArray∧∀ O ρ,R O ρ false ((.t (.ar 64 .u32)):ZD).iv cs:=zero_of (z:=(.agg (List.replicate 64 (.int .u32 0)).toArray)) (fun w=>by kernel_rfl) (by kernel_rfl) rfl
theorem zr206:∃ z cs,(∀ w,(zeroValue 206).run Tryz.prog w=.ok z w)∧z.cells=cs.toArray∧∀ O ρ,R O ρ false ((.t (.ar 2 .u8)):ZD).iv cs:=zero_of (z:=(.agg #[(.int .u8 0),(.int .u8 0)])) (fun w=>by kernel_rfl) (by kernel_rfl) rfl
theorem zr208:∃ z cs,(∀ w,(zeroValue 208).run Tryz.prog w=.ok z w)∧z.cells=cs.toArray∧∀ O ρ,R O ρ false ((.t (.pr (.pr (.ar 8 .u32) (.pr (.ar 64 .u8) (.pr .i .un))) (.pr (.ar 64 .u8) .un))):ZD).iv cs:=zero_of (z:=(.agg #[(.int .u32 0),(.int .u32 0),(.int .u32 0),(.int .u32 0),(.int .u32 0),(.int .u32 0),(.int .u32 0),(.int .u32 0),(.int .u8 0),(.int .u8 0),(.int .u8 0),(.int .u8 0),(.int .u8 0),(.int .u8 0),(.int .u8 0),(.int .u8 0),(.int .u8 0),(.int .u8 0),(.int .u8 0),(.int .u8 0),(.int .u8 0),(.int .u8 0),(.int .u8 0),(.int .u8 0),(.int .u8 0),(.int .u8 0),(.int .u8 0),(.int .u8 0),(.int .u8 0),(.int .u8 0),(.int .u8 0),(.int .u8 0),(.int .u8 0),(.int .u8 0),(.int .u8 0),(.int .u8 0),(.int .u8 0),(.int .u8 0),(.int .u8 0),(.int .u8 0),(.int .u8 0),(.int .u8 0),(.int .u8 0),(.int .u8 0),(.int .u8 0),(.int .u8 0),(.int .u8 0),(.int .u8 0),(.int .u8 0),(.int .u8 0),(.int .u8 0),(.int .u8 0),(.int .u8 0),(.int .u8 0),(.int .u8 0),(.int .u8 0),(.int .u8 0),(.int .u8 0),(.int .u8 0),(.int .u8 0),(.int .u8 0),(.int .u8 0),(.int .u8 0),(.int .u8 0),(.int .u8 0),(.int .u8 0),(.int .u8 0),(.int .u8 0),(.int .u8 0),(.int .u8 0),(.int .u8 0),(.int .u8 0),(.int .i64 0),(.int .u8 0),(.int .u8 0),(.int .u8 0),(.int .u8 0),(.int .u8 0),(.int .u8 0),(.int .u8 0),(.int .u8 0),(.int .u8 0),(.int .u8 0),(.int .u8 0),(.int .u8 0),(.int .u8 0),(.int .u8 0),(.int .u8 0),(.int .u8 0),(.int .u8 0),(.int .u8 0),(.int .u8 0),(.int .u8 0),(.int .u8 0),(.int .u8 0),(.int .u8 0),(.int .u8 0),(.int .u8 0),(.int .u8 0),(.int .u8 0),(.int .u8 0),(.int .u8 0),(.int .u8 0),(.int .u8 0),(.int .u8 0),(.int .u8 0),(.int .u8 0),(.int .u8 0),(.int .u8 0),(.int .u8 0),(.int .u8 0),(.int .u8 0),(.int .u8 0),(.int .u8 0),(.int .u8 0),(.int .u8 0),(.int .u8 0),(.int .u8 0),(.int .u8 0),(.int .u8 0),(.int .u8 0),(.int .u8 0),(.int .u8 0),(.int .u8 0),(.int .u8 0),(.int .u8 0),(.int .u8 0),(.int .u8 0),(.int .u8 0),(.int .u8 0),(.int .u8 0),(.int .u8 0),(.int .u8 0),(.int .u8 0),(.int .u8 0),(.int .u8 0),(.int .u8 0)])) (fun w=>by kernel_rfl) (by kernel_rfl) rfl
theorem zr210:∃ z cs,(∀ w,(zeroValue 210).run Tryz.prog w=.ok z w)∧z.cells=cs.toArray∧∀ O ρ,R O ρ false ((.t (.pr (.pr (.pr (.ar 8 .u32) (.pr (.ar 64 .u8) (.pr .i .un))) (.pr (.ar 64 .u8) .un)) .un)):ZD).iv cs:=zero_of (z:=(.agg #[(.int .u32 0),(.int .u32 0),(.int .u32 0),(.int .u32 0),(.int .u32 0),(.int .u32 0),(.int .u32 0),(.int .u32 0),(.int .u8 0),(.int .u8 0),(.int .u8 0),(.int .u8 0),(.int .u8 0),(.int .u8 0),(.int .u8 0),(.int .u8 0),(.int .u8 0),(.int .u8 0),(.int .u8 0),(.int .u8 0),(.int .u8 0),(.int .u8 0),(.int .u8 0),(.int .u8 0),(.int .u8 0),(.int .u8 0),(.int .u8 0),(.int .u8 0),(.int .u8 0),(.int .u8 0),(.int .u8 0),(.int .u8 0),(.int .u8 0),(.int .u8 0),(.int .u8 0),(.int .u8 0),(.int .u8 0),(.int .u8 0),(.int .u8 0),(.int .u8 0),(.int .u8 0),(.int .u8 0),(.int .u8 0),(.int .u8 0),(.int .u8 0),(.int .u8 0),(.int .u8 0),(.int .u8 0),(.int .u8 0),(.int .u8 0),(.int .u8 0),(.int .u8 0),(.int .u8 0),(.int .u8 0),(.int .u8 0),(.int .u8 0),(.int .u8 0),(.int .u8 0),(.int .u8 0),(.int .u8 0),(.int .u8 0),(.int .u8 0),(.int .u8 0),(.int .u8 0),(.int .u8 0),(.int .u8 0),(.int .u8 0),(.int .u8 0),(.int .u8 0),(.int .u8 0),(.int .u8 0),(.int .u8 0),(.int .i64 0),(.int .u8 0),(.int .u8 0),(.int .u8 0),(.int .u8 0),(.int .u8 0),(.int .u8 0),(.int .u8 0),(.int .u8 0),(.int .u8 0),(.int .u8 0),(.int .u8 0),(.int .u8 0),(.int .u8 0),(.int .u8 0),(.int .u8 0),(.int .u8 0),(.int .u8 0),(.int .u8 0),(.int .u8 0),(.int .u8 0),(.int .u8 0),(.int .u8 0),(.int .u8 0),(.int .u8 0),(.int .u8 0),(.int .u8 0),(.int .u8 0),(.int .u8 0),(.int .u8 0),(.int .u8 0),(.int .u8 0),(.int .u8 0),(.int .u8 0),(.int .u8 0),(.int .u8 0),(.int .u8 0),(.int .u8 0),(.int .u8 0),(.int .u8 0),(.int .u8 0),(.int .u8 0),(.int .u8 0),(.int .u8 0),(.int .u8 0),(.int .u8 0),(.int .u8 0),(.int .u8 0),(.int .u8 0),(.int .u8 0),(.int .u8 0),(.int .u8 0),(.int .u8 0),(.int .u8 0),(.int .u8 0),(.int .u8 0),(.int .u8 0),(.int .u8 0),(.int .u8 0),(.int .u8 0),(.int .u8 0),(.int .u8 0),(.int .u8 0),(.int .u8 0),(.int .u8 0)])) (fun w=>by kernel_rfl) (by kernel_rfl) rfl
theorem zr211:∃ z cs,(∀ w,(zeroValue 211).run Tryz.prog w=.ok z w)∧z.cells=cs.toArray∧∀ O ρ,R O ρ false ((.t (.ar 16 .u32)):ZD).iv cs:=zero_of (z:=(.agg #[(.int .u32 0),(.int .u32 0),(.int .u32 0),(.int .u32 0),(.int .u32 0),(.int .u32 0),(.int .u32 0),(.int .u32 0),(.int .u32 0),(.int .u32 0),(.int .u32 0),(.int .u32 0),(.int .u32 0),(.int .u32 0),(.int .u32 0),(.int .u32 0)])) (fun w=>by kernel_rfl) (by kernel_rfl) rfl
theorem zr213:∃ z cs,(∀ w,(zeroValue 213).run Tryz.prog w=.ok z w)∧z.cells=cs.toArray∧∀ O ρ,R O ρ false ((.t (.ar 4 .i)):ZD).iv cs:=zero_of (z:=(.agg #[(.int .i64 0),(.int .i64 0),(.int .i64 0),(.int .i64 0)])) (fun w=>by kernel_rfl) (by kernel_rfl) rfl
theorem zr214:∃ z cs,(∀ w,(zeroValue 214).run Tryz.prog w=.ok z w)∧z.cells=cs.toArray∧∀ O ρ,R O ρ false ((.t (.ar 8 (.ar 4 .i))):ZD).iv cs:=zero_of (z:=(.agg (List.replicate 32 (.int .i64 0)).toArray)) (fun w=>by kernel_rfl) (by kernel_rfl) rfl
theorem zr219:∃ z cs,(∀ w,(zeroValue 219).run Tryz.prog w=.ok z w)∧z.cells=cs.toArray∧∀ O ρ,R O ρ false ((.t (.ar 16 .bo)):ZD).iv cs:=zero_of (z:=(.agg #[(.bool false),(.bool false),(.bool false),(.bool false),(.bool false),(.bool false),(.bool false),(.bool false),(.bool false),(.bool false),(.bool false),(.bool false),(.bool false),(.bool false),(.bool false),(.bool false)])) (fun w=>by kernel_rfl) (by kernel_rfl) rfl
theorem zr220:∃ z cs,(∀ w,(zeroValue 220).run Tryz.prog w=.ok z w)∧z.cells=cs.toArray∧∀ O ρ,R O ρ false ((.v (.pointer none)):ZD).iv cs:=zero_of (z:=(.pointer none)) (fun w=>by kernel_rfl) (by kernel_rfl) rfl
theorem zr224:∃ z cs,(∀ w,(zeroValue 224).run Tryz.prog w=.ok z w)∧z.cells=cs.toArray∧∀ O ρ,R O ρ false ((.pr (.v (.slice none 0 0)) (.pr (.v (.slice none 0 0)) (.pr (.t .u8) .un))):ZD).iv cs:=zero_of (z:=(.agg #[(.slice none 0 0),(.slice none 0 0),(.int .u8 0)])) (fun w=>by kernel_rfl) (by kernel_rfl) rfl
theorem zr229:∃ z cs,(∀ w,(zeroValue 229).run Tryz.prog w=.ok z w)∧z.cells=cs.toArray∧∀ O ρ,R O ρ false ((.t (.ar 16 .u8)):ZD).iv cs:=zero_of (z:=(.agg #[(.int .u8 0),(.int .u8 0),(.int .u8 0),(.int .u8 0),(.int .u8 0),(.int .u8 0),(.int .u8 0),(.int .u8 0),(.int .u8 0),(.int .u8 0),(.int .u8 0),(.int .u8 0),(.int .u8 0),(.int .u8 0),(.int .u8 0),(.int .u8 0)])) (fun w=>by kernel_rfl) (by kernel_rfl) rfl
theorem czero:∀ t v,cfg.I t=some v->∃ z cs,(∀ w,(zeroValue t).run Tryz.prog w=.ok z w)∧z.cells=cs.toArray∧∀ O ρ,R O ρ false v cs:=by
 intro t v h
 simp only [cfg] at h
 split at h<;>first | (cases h;done) | skip
 rename_i d hd
 cases h
 unfold cI at hd
 split at hd<;>first | (cases hd;done) | skip
 ·cases hd;exact zr3
 ·cases hd;exact zr4
 ·cases hd;exact zr5
 ·cases hd;exact zr9
 ·cases hd;exact zr22
 ·cases hd;exact zr23
 ·cases hd;exact zr27
 ·cases hd;exact zr28
 ·cases hd;exact zr29
 ·cases hd;exact zr38
 ·cases hd;exact zr39
 ·cases hd;exact zr40
 ·cases hd;exact zr42
 ·cases hd;exact zr45
 ·cases hd;exact zr66
 ·cases hd;exact zr67
 ·cases hd;exact zr74
 ·cases hd;exact zr79
 ·cases hd;exact zr106
 ·cases hd;exact zr109
 ·cases hd;exact zr152
 ·cases hd;exact zr163
 ·cases hd;exact zr174
 ·cases hd;exact zr190
 ·cases hd;exact zr191
 ·cases hd;exact zr193
 ·cases hd;exact zr196
 ·cases hd;exact zr198
 ·cases hd;exact zr200
 ·cases hd;exact zr206
 ·cases hd;exact zr208
 ·cases hd;exact zr210
 ·cases hd;exact zr211
 ·cases hd;exact zr213
 ·cases hd;exact zr214
 ·cases hd;exact zr219
 ·cases hd;exact zr220
 ·cases hd;exact zr224
 ·cases hd;exact zr229
theorem el22:∃ bytes z zc,EOk Tryz.prog 22 45 ((.pr .s (.pr .i (.pr .i .un))):Ty).size bytes z∧bytes≤128∧z.cells=zc.toArray∧∀ O,TR O (.pr .s (.pr .i (.pr .i .un))) ((.pr .s (.pr .i (.pr .i .un))):Ty).zero zc:=elem_of (b:=32) (z:=(.agg #[(.string ⟨#[]⟩),(.int .i64 0),(.int .i64 0)])) (eok_of Tryz.underlying22 (by kernel_rfl) (by kernel_rfl) (by decide)) (by decide) (by kernel_rfl)
theorem el23:∃ bytes z zc,EOk Tryz.prog 23 39 ((.sl .u8):Ty).size bytes z∧bytes≤128∧z.cells=zc.toArray∧∀ O,TR O (.sl .u8) ((.sl .u8):Ty).zero zc:=elem_of (b:=24) (z:=(.slice none 0 0)) (eok_of Tryz.underlying23 (by kernel_rfl) (by kernel_rfl) (by decide)) (by decide) (by kernel_rfl)
theorem el28:∃ bytes z zc,EOk Tryz.prog 28 42 ((.pr (.pr .s (.pr .i .un)) (.pr (.sl .u8) (.pr (.sl .s) .un))):Ty).size bytes z∧bytes≤128∧z.cells=zc.toArray∧∀ O,TR O (.pr (.pr .s (.pr .i .un)) (.pr (.sl .u8) (.pr (.sl .s) .un))) ((.pr (.pr .s (.pr .i .un)) (.pr (.sl .u8) (.pr (.sl .s) .un))):Ty).zero zc:=elem_of (b:=72) (z:=(.agg #[(.string ⟨#[]⟩),(.int .i64 0),(.slice none 0 0),(.slice none 0 0)])) (eok_of Tryz.underlying28 (by kernel_rfl) (by kernel_rfl) (by decide)) (by decide) (by kernel_rfl)
theorem el39:∃ bytes z zc,EOk Tryz.prog 39 5 (.u8:Ty).size bytes z∧bytes≤128∧z.cells=zc.toArray∧∀ O,TR O .u8 (.u8:Ty).zero zc:=elem_of (b:=1) (z:=(.int .u8 0)) (eok_of Tryz.underlying39 (by kernel_rfl) (by kernel_rfl) (by decide)) (by decide) (by kernel_rfl)
theorem el40:∃ bytes z zc,EOk Tryz.prog 40 9 (.s:Ty).size bytes z∧bytes≤128∧z.cells=zc.toArray∧∀ O,TR O .s (.s:Ty).zero zc:=elem_of (b:=16) (z:=(.string ⟨#[]⟩)) (eok_of Tryz.underlying40 (by kernel_rfl) (by kernel_rfl) (by decide)) (by decide) (by kernel_rfl)
theorem el74:∃ bytes z zc,EOk Tryz.prog 74 22 ((.sl (.pr .s (.pr .i (.pr .i .un)))):Ty).size bytes z∧bytes≤128∧z.cells=zc.toArray∧∀ O,TR O (.sl (.pr .s (.pr .i (.pr .i .un)))) ((.sl (.pr .s (.pr .i (.pr .i .un)))):Ty).zero zc:=elem_of (b:=24) (z:=(.slice none 0 0)) (eok_of Tryz.underlying74 (by kernel_rfl) (by kernel_rfl) (by decide)) (by decide) (by kernel_rfl)
theorem el79:∃ bytes z zc,EOk Tryz.prog 79 3 (.i:Ty).size bytes z∧bytes≤128∧z.cells=zc.toArray∧∀ O,TR O .i (.i:Ty).zero zc:=elem_of (b:=8) (z:=(.int .i64 0)) (eok_of Tryz.underlying79 (by kernel_rfl) (by kernel_rfl) (by decide)) (by decide) (by kernel_rfl)
theorem celem:∀ t e ty,cfg.D t=some (.slice e)->cfg.E e=some ty->∃ bytes z zc,EOk Tryz.prog t e ty.size bytes z∧bytes≤128∧z.cells=zc.toArray∧∀ O,TR O ty ty.zero zc:=by
 intro t e ty h k
 have h:cD t=some (.slice e):=h
 have k:cE e=some ty:=k
 unfold cD at h
 split at h<;>first | (cases h;done) | skip
 ·cases h;cases k;exact el22
 ·cases h;cases k;exact el23
 ·cases h;cases k;exact el28
 ·cases h;cases k;exact el39
 ·cases h;cases k;exact el40
 ·cases h;cases k;exact el74
 ·cases h;cases k;exact el79
theorem pl27:∃ pl:Array (Nat×Nat),(∀ w,((#[(Field.mk "ID" 9 0 false "" "" 0),(Field.mk "Vault" 3 1 false "" "" 16),(Field.mk "Block" 3 2 false "" "" 24),(Field.mk "Data" 3 3 false "" "" 32),(Field.mk "Total" 3 4 false "" "" 40),(Field.mk "Refs" 22 5 false "" "" 48)]:Array Field).mapM (m:=Sem) fun f=>do pure (f.offset,← sizeOf f.type)).run Tryz.prog w=.ok pl w)∧∀ (i:Nat) (f:Field),(#[(Field.mk "ID" 9 0 false "" "" 0),(Field.mk "Vault" 3 1 false "" "" 16),(Field.mk "Block" 3 2 false "" "" 24),(Field.mk "Data" 3 3 false "" "" 32),(Field.mk "Total" 3 4 false "" "" 40),(Field.mk "Refs" 22 5 false "" "" 48)]:Array Field)[i]? = some f->∃ z,pl[i]? = some (f.offset,z)∧cZ f.type=some z:=places_of #[(0,1),(1,1),(2,1),(3,1),(4,1),(5,1)] (fun w=>by kernel_rfl) (by kernel_rfl)
theorem pl38:∃ pl:Array (Nat×Nat),(∀ w,((#[(Field.mk "Stripe" 9 0 false "" "" 0),(Field.mk "Index" 3 1 false "" "" 16)]:Array Field).mapM (m:=Sem) fun f=>do pure (f.offset,← sizeOf f.type)).run Tryz.prog w=.ok pl w)∧∀ (i:Nat) (f:Field),(#[(Field.mk "Stripe" 9 0 false "" "" 0),(Field.mk "Index" 3 1 false "" "" 16)]:Array Field)[i]? = some f->∃ z,pl[i]? = some (f.offset,z)∧cZ f.type=some z:=places_of #[(0,1),(1,1)] (fun w=>by kernel_rfl) (by kernel_rfl)
theorem pl42:∃ pl:Array (Nat×Nat),(∀ w,((#[(Field.mk "ID" 38 0 false "" "" 0),(Field.mk "Data" 39 2 false "" "" 24),(Field.mk "Sums" 40 3 false "" "" 48)]:Array Field).mapM (m:=Sem) fun f=>do pure (f.offset,← sizeOf f.type)).run Tryz.prog w=.ok pl w)∧∀ (i:Nat) (f:Field),(#[(Field.mk "ID" 38 0 false "" "" 0),(Field.mk "Data" 39 2 false "" "" 24),(Field.mk "Sums" 40 3 false "" "" 48)]:Array Field)[i]? = some f->∃ z,pl[i]? = some (f.offset,z)∧cZ f.type=some z:=places_of #[(0,2),(2,1),(3,1)] (fun w=>by kernel_rfl) (by kernel_rfl)
theorem pl45:∃ pl:Array (Nat×Nat),(∀ w,((#[(Field.mk "Name" 9 0 false "" "" 0),(Field.mk "Gen" 3 1 false "" "" 16),(Field.mk "Size" 3 2 false "" "" 24)]:Array Field).mapM (m:=Sem) fun f=>do pure (f.offset,← sizeOf f.type)).run Tryz.prog w=.ok pl w)∧∀ (i:Nat) (f:Field),(#[(Field.mk "Name" 9 0 false "" "" 0),(Field.mk "Gen" 3 1 false "" "" 16),(Field.mk "Size" 3 2 false "" "" 24)]:Array Field)[i]? = some f->∃ z,pl[i]? = some (f.offset,z)∧cZ f.type=some z:=places_of #[(0,1),(1,1),(2,1)] (fun w=>by kernel_rfl) (by kernel_rfl)
theorem pl66:∃ pl:Array (Nat×Nat),(∀ w,((#[(Field.mk "Name" 9 0 false "" "" 0),(Field.mk "Stream" 9 1 false "" "" 16),(Field.mk "Check" 9 2 false "" "" 32),(Field.mk "Index" 9 3 false "" "" 48),(Field.mk "Token" 9 4 false "" "" 64)]:Array Field).mapM (m:=Sem) fun f=>do pure (f.offset,← sizeOf f.type)).run Tryz.prog w=.ok pl w)∧∀ (i:Nat) (f:Field),(#[(Field.mk "Name" 9 0 false "" "" 0),(Field.mk "Stream" 9 1 false "" "" 16),(Field.mk "Check" 9 2 false "" "" 32),(Field.mk "Index" 9 3 false "" "" 48),(Field.mk "Token" 9 4 false "" "" 64)]:Array Field)[i]? = some f->∃ z,pl[i]? = some (f.offset,z)∧cZ f.type=some z:=places_of #[(0,1),(1,1),(2,1),(3,1),(4,1)] (fun w=>by kernel_rfl) (by kernel_rfl)
theorem pl152:∃ pl:Array (Nat×Nat),(∀ w,((#[(Field.mk "data" 39 0 false "" "kinkeep/wire" 0),(Field.mk "offset" 3 1 false "" "kinkeep/wire" 24),(Field.mk "last" 3 2 false "" "kinkeep/wire" 32),(Field.mk "err" 29 3 false "" "kinkeep/wire" 40)]:Array Field).mapM (m:=Sem) fun f=>do pure (f.offset,← sizeOf f.type)).run Tryz.prog w=.ok pl w)∧∀ (i:Nat) (f:Field),(#[(Field.mk "data" 39 0 false "" "kinkeep/wire" 0),(Field.mk "offset" 3 1 false "" "kinkeep/wire" 24),(Field.mk "last" 3 2 false "" "kinkeep/wire" 32),(Field.mk "err" 29 3 false "" "kinkeep/wire" 40)]:Array Field)[i]? = some f->∃ z,pl[i]? = some (f.offset,z)∧cZ f.type=some z:=places_of #[(0,1),(1,1),(2,1),(3,1)] (fun w=>by kernel_rfl) (by kernel_rfl)
theorem pl193:∃ pl:Array (Nat×Nat),(∀ w,((#[(Field.mk "data" 3 0 false "" "kinkeep/reedsolomon" 0),(Field.mk "rows" 191 1 false "" "kinkeep/reedsolomon" 8)]:Array Field).mapM (m:=Sem) fun f=>do pure (f.offset,← sizeOf f.type)).run Tryz.prog w=.ok pl w)∧∀ (i:Nat) (f:Field),(#[(Field.mk "data" 3 0 false "" "kinkeep/reedsolomon" 0),(Field.mk "rows" 191 1 false "" "kinkeep/reedsolomon" 8)]:Array Field)[i]? = some f->∃ z,pl[i]? = some (f.offset,z)∧cZ f.type=some z:=places_of #[(0,1),(1,128)] (fun w=>by kernel_rfl) (by kernel_rfl)
theorem pl198:∃ pl:Array (Nat×Nat),(∀ w,((#[(Field.mk "words" 174 0 false "" "kinkeep/sha256" 0),(Field.mk "buffer" 196 8 false "" "kinkeep/sha256" 32),(Field.mk "length" 3 72 false "" "kinkeep/sha256" 96)]:Array Field).mapM (m:=Sem) fun f=>do pure (f.offset,← sizeOf f.type)).run Tryz.prog w=.ok pl w)∧∀ (i:Nat) (f:Field),(#[(Field.mk "words" 174 0 false "" "kinkeep/sha256" 0),(Field.mk "buffer" 196 8 false "" "kinkeep/sha256" 32),(Field.mk "length" 3 72 false "" "kinkeep/sha256" 96)]:Array Field)[i]? = some f->∃ z,pl[i]? = some (f.offset,z)∧cZ f.type=some z:=places_of #[(0,8),(8,64),(72,1)] (fun w=>by kernel_rfl) (by kernel_rfl)
theorem pl208:∃ pl:Array (Nat×Nat),(∀ w,((#[(Field.mk "State" 198 0 true "" "" 0),(Field.mk "outer" 196 73 false "" "kinkeep/hmac" 104)]:Array Field).mapM (m:=Sem) fun f=>do pure (f.offset,← sizeOf f.type)).run Tryz.prog w=.ok pl w)∧∀ (i:Nat) (f:Field),(#[(Field.mk "State" 198 0 true "" "" 0),(Field.mk "outer" 196 73 false "" "kinkeep/hmac" 104)]:Array Field)[i]? = some f->∃ z,pl[i]? = some (f.offset,z)∧cZ f.type=some z:=places_of #[(0,73),(73,64)] (fun w=>by kernel_rfl) (by kernel_rfl)
theorem pl210:∃ pl:Array (Nat×Nat),(∀ w,((#[(Field.mk "state" 208 0 false "" "kinkeep/hmac" 0)]:Array Field).mapM (m:=Sem) fun f=>do pure (f.offset,← sizeOf f.type)).run Tryz.prog w=.ok pl w)∧∀ (i:Nat) (f:Field),(#[(Field.mk "state" 208 0 false "" "kinkeep/hmac" 0)]:Array Field)[i]? = some f->∃ z,pl[i]? = some (f.offset,z)∧cZ f.type=some z:=places_of #[(0,137)] (fun w=>by kernel_rfl) (by kernel_rfl)
theorem pl224:∃ pl:Array (Nat×Nat),(∀ w,((#[(Field.mk "rows" 23 0 false "" "kinkeep/matrix" 0),(Field.mk "pivots" 79 1 false "" "kinkeep/matrix" 24),(Field.mk "product" 5 2 false "" "kinkeep/matrix" 48)]:Array Field).mapM (m:=Sem) fun f=>do pure (f.offset,← sizeOf f.type)).run Tryz.prog w=.ok pl w)∧∀ (i:Nat) (f:Field),(#[(Field.mk "rows" 23 0 false "" "kinkeep/matrix" 0),(Field.mk "pivots" 79 1 false "" "kinkeep/matrix" 24),(Field.mk "product" 5 2 false "" "kinkeep/matrix" 48)]:Array Field)[i]? = some f->∃ z,pl[i]? = some (f.offset,z)∧cZ f.type=some z:=places_of #[(0,1),(1,1),(2,1)] (fun w=>by kernel_rfl) (by kernel_rfl)
theorem cplaces:∀ t fs,cfg.D t=some (.struct fs)->∃ pl:Array (Nat×Nat),(∀ w,(fs.mapM (m:=Sem) fun f=>do pure (f.offset,← sizeOf f.type)).run Tryz.prog w=.ok pl w)∧∀ (i:Nat) (f:Field),fs[i]? = some f->∃ z,pl[i]? = some (f.offset,z)∧cfg.Z f.type=some z:=by
 intro t fs h
 have h:cD t=some (.struct fs):=h
 unfold cD at h
 split at h<;>first | (cases h;done) | skip
 ·cases h;exact pl27
 ·cases h;exact pl38
 ·cases h;exact pl42
 ·cases h;exact pl45
 ·cases h;exact pl66
 ·cases h;exact pl152
 ·cases h;exact pl193
 ·cases h;exact pl198
 ·cases h;exact pl208
 ·cases h;exact pl210
 ·cases h;exact pl224
theorem ceqs:∀ t fs,cfg.D t=some (.struct fs)->cfg.Q t=true->Tryz.prog.stoodInHeld t=false∧Tryz.prog.eqGuardType Tryz.prog.depth t=false∧∀ f ∈ fs.toList,f.name ≠ "_" := by
 intro t fs h k
 have h:cD t=some (.struct fs):=h
 have k:cQ t=true:=k
 unfold cD at h
 split at h<;>first | (cases h;done) | skip
 ·exact absurd k (by decide)
 ·cases h;exact ⟨by kernel_rfl,by kernel_rfl,names_of (by kernel_rfl)⟩
 ·exact absurd k (by decide)
 ·cases h;exact ⟨by kernel_rfl,by kernel_rfl,names_of (by kernel_rfl)⟩
 ·cases h;exact ⟨by kernel_rfl,by kernel_rfl,names_of (by kernel_rfl)⟩
 ·exact absurd k (by decide)
 ·exact absurd k (by decide)
 ·exact absurd k (by decide)
 ·exact absurd k (by decide)
 ·exact absurd k (by decide)
 ·exact absurd k (by decide)
theorem cone:∀ t e,cfg.D t=some (.slice e)->cfg.W e=true->∃ bytes z,EOk Tryz.prog t e 1 bytes z:=by
 intro t e h k
 have h:cD t=some (.slice e):=h
 have k:cW e=true:=k
 unfold cD at h
 split at h<;>first | (cases h;done) | skip
 ·cases h;exact absurd k (by decide)
 ·cases h;exact absurd k (by decide)
 ·cases h;exact absurd k (by decide)
 ·cases h;exact absurd k (by decide)
 ·cases h;exact absurd k (by decide)
 ·cases h;exact absurd k (by decide)
 ·cases h;exact absurd k (by decide)
theorem cmaps:∀ t kt vt,cfg.M t=some (kt,vt)->∃ k e d z,Tryz.prog.underlying t=some (.map k e)∧Tryz.prog.underlying k=some d∧keyD d kt=true∧(∀ w,(zeroValue e).run Tryz.prog w=.ok z w)∧∀ O,VR O vt vt.zero z:=by
 intro t kt vt h
 have h:cM t=some (kt,vt):=h
 unfold cM at h
 split at h<;>first | (cases h;done) | skip
 ·cases h;exact ⟨3,3,_,(.int .i64 0),Tryz.underlying125,Tryz.underlying3,rfl,fun w=>by kernel_rfl,vzero_ok rfl⟩
 ·cases h;exact ⟨9,4,_,(.bool false),Tryz.underlying127,Tryz.underlying9,rfl,fun w=>by kernel_rfl,vzero_ok rfl⟩
theorem cok:COk Tryz.prog cfg:=⟨tok,czero,celem,cplaces,ceqs,cone,cmaps,fun _ _ _ _ h=>by cases h⟩
def cR:Nat->Option (Nat×Ty)
 | 22=>some (45,(.pr .s (.pr .i (.pr .i .un))))
 | 39=>some (5,.u8)
 | _=>none
def cfgR:Cfg:=⟨cD,cZ,fun t=>match cI t with | some d=>some d.iv | none=>none,cE,cG,cQ,cV,cW,cM,cR⟩
theorem crows:∀ t e p,cfgR.D t=some (.slice e)->cfgR.R e=some p->∃ bytes,EOk Tryz.prog t e 1 bytes (.slice none 0 0)∧bytes≤128:=by
 intro t e p h k
 have h:cD t=some (.slice e):=h
 have k:cR e=some p:=k
 unfold cD at h
 split at h<;>first | (cases h;done) | skip
 ·cases h;exact absurd k (by simp [cR])
 ·cases h;exact ⟨24,eok_of Tryz.underlying23 (by kernel_rfl) (by kernel_rfl) (by decide),by decide⟩
 ·cases h;exact absurd k (by simp [cR])
 ·cases h;exact absurd k (by simp [cR])
 ·cases h;exact absurd k (by simp [cR])
 ·cases h;exact ⟨24,eok_of Tryz.underlying74 (by kernel_rfl) (by kernel_rfl) (by decide),by decide⟩
 ·cases h;exact absurd k (by simp [cR])
theorem cokR:COk Tryz.prog cfgR:=⟨tok,czero,celem,cplaces,ceqs,cone,cmaps,crows⟩
theorem mixed:Tryz.prog.follows .mixedOrders=true:=by kernel_rfl
def bodyOf (f:Func):Code:=match f.body with
 | some c=>c
 | none=>.skip
end Go.Proofs.YtpnhgldpeiogbaaGreatDoor
