/- What is known of the types. -/
import Derived.Test.YthikoaamigiceaaGreatDoorProg
import Derived.Test.YthikoaamigiceaaGreatDoorRR1
namespace Go.Proofs.YthikoaamigiceaaGreatDoor
open Go.Tw
set_option maxRecDepth 100000
set_option linter.unusedSimpArgs false
set_option linter.unusedVariables false
def cD:Nat->Option TypeDesc
 | 3=>some (TypeDesc.int IntKind.i64)
 | 4=>some TypeDesc.bool
 | 5=>some (TypeDesc.int IntKind.u8)
 | 9=>some TypeDesc.string
 | 22=>some (TypeDesc.slice 3)
 | 23=>some (TypeDesc.slice 90)
 | 24=>some (TypeDesc.slice 61)
 | 25=>some (TypeDesc.slice 88)
 | 27=>some (TypeDesc.struct #[(Field.mk "Vault" 3 0 false "" "" 0),(Field.mk "Rotation" 3 1 false "" "" 8),(Field.mk "Vector" 22 2 false "" "" 16),(Field.mk "Snapshots" 23 3 false "" "" 40),(Field.mk "Stripes" 24 4 false "" "" 64),(Field.mk "Generations" 25 5 false "" "" 88)])
 | 31=>some (TypeDesc.struct #[(Field.mk "Name" 9 0 false "" "" 0),(Field.mk "Stream" 9 1 false "" "" 16),(Field.mk "Check" 9 2 false "" "" 32),(Field.mk "Index" 9 3 false "" "" 48),(Field.mk "Token" 9 4 false "" "" 64)])
 | 32=>some (TypeDesc.int IntKind.i64)
 | 36=>some (TypeDesc.slice 5)
 | 40=>some (TypeDesc.slice 59)
 | 59=>some (TypeDesc.struct #[(Field.mk "X" 3 0 false "" "" 0),(Field.mk "Data" 36 1 false "" "" 8)])
 | 61=>some (TypeDesc.struct #[(Field.mk "ID" 9 0 false "" "" 0),(Field.mk "Vault" 3 1 false "" "" 16),(Field.mk "Block" 3 2 false "" "" 24),(Field.mk "Data" 3 3 false "" "" 32),(Field.mk "Total" 3 4 false "" "" 40),(Field.mk "Refs" 25 5 false "" "" 48)])
 | 62=>some (TypeDesc.array 5 9)
 | 63=>some (TypeDesc.pointer 9)
 | 64=>some (TypeDesc.slice 63)
 | 74=>some (TypeDesc.array 13 4)
 | 75=>some (TypeDesc.func #[40,3] #[9,4] false)
 | 81=>some (TypeDesc.pointer 166)
 | 88=>some (TypeDesc.struct #[(Field.mk "Name" 9 0 false "" "" 0),(Field.mk "Gen" 3 1 false "" "" 16),(Field.mk "Size" 3 2 false "" "" 24)])
 | 90=>some (TypeDesc.struct #[(Field.mk "Writer" 3 0 false "" "" 0),(Field.mk "Seq" 3 1 false "" "" 8),(Field.mk "Day" 3 2 false "" "" 16),(Field.mk "Root" 88 3 false "" "" 24),(Field.mk "Files" 3 6 false "" "" 56),(Field.mk "Bytes" 3 7 false "" "" 64),(Field.mk "Previous" 9 8 false "" "" 72),(Field.mk "Hold" 4 9 false "" "" 88)])
 | 95=>some (TypeDesc.func #[88] #[] false)
 | 100=>some (TypeDesc.int IntKind.u64)
 | 102=>some (TypeDesc.struct #[(Field.mk "Kind" 3 0 false "" "" 0),(Field.mk "U" 100 1 false "" "" 8),(Field.mk "N" 3 2 false "" "" 16),(Field.mk "B" 4 3 false "" "" 24),(Field.mk "S" 9 4 false "" "" 32),(Field.mk "Most" 3 5 false "" "" 48)])
 | 104=>some (TypeDesc.slice 102)
 | 108=>some (TypeDesc.pointer 171)
 | 111=>some (TypeDesc.pointer 3)
 | 121=>some (TypeDesc.func #[118] #[] false)
 | 130=>some (TypeDesc.struct #[(Field.mk "B" 36 0 false "" "" 0),(Field.mk "At" 3 1 false "" "" 24),(Field.mk "Last" 3 2 false "" "" 32),(Field.mk "E" 32 3 false "" "" 40)])
 | 132=>some (TypeDesc.struct #[(Field.mk "r" 130 0 false "" "kinkeep/kinkeepref31" 0)])
 | 141=>some (TypeDesc.slice 36)
 | 148=>some (TypeDesc.slice 9)
 | 155=>some (TypeDesc.int IntKind.u32)
 | 158=>some (TypeDesc.slice 36)
 | 166=>some (TypeDesc.struct #[(Field.mk "data" 36 0 false "" "kinkeep/wire" 0),(Field.mk "err" 32 1 false "" "kinkeep/wire" 24)])
 | 171=>some (TypeDesc.struct #[(Field.mk "data" 36 0 false "" "kinkeep/wire" 0),(Field.mk "offset" 3 1 false "" "kinkeep/wire" 24),(Field.mk "last" 3 2 false "" "kinkeep/wire" 32),(Field.mk "err" 32 3 false "" "kinkeep/wire" 40)])
 | 172=>some (TypeDesc.slice 111)
 | 192=>some (TypeDesc.array 8 155)
 | 194=>some (TypeDesc.int IntKind.u64)
 | 195=>some (TypeDesc.array 16 155)
 | 197=>some (TypeDesc.array 4 3)
 | 198=>some (TypeDesc.array 8 197)
 | 211=>some (TypeDesc.array 256 4)
 | 217=>some (TypeDesc.slice 141)
 | 220=>some (TypeDesc.array 64 5)
 | 223=>some (TypeDesc.struct #[(Field.mk "words" 192 0 false "" "kinkeep/sha256" 0),(Field.mk "buffer" 220 8 false "" "kinkeep/sha256" 32),(Field.mk "length" 3 72 false "" "kinkeep/sha256" 96)])
 | 226=>some (TypeDesc.array 2 5)
 | 228=>some (TypeDesc.struct #[(Field.mk "State" 223 0 true "" "" 0),(Field.mk "outer" 220 73 false "" "kinkeep/hmac" 104)])
 | 230=>some (TypeDesc.struct #[(Field.mk "state" 228 0 false "" "kinkeep/hmac" 0)])
 | 231=>some (TypeDesc.array 64 155)
 | 248=>some (TypeDesc.array 16 5)
 | _=>none
def cZ:Nat->Option Nat
 | 3=>some 1
 | 4=>some 1
 | 5=>some 1
 | 9=>some 1
 | 22=>some 1
 | 23=>some 1
 | 24=>some 1
 | 25=>some 1
 | 27=>some 6
 | 31=>some 5
 | 32=>some 1
 | 36=>some 1
 | 40=>some 1
 | 59=>some 2
 | 61=>some 6
 | 62=>some 5
 | 63=>some 1
 | 64=>some 1
 | 74=>some 13
 | 75=>some 1
 | 81=>some 1
 | 88=>some 3
 | 90=>some 10
 | 95=>some 1
 | 100=>some 1
 | 102=>some 6
 | 104=>some 1
 | 108=>some 1
 | 111=>some 1
 | 121=>some 1
 | 130=>some 4
 | 132=>some 4
 | 141=>some 1
 | 148=>some 1
 | 155=>some 1
 | 158=>some 1
 | 166=>some 2
 | 171=>some 4
 | 172=>some 1
 | 192=>some 8
 | 194=>some 1
 | 195=>some 16
 | 197=>some 4
 | 198=>some 32
 | 211=>some 256
 | 217=>some 1
 | 220=>some 64
 | 223=>some 73
 | 226=>some 2
 | 228=>some 137
 | 230=>some 137
 | 231=>some 64
 | 248=>some 16
 | _=>none
def cI:Nat->Option ZD
 | 3=>some (.t .i)
 | 4=>some (.t .bo)
 | 5=>some (.t .u8)
 | 9=>some (.t .s)
 | 22=>some (.t (.sl .i))
 | 23=>some (.t (.sl (.pr .i (.pr .i (.pr .i (.pr (.pr .s (.pr .i (.pr .i .un))) (.pr .i (.pr .i (.pr .s (.pr .bo .un))))))))))
 | 24=>some (.t (.sl (.pr .s (.pr .i (.pr .i (.pr .i (.pr .i (.pr (.sl (.pr .s (.pr .i (.pr .i .un)))) .un))))))))
 | 25=>some (.t (.sl (.pr .s (.pr .i (.pr .i .un)))))
 | 27=>some (.pr (.t .i) (.pr (.t .i) (.pr (.v (.slice none 0 0)) (.pr (.v (.slice none 0 0)) (.pr (.v (.slice none 0 0)) (.pr (.v (.slice none 0 0)) .un))))))
 | 31=>some (.t (.pr .s (.pr .s (.pr .s (.pr .s (.pr .s .un))))))
 | 32=>some (.t .i)
 | 36=>some (.t (.sl .u8))
 | 40=>some (.t (.sl (.pr .i (.pr (.sl .u8) .un))))
 | 59=>some (.pr (.t .i) (.pr (.v (.slice none 0 0)) .un))
 | 61=>some (.t (.pr .s (.pr .i (.pr .i (.pr .i (.pr .i (.pr (.sl (.pr .s (.pr .i (.pr .i .un)))) .un)))))))
 | 62=>some (.t (.ar 5 .s))
 | 63=>some (.v (.pointer none))
 | 64=>some (.v (.slice none 0 0))
 | 74=>some (.t (.ar 13 .bo))
 | 75=>some (.v .nilFunc)
 | 81=>some (.v (.pointer none))
 | 88=>some (.t (.pr .s (.pr .i (.pr .i .un))))
 | 90=>some (.t (.pr .i (.pr .i (.pr .i (.pr (.pr .s (.pr .i (.pr .i .un))) (.pr .i (.pr .i (.pr .s (.pr .bo .un)))))))))
 | 95=>some (.v .nilFunc)
 | 100=>some (.t .u64)
 | 102=>some (.t (.pr .i (.pr .u64 (.pr .i (.pr .bo (.pr .s (.pr .i .un)))))))
 | 104=>some (.t (.sl (.pr .i (.pr .u64 (.pr .i (.pr .bo (.pr .s (.pr .i .un))))))))
 | 108=>some (.v (.pointer none))
 | 111=>some (.v (.pointer none))
 | 121=>some (.v .nilFunc)
 | 130=>some (.t (.pr (.sl .u8) (.pr .i (.pr .i (.pr .i .un)))))
 | 132=>some (.t (.pr (.pr (.sl .u8) (.pr .i (.pr .i (.pr .i .un)))) .un))
 | 141=>some (.v (.slice none 0 0))
 | 148=>some (.t (.sl .s))
 | 155=>some (.t .u32)
 | 158=>some (.t (.sl (.sl .u8)))
 | 166=>some (.pr (.v (.slice none 0 0)) (.pr (.t .i) .un))
 | 171=>some (.t (.pr (.sl .u8) (.pr .i (.pr .i (.pr .i .un)))))
 | 172=>some (.v (.slice none 0 0))
 | 192=>some (.t (.ar 8 .u32))
 | 194=>some (.t .u64)
 | 195=>some (.t (.ar 16 .u32))
 | 197=>some (.t (.ar 4 .i))
 | 198=>some (.t (.ar 8 (.ar 4 .i)))
 | 211=>some (.t (.ar 256 .bo))
 | 217=>some (.t (.sl (.sl (.sl .u8))))
 | 220=>some (.t (.ar 64 .u8))
 | 223=>some (.t (.pr (.ar 8 .u32) (.pr (.ar 64 .u8) (.pr .i .un))))
 | 226=>some (.t (.ar 2 .u8))
 | 228=>some (.t (.pr (.pr (.ar 8 .u32) (.pr (.ar 64 .u8) (.pr .i .un))) (.pr (.ar 64 .u8) .un)))
 | 230=>some (.t (.pr (.pr (.pr (.ar 8 .u32) (.pr (.ar 64 .u8) (.pr .i .un))) (.pr (.ar 64 .u8) .un)) .un))
 | 231=>some (.t (.ar 64 .u32))
 | 248=>some (.t (.ar 16 .u8))
 | _=>none
def cE:Nat->Option Ty
 | 3=>some .i
 | 5=>some .u8
 | 9=>some .s
 | 36=>some (.sl .u8)
 | 59=>some (.pr .i (.pr (.sl .u8) .un))
 | 61=>some (.pr .s (.pr .i (.pr .i (.pr .i (.pr .i (.pr (.sl (.pr .s (.pr .i (.pr .i .un)))) .un))))))
 | 88=>some (.pr .s (.pr .i (.pr .i .un)))
 | 90=>some (.pr .i (.pr .i (.pr .i (.pr (.pr .s (.pr .i (.pr .i .un))) (.pr .i (.pr .i (.pr .s (.pr .bo .un))))))))
 | 102=>some (.pr .i (.pr .u64 (.pr .i (.pr .bo (.pr .s (.pr .i .un))))))
 | 141=>some (.sl (.sl .u8))
 | _=>none
def gv0:Vector UInt8 2:=#v[54,92]
def gv1:Vector UInt32 8:=#v[1779033703,3144134277,1013904242,2773480762,1359893119,2600822924,528734635,1541459225]
def gv2:Vector UInt32 64:=#v[1116352408,1899447441,3049323471,3921009573,961987163,1508970993,2453635748,2870763221,3624381080,310598401,607225278,1426881987,1925078388,2162078206,2614888103,3248222580,3835390401,4022224774,264347078,604807628,770255983,1249150122,1555081692,1996064986,2554220882,2821834349,2952996808,3210313671,3336571891,3584528711,113926993,338241895,666307205,773529912,1294757372,1396182291,1695183700,1986661051,2177026350,2456956037,2730485921,2820302411,3259730800,3345764771,3516065817,3600352804,4094571909,275423344,430227734,506948616,659060556,883997877,958139571,1322822218,1537002063,1747873779,1955562222,2024104815,2227730452,2361852424,2428436474,2756734187,3204031479,3329325298]
def cG:Nat->Option ((t:Ty)×t.den)
 | 0=>some ⟨(.ar 2 .u8),(gv0:Ty.den (.ar 2 .u8))⟩
 | 1=>some ⟨(.ar 8 .u32),(gv1:Ty.den (.ar 8 .u32))⟩
 | 2=>some ⟨(.ar 64 .u32),(gv2:Ty.den (.ar 64 .u32))⟩
 | _=>none
def cV:Nat->Bool
 | _=>false
def cW:Nat->Bool
 | 63=>true
 | 111=>true
 | _=>false
def cM:Nat->Option (Ty×Ty)
 | _=>none
def cQ:Nat->Bool
 | 31=>true
 | 88=>true
 | 102=>true
 | _=>false
def cfg:Cfg:=⟨cD,cZ,fun t=>match cI t with | some d=>some d.iv | none=>none,cE,cG,cQ,cV,cW,cM⟩
theorem tok:TOk Tryz.prog cD cZ:=⟨fun t d h=>by
 unfold cD at h
 split at h<;>first | (cases h;done) | skip
 ·cases h;exact Tryz.underlying3
 ·cases h;exact Tryz.underlying4
 ·cases h;exact Tryz.underlying5
 ·cases h;exact Tryz.underlying9
 ·cases h;exact Tryz.underlying22
 ·cases h;exact Tryz.underlying23
 ·cases h;exact Tryz.underlying24
 ·cases h;exact Tryz.underlying25
 ·cases h;exact Tryz.underlying27
 ·cases h;exact Tryz.underlying31
 ·cases h;exact Tryz.underlying32
 ·cases h;exact Tryz.underlying36
 ·cases h;exact Tryz.underlying40
 ·cases h;exact Tryz.underlying59
 ·cases h;exact Tryz.underlying61
 ·cases h;exact Tryz.underlying62
 ·cases h;exact Tryz.underlying63
 ·cases h;exact Tryz.underlying64
 ·cases h;exact Tryz.underlying74
 ·cases h;exact Tryz.underlying75
 ·cases h;exact Tryz.underlying81
 ·cases h;exact Tryz.underlying88
 ·cases h;exact Tryz.underlying90
 ·cases h;exact Tryz.underlying95
 ·cases h;exact Tryz.underlying100
 ·cases h;exact Tryz.underlying102
 ·cases h;exact Tryz.underlying104
 ·cases h;exact Tryz.underlying108
 ·cases h;exact Tryz.underlying111
 ·cases h;exact Tryz.underlying121
 ·cases h;exact Tryz.underlying130
 ·cases h;exact Tryz.underlying132
 ·cases h;exact Tryz.underlying141
 ·cases h;exact Tryz.underlying148
 ·cases h;exact Tryz.underlying155
 ·cases h;exact Tryz.underlying158
 ·cases h;exact Tryz.underlying166
 ·cases h;exact Tryz.underlying171
 ·cases h;exact Tryz.underlying172
 ·cases h;exact Tryz.underlying192
 ·cases h;exact Tryz.underlying194
 ·cases h;exact Tryz.underlying195
 ·cases h;exact Tryz.underlying197
 ·cases h;exact Tryz.underlying198
 ·cases h;exact Tryz.underlying211
 ·cases h;exact Tryz.underlying217
 ·cases h;exact Tryz.underlying220
 ·cases h;exact Tryz.underlying223
 ·cases h;exact Tryz.underlying226
 ·cases h;exact Tryz.underlying228
 ·cases h;exact Tryz.underlying230
 ·cases h;exact Tryz.underlying231
 ·cases h;exact Tryz.underlying248
 , fun t n h=>by
 unfold cZ at h
 split at h<;>first | (cases h;done) | skip
 ·cases h;exact fun w=>by kernel_rfl
 ·cases h;exact fun w=>by kernel_rfl
 ·cases h;exact fun w=>by kernel_rfl
 ·cases h;exact fun w=>by kernel_rfl
 ·cases h;exact fun w=>by kernel_rfl
 ·cases h;exact fun w=>by kernel_rfl
 ·cases h;exact fun w=>by kernel_rfl
 ·cases h;exact fun w=>by kernel_rfl
 ·cases h;exact fun w=>by kernel_rfl
 ·cases h;exact fun w=>by kernel_rfl
 ·cases h;exact fun w=>by kernel_rfl
 ·cases h;exact fun w=>by kernel_rfl
 ·cases h;exact fun w=>by kernel_rfl
 ·cases h;exact fun w=>by kernel_rfl
 ·cases h;exact fun w=>by kernel_rfl
 ·cases h;exact fun w=>by kernel_rfl
 ·cases h;exact fun w=>by kernel_rfl
 ·cases h;exact fun w=>by kernel_rfl
 ·cases h;exact fun w=>by kernel_rfl
 ·cases h;exact fun w=>by kernel_rfl
 ·cases h;exact fun w=>by kernel_rfl
 ·cases h;exact fun w=>by kernel_rfl
 ·cases h;exact fun w=>by kernel_rfl
 ·cases h;exact fun w=>by kernel_rfl
 ·cases h;exact fun w=>by kernel_rfl
 ·cases h;exact fun w=>by kernel_rfl
 ·cases h;exact fun w=>by kernel_rfl
 ·cases h;exact fun w=>by kernel_rfl
 ·cases h;exact fun w=>by kernel_rfl
 ·cases h;exact fun w=>by kernel_rfl
 ·cases h;exact fun w=>by kernel_rfl
 ·cases h;exact fun w=>by kernel_rfl
 ·cases h;exact fun w=>by kernel_rfl
 ·cases h;exact fun w=>by kernel_rfl
 ·cases h;exact fun w=>by kernel_rfl
 ·cases h;exact fun w=>by kernel_rfl
 ·cases h;exact fun w=>by kernel_rfl
 ·cases h;exact fun w=>by kernel_rfl
 ·cases h;exact fun w=>by kernel_rfl
 ·cases h;exact fun w=>by kernel_rfl
 ·cases h;exact fun w=>by kernel_rfl
 ·cases h;exact fun w=>by kernel_rfl
 ·cases h;exact fun w=>by kernel_rfl
 ·cases h;exact fun w=>by kernel_rfl
 ·cases h;exact fun w=>by kernel_rfl
 ·cases h;exact fun w=>by kernel_rfl
 ·cases h;exact fun w=>by kernel_rfl
 ·cases h;exact fun w=>by kernel_rfl
 ·cases h;exact fun w=>by kernel_rfl
 ·cases h;exact fun w=>by kernel_rfl
 ·cases h;exact fun w=>by kernel_rfl
 ·cases h;exact fun w=>by kernel_rfl
 ·cases h;exact fun w=>by kernel_rfl
⟩
theorem zr3:∃ z cs,(∀ w,(zeroValue 3).run Tryz.prog w=.ok z w)∧z.cells=cs.toArray∧∀ O ρ,R O ρ false ((.t .i):ZD).iv cs:=zero_of (z:=(.int .i64 0)) (fun w=>by kernel_rfl) (by kernel_rfl) rfl
theorem zr4:∃ z cs,(∀ w,(zeroValue 4).run Tryz.prog w=.ok z w)∧z.cells=cs.toArray∧∀ O ρ,R O ρ false ((.t .bo):ZD).iv cs:=zero_of (z:=(.bool false)) (fun w=>by kernel_rfl) (by kernel_rfl) rfl
theorem zr5:∃ z cs,(∀ w,(zeroValue 5).run Tryz.prog w=.ok z w)∧z.cells=cs.toArray∧∀ O ρ,R O ρ false ((.t .u8):ZD).iv cs:=zero_of (z:=(.int .u8 0)) (fun w=>by kernel_rfl) (by kernel_rfl) rfl
theorem zr9:∃ z cs,(∀ w,(zeroValue 9).run Tryz.prog w=.ok z w)∧z.cells=cs.toArray∧∀ O ρ,R O ρ false ((.t .s):ZD).iv cs:=zero_of (z:=(.string ⟨#[]⟩)) (fun w=>by kernel_rfl) (by kernel_rfl) rfl
theorem zr22:∃ z cs,(∀ w,(zeroValue 22).run Tryz.prog w=.ok z w)∧z.cells=cs.toArray∧∀ O ρ,R O ρ false ((.t (.sl .i)):ZD).iv cs:=zero_of (z:=(.slice none 0 0)) (fun w=>by kernel_rfl) (by kernel_rfl) rfl
theorem zr23:∃ z cs,(∀ w,(zeroValue 23).run Tryz.prog w=.ok z w)∧z.cells=cs.toArray∧∀ O ρ,R O ρ false ((.t (.sl (.pr .i (.pr .i (.pr .i (.pr (.pr .s (.pr .i (.pr .i .un))) (.pr .i (.pr .i (.pr .s (.pr .bo .un)))))))))):ZD).iv cs:=zero_of (z:=(.slice none 0 0)) (fun w=>by kernel_rfl) (by kernel_rfl) rfl
theorem zr24:∃ z cs,(∀ w,(zeroValue 24).run Tryz.prog w=.ok z w)∧z.cells=cs.toArray∧∀ O ρ,R O ρ false ((.t (.sl (.pr .s (.pr .i (.pr .i (.pr .i (.pr .i (.pr (.sl (.pr .s (.pr .i (.pr .i .un)))) .un)))))))):ZD).iv cs:=zero_of (z:=(.slice none 0 0)) (fun w=>by kernel_rfl) (by kernel_rfl) rfl
theorem zr25:∃ z cs,(∀ w,(zeroValue 25).run Tryz.prog w=.ok z w)∧z.cells=cs.toArray∧∀ O ρ,R O ρ false ((.t (.sl (.pr .s (.pr .i (.pr .i .un))))):ZD).iv cs:=zero_of (z:=(.slice none 0 0)) (fun w=>by kernel_rfl) (by kernel_rfl) rfl
theorem zr27:∃ z cs,(∀ w,(zeroValue 27).run Tryz.prog w=.ok z w)∧z.cells=cs.toArray∧∀ O ρ,R O ρ false ((.pr (.t .i) (.pr (.t .i) (.pr (.v (.slice none 0 0)) (.pr (.v (.slice none 0 0)) (.pr (.v (.slice none 0 0)) (.pr (.v (.slice none 0 0)) .un)))))):ZD).iv cs:=zero_of (z:=(.agg #[(.int .i64 0),(.int .i64 0),(.slice none 0 0),(.slice none 0 0),(.slice none 0 0),(.slice none 0 0)])) (fun w=>by kernel_rfl) (by kernel_rfl) rfl
theorem zr31:∃ z cs,(∀ w,(zeroValue 31).run Tryz.prog w=.ok z w)∧z.cells=cs.toArray∧∀ O ρ,R O ρ false ((.t (.pr .s (.pr .s (.pr .s (.pr .s (.pr .s .un)))))):ZD).iv cs:=zero_of (z:=(.agg #[(.string ⟨#[]⟩),(.string ⟨#[]⟩),(.string ⟨#[]⟩),(.string ⟨#[]⟩),(.string ⟨#[]⟩)])) (fun w=>by kernel_rfl) (by kernel_rfl) rfl
theorem zr32:∃ z cs,(∀ w,(zeroValue 32).run Tryz.prog w=.ok z w)∧z.cells=cs.toArray∧∀ O ρ,R O ρ false ((.t .i):ZD).iv cs:=zero_of (z:=(.int .i64 0)) (fun w=>by kernel_rfl) (by kernel_rfl) rfl
theorem zr36:∃ z cs,(∀ w,(zeroValue 36).run Tryz.prog w=.ok z w)∧z.cells=cs.toArray∧∀ O ρ,R O ρ false ((.t (.sl .u8)):ZD).iv cs:=zero_of (z:=(.slice none 0 0)) (fun w=>by kernel_rfl) (by kernel_rfl) rfl
theorem zr40:∃ z cs,(∀ w,(zeroValue 40).run Tryz.prog w=.ok z w)∧z.cells=cs.toArray∧∀ O ρ,R O ρ false ((.t (.sl (.pr .i (.pr (.sl .u8) .un)))):ZD).iv cs:=zero_of (z:=(.slice none 0 0)) (fun w=>by kernel_rfl) (by kernel_rfl) rfl
theorem zr59:∃ z cs,(∀ w,(zeroValue 59).run Tryz.prog w=.ok z w)∧z.cells=cs.toArray∧∀ O ρ,R O ρ false ((.pr (.t .i) (.pr (.v (.slice none 0 0)) .un)):ZD).iv cs:=zero_of (z:=(.agg #[(.int .i64 0),(.slice none 0 0)])) (fun w=>by kernel_rfl) (by kernel_rfl) rfl
theorem zr61:∃ z cs,(∀ w,(zeroValue 61).run Tryz.prog w=.ok z w)∧z.cells=cs.toArray∧∀ O ρ,R O ρ false ((.t (.pr .s (.pr .i (.pr .i (.pr .i (.pr .i (.pr (.sl (.pr .s (.pr .i (.pr .i .un)))) .un))))))):ZD).iv cs:=zero_of (z:=(.agg #[(.string ⟨#[]⟩),(.int .i64 0),(.int .i64 0),(.int .i64 0),(.int .i64 0),(.slice none 0 0)])) (fun w=>by kernel_rfl) (by kernel_rfl) rfl
theorem zr62:∃ z cs,(∀ w,(zeroValue 62).run Tryz.prog w=.ok z w)∧z.cells=cs.toArray∧∀ O ρ,R O ρ false ((.t (.ar 5 .s)):ZD).iv cs:=zero_of (z:=(.agg #[(.string ⟨#[]⟩),(.string ⟨#[]⟩),(.string ⟨#[]⟩),(.string ⟨#[]⟩),(.string ⟨#[]⟩)])) (fun w=>by kernel_rfl) (by kernel_rfl) rfl
theorem zr63:∃ z cs,(∀ w,(zeroValue 63).run Tryz.prog w=.ok z w)∧z.cells=cs.toArray∧∀ O ρ,R O ρ false ((.v (.pointer none)):ZD).iv cs:=zero_of (z:=(.pointer none)) (fun w=>by kernel_rfl) (by kernel_rfl) rfl
theorem zr64:∃ z cs,(∀ w,(zeroValue 64).run Tryz.prog w=.ok z w)∧z.cells=cs.toArray∧∀ O ρ,R O ρ false ((.v (.slice none 0 0)):ZD).iv cs:=zero_of (z:=(.slice none 0 0)) (fun w=>by kernel_rfl) (by kernel_rfl) rfl
theorem zr74:∃ z cs,(∀ w,(zeroValue 74).run Tryz.prog w=.ok z w)∧z.cells=cs.toArray∧∀ O ρ,R O ρ false ((.t (.ar 13 .bo)):ZD).iv cs:=zero_of (z:=(.agg #[(.bool false),(.bool false),(.bool false),(.bool false),(.bool false),(.bool false),(.bool false),(.bool false),(.bool false),(.bool false),(.bool false),(.bool false),(.bool false)])) (fun w=>by kernel_rfl) (by kernel_rfl) rfl
theorem zr75:∃ z cs,(∀ w,(zeroValue 75).run Tryz.prog w=.ok z w)∧z.cells=cs.toArray∧∀ O ρ,R O ρ false ((.v .nilFunc):ZD).iv cs:=zero_of (z:=.nilFunc) (fun w=>by kernel_rfl) (by kernel_rfl) rfl
theorem zr81:∃ z cs,(∀ w,(zeroValue 81).run Tryz.prog w=.ok z w)∧z.cells=cs.toArray∧∀ O ρ,R O ρ false ((.v (.pointer none)):ZD).iv cs:=zero_of (z:=(.pointer none)) (fun w=>by kernel_rfl) (by kernel_rfl) rfl
theorem zr88:∃ z cs,(∀ w,(zeroValue 88).run Tryz.prog w=.ok z w)∧z.cells=cs.toArray∧∀ O ρ,R O ρ false ((.t (.pr .s (.pr .i (.pr .i .un)))):ZD).iv cs:=zero_of (z:=(.agg #[(.string ⟨#[]⟩),(.int .i64 0),(.int .i64 0)])) (fun w=>by kernel_rfl) (by kernel_rfl) rfl
theorem zr90:∃ z cs,(∀ w,(zeroValue 90).run Tryz.prog w=.ok z w)∧z.cells=cs.toArray∧∀ O ρ,R O ρ false ((.t (.pr .i (.pr .i (.pr .i (.pr (.pr .s (.pr .i (.pr .i .un))) (.pr .i (.pr .i (.pr .s (.pr .bo .un))))))))):ZD).iv cs:=zero_of (z:=(.agg #[(.int .i64 0),(.int .i64 0),(.int .i64 0),(.string ⟨#[]⟩),(.int .i64 0),(.int .i64 0),(.int .i64 0),(.int .i64 0),(.string ⟨#[]⟩),(.bool false)])) (fun w=>by kernel_rfl) (by kernel_rfl) rfl
theorem zr95:∃ z cs,(∀ w,(zeroValue 95).run Tryz.prog w=.ok z w)∧z.cells=cs.toArray∧∀ O ρ,R O ρ false ((.v .nilFunc):ZD).iv cs:=zero_of (z:=.nilFunc) (fun w=>by kernel_rfl) (by kernel_rfl) rfl
theorem zr100:∃ z cs,(∀ w,(zeroValue 100).run Tryz.prog w=.ok z w)∧z.cells=cs.toArray∧∀ O ρ,R O ρ false ((.t .u64):ZD).iv cs:=zero_of (z:=(.int .u64 0)) (fun w=>by kernel_rfl) (by kernel_rfl) rfl
theorem zr102:∃ z cs,(∀ w,(zeroValue 102).run Tryz.prog w=.ok z w)∧z.cells=cs.toArray∧∀ O ρ,R O ρ false ((.t (.pr .i (.pr .u64 (.pr .i (.pr .bo (.pr .s (.pr .i .un))))))):ZD).iv cs:=zero_of (z:=(.agg #[(.int .i64 0),(.int .u64 0),(.int .i64 0),(.bool false),(.string ⟨#[]⟩),(.int .i64 0)])) (fun w=>by kernel_rfl) (by kernel_rfl) rfl
theorem zr104:∃ z cs,(∀ w,(zeroValue 104).run Tryz.prog w=.ok z w)∧z.cells=cs.toArray∧∀ O ρ,R O ρ false ((.t (.sl (.pr .i (.pr .u64 (.pr .i (.pr .bo (.pr .s (.pr .i .un)))))))):ZD).iv cs:=zero_of (z:=(.slice none 0 0)) (fun w=>by kernel_rfl) (by kernel_rfl) rfl
theorem zr108:∃ z cs,(∀ w,(zeroValue 108).run Tryz.prog w=.ok z w)∧z.cells=cs.toArray∧∀ O ρ,R O ρ false ((.v (.pointer none)):ZD).iv cs:=zero_of (z:=(.pointer none)) (fun w=>by kernel_rfl) (by kernel_rfl) rfl
theorem zr111:∃ z cs,(∀ w,(zeroValue 111).run Tryz.prog w=.ok z w)∧z.cells=cs.toArray∧∀ O ρ,R O ρ false ((.v (.pointer none)):ZD).iv cs:=zero_of (z:=(.pointer none)) (fun w=>by kernel_rfl) (by kernel_rfl) rfl
theorem zr121:∃ z cs,(∀ w,(zeroValue 121).run Tryz.prog w=.ok z w)∧z.cells=cs.toArray∧∀ O ρ,R O ρ false ((.v .nilFunc):ZD).iv cs:=zero_of (z:=.nilFunc) (fun w=>by kernel_rfl) (by kernel_rfl) rfl
theorem zr130:∃ z cs,(∀ w,(zeroValue 130).run Tryz.prog w=.ok z w)∧z.cells=cs.toArray∧∀ O ρ,R O ρ false ((.t (.pr (.sl .u8) (.pr .i (.pr .i (.pr .i .un))))):ZD).iv cs:=zero_of (z:=(.agg #[(.slice none 0 0),(.int .i64 0),(.int .i64 0),(.int .i64 0)])) (fun w=>by kernel_rfl) (by kernel_rfl) rfl
theorem zr132:∃ z cs,(∀ w,(zeroValue 132).run Tryz.prog w=.ok z w)∧z.cells=cs.toArray∧∀ O ρ,R O ρ false ((.t (.pr (.pr (.sl .u8) (.pr .i (.pr .i (.pr .i .un)))) .un)):ZD).iv cs:=zero_of (z:=(.agg #[(.slice none 0 0),(.int .i64 0),(.int .i64 0),(.int .i64 0)])) (fun w=>by kernel_rfl) (by kernel_rfl) rfl
theorem zr141:∃ z cs,(∀ w,(zeroValue 141).run Tryz.prog w=.ok z w)∧z.cells=cs.toArray∧∀ O ρ,R O ρ false ((.v (.slice none 0 0)):ZD).iv cs:=zero_of (z:=(.slice none 0 0)) (fun w=>by kernel_rfl) (by kernel_rfl) rfl
theorem zr148:∃ z cs,(∀ w,(zeroValue 148).run Tryz.prog w=.ok z w)∧z.cells=cs.toArray∧∀ O ρ,R O ρ false ((.t (.sl .s)):ZD).iv cs:=zero_of (z:=(.slice none 0 0)) (fun w=>by kernel_rfl) (by kernel_rfl) rfl
theorem zr155:∃ z cs,(∀ w,(zeroValue 155).run Tryz.prog w=.ok z w)∧z.cells=cs.toArray∧∀ O ρ,R O ρ false ((.t .u32):ZD).iv cs:=zero_of (z:=(.int .u32 0)) (fun w=>by kernel_rfl) (by kernel_rfl) rfl
theorem zr158:∃ z cs,(∀ w,(zeroValue 158).run Tryz.prog w=.ok z w)∧z.cells=cs.toArray∧∀ O ρ,R O ρ false ((.t (.sl (.sl .u8))):ZD).iv cs:=zero_of (z:=(.slice none 0 0)) (fun w=>by kernel_rfl) (by kernel_rfl) rfl
theorem zr166:∃ z cs,(∀ w,(zeroValue 166).run Tryz.prog w=.ok z w)∧z.cells=cs.toArray∧∀ O ρ,R O ρ false ((.pr (.v (.slice none 0 0)) (.pr (.t .i) .un)):ZD).iv cs:=zero_of (z:=(.agg #[(.slice none 0 0),(.int .i64 0)])) (fun w=>by kernel_rfl) (by kernel_rfl) rfl
theorem zr171:∃ z cs,(∀ w,(zeroValue 171).run Tryz.prog w=.ok z w)∧z.cells=cs.toArray∧∀ O ρ,R O ρ false ((.t (.pr (.sl .u8) (.pr .i (.pr .i (.pr .i .un))))):ZD).iv cs:=zero_of (z:=(.agg #[(.slice none 0 0),(.int .i64 0),(.int .i64 0),(.int .i64 0)])) (fun w=>by kernel_rfl) (by kernel_rfl) rfl
theorem zr172:∃ z cs,(∀ w,(zeroValue 172).run Tryz.prog w=.ok z w)∧z.cells=cs.toArray∧∀ O ρ,R O ρ false ((.v (.slice none 0 0)):ZD).iv cs:=zero_of (z:=(.slice none 0 0)) (fun w=>by kernel_rfl) (by kernel_rfl) rfl
theorem zr192:∃ z cs,(∀ w,(zeroValue 192).run Tryz.prog w=.ok z w)∧z.cells=cs.toArray∧∀ O ρ,R O ρ false ((.t (.ar 8 .u32)):ZD).iv cs:=zero_of (z:=(.agg #[(.int .u32 0),(.int .u32 0),(.int .u32 0),(.int .u32 0),(.int .u32 0),(.int .u32 0),(.int .u32 0),(.int .u32 0)])) (fun w=>by kernel_rfl) (by kernel_rfl) rfl
theorem zr194:∃ z cs,(∀ w,(zeroValue 194).run Tryz.prog w=.ok z w)∧z.cells=cs.toArray∧∀ O ρ,R O ρ false ((.t .u64):ZD).iv cs:=zero_of (z:=(.int .u64 0)) (fun w=>by kernel_rfl) (by kernel_rfl) rfl
theorem zr195:∃ z cs,(∀ w,(zeroValue 195).run Tryz.prog w=.ok z w)∧z.cells=cs.toArray∧∀ O ρ,R O ρ false ((.t (.ar 16 .u32)):ZD).iv cs:=zero_of (z:=(.agg #[(.int .u32 0),(.int .u32 0),(.int .u32 0),(.int .u32 0),(.int .u32 0),(.int .u32 0),(.int .u32 0),(.int .u32 0),(.int .u32 0),(.int .u32 0),(.int .u32 0),(.int .u32 0),(.int .u32 0),(.int .u32 0),(.int .u32 0),(.int .u32 0)])) (fun w=>by kernel_rfl) (by kernel_rfl) rfl
theorem zr197:∃ z cs,(∀ w,(zeroValue 197).run Tryz.prog w=.ok z w)∧z.cells=cs.toArray∧∀ O ρ,R O ρ false ((.t (.ar 4 .i)):ZD).iv cs:=zero_of (z:=(.agg #[(.int .i64 0),(.int .i64 0),(.int .i64 0),(.int .i64 0)])) (fun w=>by kernel_rfl) (by kernel_rfl) rfl
theorem zr198:∃ z cs,(∀ w,(zeroValue 198).run Tryz.prog w=.ok z w)∧z.cells=cs.toArray∧∀ O ρ,R O ρ false ((.t (.ar 8 (.ar 4 .i))):ZD).iv cs:=zero_of (z:=(.agg (List.replicate 32 (.int .i64 0)).toArray)) (fun w=>by kernel_rfl) (by kernel_rfl) rfl
theorem zr211:∃ z cs,(∀ w,(zeroValue 211).run Tryz.prog w=.ok z w)∧z.cells=cs.toArray∧∀ O ρ,R O ρ false ((.t (.ar 256 .bo)):ZD).iv cs:=zero_of (z:=(.agg (List.replicate 256 (.bool false)).toArray)) (fun w=>by kernel_rfl) (by kernel_rfl) rfl
theorem zr217:∃ z cs,(∀ w,(zeroValue 217).run Tryz.prog w=.ok z w)∧z.cells=cs.toArray∧∀ O ρ,R O ρ false ((.t (.sl (.sl (.sl .u8)))):ZD).iv cs:=zero_of (z:=(.slice none 0 0)) (fun w=>by kernel_rfl) (by kernel_rfl) rfl
theorem zr220:∃ z cs,(∀ w,(zeroValue 220).run Tryz.prog w=.ok z w)∧z.cells=cs.toArray∧∀ O ρ,R O ρ false ((.t (.ar 64 .u8)):ZD).iv cs:=zero_of (z:=(.agg (List.replicate 64 (.int .u8 0)).toArray)) (fun w=>by kernel_rfl) (by kernel_rfl) rfl
theorem zr223:∃ z cs,(∀ w,(zeroValue 223).run Tryz.prog w=.ok z w)∧z.cells=cs.toArray∧∀ O ρ,R O ρ false ((.t (.pr (.ar 8 .u32) (.pr (.ar 64 .u8) (.pr .i .un)))):ZD).iv cs:=zero_of (z:=(.agg #[(.int .u32 0),(.int .u32 0),(.int .u32 0),(.int .u32 0),(.int .u32 0),(.int .u32 0),(.int .u32 0),(.int .u32 0),(.int .u8 0),(.int .u8 0),(.int .u8 0),(.int .u8 0),(.int .u8 0),(.int .u8 0),(.int .u8 0),(.int .u8 0),(.int .u8 0),(.int .u8 0),(.int .u8 0),(.int .u8 0),(.int .u8 0),(.int .u8 0),(.int .u8 0),(.int .u8 0),(.int .u8 0),(.int .u8 0),(.int .u8 0),(.int .u8 0),(.int .u8 0),(.int .u8 0),(.int .u8 0),(.int .u8 0),(.int .u8 0),(.int .u8 0),(.int .u8 0),(.int .u8 0),(.int .u8 0),(.int .u8 0),(.int .u8 0),(.int .u8 0),(.int .u8 0),(.int .u8 0),(.int .u8 0),(.int .u8 0),(.int .u8 0),(.int .u8 0),(.int .u8 0),(.int .u8 0),(.int .u8 0),(.int .u8 0),(.int .u8 0),(.int .u8 0),(.int .u8 0),(.int .u8 0),(.int .u8 0),(.int .u8 0),(.int .u8 0),(.int .u8 0),(.int .u8 0),(.int .u8 0),(.int .u8 0),(.int .u8 0),(.int .u8 0),(.int .u8 0),(.int .u8 0),(.int .u8 0),(.int .u8 0),(.int .u8 0),(.int .u8 0),(.int .u8 0),(.int .u8 0),(.int .u8 0),(.int .i64 0)])) (fun w=>by kernel_rfl) (by kernel_rfl) rfl
theorem zr226:∃ z cs,(∀ w,(zeroValue 226).run Tryz.prog w=.ok z w)∧z.cells=cs.toArray∧∀ O ρ,R O ρ false ((.t (.ar 2 .u8)):ZD).iv cs:=zero_of (z:=(.agg #[(.int .u8 0),(.int .u8 0)])) (fun w=>by kernel_rfl) (by kernel_rfl) rfl
theorem zr228:∃ z cs,(∀ w,(zeroValue 228).run Tryz.prog w=.ok z w)∧z.cells=cs.toArray∧∀ O ρ,R O ρ false ((.t (.pr (.pr (.ar 8 .u32) (.pr (.ar 64 .u8) (.pr .i .un))) (.pr (.ar 64 .u8) .un))):ZD).iv cs:=zero_of (z:=(.agg #[(.int .u32 0),(.int .u32 0),(.int .u32 0),(.int .u32 0),(.int .u32 0),(.int .u32 0),(.int .u32 0),(.int .u32 0),(.int .u8 0),(.int .u8 0),(.int .u8 0),(.int .u8 0),(.int .u8 0),(.int .u8 0),(.int .u8 0),(.int .u8 0),(.int .u8 0),(.int .u8 0),(.int .u8 0),(.int .u8 0),(.int .u8 0),(.int .u8 0),(.int .u8 0),(.int .u8 0),(.int .u8 0),(.int .u8 0),(.int .u8 0),(.int .u8 0),(.int .u8 0),(.int .u8 0),(.int .u8 0),(.int .u8 0),(.int .u8 0),(.int .u8 0),(.int .u8 0),(.int .u8 0),(.int .u8 0),(.int .u8 0),(.int .u8 0),(.int .u8 0),(.int .u8 0),(.int .u8 0),(.int .u8 0),(.int .u8 0),(.int .u8 0),(.int .u8 0),(.int .u8 0),(.int .u8 0),(.int .u8 0),(.int .u8 0),(.int .u8 0),(.int .u8 0),(.int .u8 0),(.int .u8 0),(.int .u8 0),(.int .u8 0),(.int .u8 0),(.int .u8 0),(.int .u8 0),(.int .u8 0),(.int .u8 0),(.int .u8 0),(.int .u8 0),(.int .u8 0),(.int .u8 0),(.int .u8 0),(.int .u8 0),(.int .u8 0),(.int .u8 0),(.int .u8 0),(.int .u8 0),(.int .u8 0),(.int .i64 0),(.int .u8 0),(.int .u8 0),(.int .u8 0),(.int .u8 0),(.int .u8 0),(.int .u8 0),(.int .u8 0),(.int .u8 0),(.int .u8 0),(.int .u8 0),(.int .u8 0),(.int .u8 0),(.int .u8 0),(.int .u8 0),(.int .u8 0),(.int .u8 0),(.int .u8 0),(.int .u8 0),(.int .u8 0),(.int .u8 0),(.int .u8 0),(.int .u8 0),(.int .u8 0),(.int .u8 0),(.int .u8 0),(.int .u8 0),(.int .u8 0),(.int .u8 0),(.int .u8 0),(.int .u8 0),(.int .u8 0),(.int .u8 0),(.int .u8 0),(.int .u8 0),(.int .u8 0),(.int .u8 0),(.int .u8 0),(.int .u8 0),(.int .u8 0),(.int .u8 0),(.int .u8 0),(.int .u8 0),(.int .u8 0),(.int .u8 0),(.int .u8 0),(.int .u8 0),(.int .u8 0),(.int .u8 0),(.int .u8 0),(.int .u8 0),(.int .u8 0),(.int .u8 0),(.int .u8 0),(.int .u8 0),(.int .u8 0),(.int .u8 0),(.int .u8 0),(.int .u8 0),(.int .u8 0),(.int .u8 0),(.int .u8 0),(.int .u8 0),(.int .u8 0),(.int .u8 0)])) (fun w=>by kernel_rfl) (by kernel_rfl) rfl
theorem zr230:∃ z cs,(∀ w,(zeroValue 230).run Tryz.prog w=.ok z w)∧z.cells=cs.toArray∧∀ O ρ,R O ρ false ((.t (.pr (.pr (.pr (.ar 8 .u32) (.pr (.ar 64 .u8) (.pr .i .un))) (.pr (.ar 64 .u8) .un)) .un)):ZD).iv cs:=zero_of (z:=(.agg #[(.int .u32 0),(.int .u32 0),(.int .u32 0),(.int .u32 0),(.int .u32 0),(.int .u32 0),(.int .u32 0),(.int .u32 0),(.int .u8 0),(.int .u8 0),(.int .u8 0),(.int .u8 0),(.int .u8 0),(.int .u8 0),(.int .u8 0),(.int .u8 0),(.int .u8 0),(.int .u8 0),(.int .u8 0),(.int .u8 0),(.int .u8 0),(.int .u8 0),(.int .u8 0),(.int .u8 0),(.int .u8 0),(.int .u8 0),(.int .u8 0),(.int .u8 0),(.int .u8 0),(.int .u8 0),(.int .u8 0),(.int .u8 0),(.int .u8 0),(.int .u8 0),(.int .u8 0),(.int .u8 0),(.int .u8 0),(.int .u8 0),(.int .u8 0),(.int .u8 0),(.int .u8 0),(.int .u8 0),(.int .u8 0),(.int .u8 0),(.int .u8 0),(.int .u8 0),(.int .u8 0),(.int .u8 0),(.int .u8 0),(.int .u8 0),(.int .u8 0),(.int .u8 0),(.int .u8 0),(.int .u8 0),(.int .u8 0),(.int .u8 0),(.int .u8 0),(.int .u8 0),(.int .u8 0),(.int .u8 0),(.int .u8 0),(.int .u8 0),(.int .u8 0),(.int .u8 0),(.int .u8 0),(.int .u8 0),(.int .u8 0),(.int .u8 0),(.int .u8 0),(.int .u8 0),(.int .u8 0),(.int .u8 0),(.int .i64 0),(.int .u8 0),(.int .u8 0),(.int .u8 0),(.int .u8 0),(.int .u8 0),(.int .u8 0),(.int .u8 0),(.int .u8 0),(.int .u8 0),(.int .u8 0),(.int .u8 0),(.int .u8 0),(.int .u8 0),(.int .u8 0),(.int .u8 0),(.int .u8 0),(.int .u8 0),(.int .u8 0),(.int .u8 0),(.int .u8 0),(.int .u8 0),(.int .u8 0),(.int .u8 0),(.int .u8 0),(.int .u8 0),(.int .u8 0),(.int .u8 0),(.int .u8 0),(.int .u8 0),(.int .u8 0),(.int .u8 0),(.int .u8 0),(.int .u8 0),(.int .u8 0),(.int .u8 0),(.int .u8 0),(.int .u8 0),(.int .u8 0),(.int .u8 0),(.int .u8 0),(.int .u8 0),(.int .u8 0),(.int .u8 0),(.int .u8 0),(.int .u8 0),(.int .u8 0),(.int .u8 0),(.int .u8 0),(.int .u8 0),(.int .u8 0),(.int .u8 0),(.int .u8 0),(.int .u8 0),(.int .u8 0),(.int .u8 0),(.int .u8 0),(.int .u8 0),(.int .u8 0),(.int .u8 0),(.int .u8 0),(.int .u8 0),(.int .u8 0),(.int .u8 0),(.int .u8 0)])) (fun w=>by kernel_rfl) (by kernel_rfl) rfl
theorem zr231:∃ z cs,(∀ w,(zeroValue 231).run Tryz.prog w=.ok z w)∧z.cells=cs.toArray∧∀ O ρ,R O ρ false ((.t (.ar 64 .u32)):ZD).iv cs:=zero_of (z:=(.agg (List.replicate 64 (.int .u32 0)).toArray)) (fun w=>by kernel_rfl) (by kernel_rfl) rfl
theorem zr248:∃ z cs,(∀ w,(zeroValue 248).run Tryz.prog w=.ok z w)∧z.cells=cs.toArray∧∀ O ρ,R O ρ false ((.t (.ar 16 .u8)):ZD).iv cs:=zero_of (z:=(.agg #[(.int .u8 0),(.int .u8 0),(.int .u8 0),(.int .u8 0),(.int .u8 0),(.int .u8 0),(.int .u8 0),(.int .u8 0),(.int .u8 0),(.int .u8 0),(.int .u8 0),(.int .u8 0),(.int .u8 0),(.int .u8 0),(.int .u8 0),(.int .u8 0)])) (fun w=>by kernel_rfl) (by kernel_rfl) rfl
theorem czero:∀ t v,cfg.I t=some v->∃ z cs,(∀ w,(zeroValue t).run Tryz.prog w=.ok z w)∧z.cells=cs.toArray∧∀ O ρ,R O ρ false v cs:=by
 intro t v h
 simp only [cfg] at h
 split at h<;>first | (cases h;done) | skip
 rename_i d hd
 cases h
 unfold cI at hd
 split at hd<;>first | (cases hd;done) | skip
 ·cases hd;exact zr3
 ·cases hd;exact zr4
 ·cases hd;exact zr5
 ·cases hd;exact zr9
 ·cases hd;exact zr22
 ·cases hd;exact zr23
 ·cases hd;exact zr24
 ·cases hd;exact zr25
 ·cases hd;exact zr27
 ·cases hd;exact zr31
 ·cases hd;exact zr32
 ·cases hd;exact zr36
 ·cases hd;exact zr40
 ·cases hd;exact zr59
 ·cases hd;exact zr61
 ·cases hd;exact zr62
 ·cases hd;exact zr63
 ·cases hd;exact zr64
 ·cases hd;exact zr74
 ·cases hd;exact zr75
 ·cases hd;exact zr81
 ·cases hd;exact zr88
 ·cases hd;exact zr90
 ·cases hd;exact zr95
 ·cases hd;exact zr100
 ·cases hd;exact zr102
 ·cases hd;exact zr104
 ·cases hd;exact zr108
 ·cases hd;exact zr111
 ·cases hd;exact zr121
 ·cases hd;exact zr130
 ·cases hd;exact zr132
 ·cases hd;exact zr141
 ·cases hd;exact zr148
 ·cases hd;exact zr155
 ·cases hd;exact zr158
 ·cases hd;exact zr166
 ·cases hd;exact zr171
 ·cases hd;exact zr172
 ·cases hd;exact zr192
 ·cases hd;exact zr194
 ·cases hd;exact zr195
 ·cases hd;exact zr197
 ·cases hd;exact zr198
 ·cases hd;exact zr211
 ·cases hd;exact zr217
 ·cases hd;exact zr220
 ·cases hd;exact zr223
 ·cases hd;exact zr226
 ·cases hd;exact zr228
 ·cases hd;exact zr230
 ·cases hd;exact zr231
 ·cases hd;exact zr248
theorem el22:∃ bytes z zc,EOk Tryz.prog 22 3 (.i:Ty).size bytes z∧bytes≤128∧z.cells=zc.toArray∧∀ O,TR O .i (.i:Ty).zero zc:=elem_of (b:=8) (z:=(.int .i64 0)) (eok_of Tryz.underlying22 (by kernel_rfl) (by kernel_rfl) (by decide)) (by decide) (by kernel_rfl)
theorem el23:∃ bytes z zc,EOk Tryz.prog 23 90 ((.pr .i (.pr .i (.pr .i (.pr (.pr .s (.pr .i (.pr .i .un))) (.pr .i (.pr .i (.pr .s (.pr .bo .un)))))))):Ty).size bytes z∧bytes≤128∧z.cells=zc.toArray∧∀ O,TR O (.pr .i (.pr .i (.pr .i (.pr (.pr .s (.pr .i (.pr .i .un))) (.pr .i (.pr .i (.pr .s (.pr .bo .un)))))))) ((.pr .i (.pr .i (.pr .i (.pr (.pr .s (.pr .i (.pr .i .un))) (.pr .i (.pr .i (.pr .s (.pr .bo .un)))))))):Ty).zero zc:=elem_of (b:=96) (z:=(.agg #[(.int .i64 0),(.int .i64 0),(.int .i64 0),(.string ⟨#[]⟩),(.int .i64 0),(.int .i64 0),(.int .i64 0),(.int .i64 0),(.string ⟨#[]⟩),(.bool false)])) (eok_of Tryz.underlying23 (by kernel_rfl) (by kernel_rfl) (by decide)) (by decide) (by kernel_rfl)
theorem el24:∃ bytes z zc,EOk Tryz.prog 24 61 ((.pr .s (.pr .i (.pr .i (.pr .i (.pr .i (.pr (.sl (.pr .s (.pr .i (.pr .i .un)))) .un)))))):Ty).size bytes z∧bytes≤128∧z.cells=zc.toArray∧∀ O,TR O (.pr .s (.pr .i (.pr .i (.pr .i (.pr .i (.pr (.sl (.pr .s (.pr .i (.pr .i .un)))) .un)))))) ((.pr .s (.pr .i (.pr .i (.pr .i (.pr .i (.pr (.sl (.pr .s (.pr .i (.pr .i .un)))) .un)))))):Ty).zero zc:=elem_of (b:=72) (z:=(.agg #[(.string ⟨#[]⟩),(.int .i64 0),(.int .i64 0),(.int .i64 0),(.int .i64 0),(.slice none 0 0)])) (eok_of Tryz.underlying24 (by kernel_rfl) (by kernel_rfl) (by decide)) (by decide) (by kernel_rfl)
theorem el25:∃ bytes z zc,EOk Tryz.prog 25 88 ((.pr .s (.pr .i (.pr .i .un))):Ty).size bytes z∧bytes≤128∧z.cells=zc.toArray∧∀ O,TR O (.pr .s (.pr .i (.pr .i .un))) ((.pr .s (.pr .i (.pr .i .un))):Ty).zero zc:=elem_of (b:=32) (z:=(.agg #[(.string ⟨#[]⟩),(.int .i64 0),(.int .i64 0)])) (eok_of Tryz.underlying25 (by kernel_rfl) (by kernel_rfl) (by decide)) (by decide) (by kernel_rfl)
theorem el36:∃ bytes z zc,EOk Tryz.prog 36 5 (.u8:Ty).size bytes z∧bytes≤128∧z.cells=zc.toArray∧∀ O,TR O .u8 (.u8:Ty).zero zc:=elem_of (b:=1) (z:=(.int .u8 0)) (eok_of Tryz.underlying36 (by kernel_rfl) (by kernel_rfl) (by decide)) (by decide) (by kernel_rfl)
theorem el40:∃ bytes z zc,EOk Tryz.prog 40 59 ((.pr .i (.pr (.sl .u8) .un)):Ty).size bytes z∧bytes≤128∧z.cells=zc.toArray∧∀ O,TR O (.pr .i (.pr (.sl .u8) .un)) ((.pr .i (.pr (.sl .u8) .un)):Ty).zero zc:=elem_of (b:=32) (z:=(.agg #[(.int .i64 0),(.slice none 0 0)])) (eok_of Tryz.underlying40 (by kernel_rfl) (by kernel_rfl) (by decide)) (by decide) (by kernel_rfl)
theorem el104:∃ bytes z zc,EOk Tryz.prog 104 102 ((.pr .i (.pr .u64 (.pr .i (.pr .bo (.pr .s (.pr .i .un)))))):Ty).size bytes z∧bytes≤128∧z.cells=zc.toArray∧∀ O,TR O (.pr .i (.pr .u64 (.pr .i (.pr .bo (.pr .s (.pr .i .un)))))) ((.pr .i (.pr .u64 (.pr .i (.pr .bo (.pr .s (.pr .i .un)))))):Ty).zero zc:=elem_of (b:=56) (z:=(.agg #[(.int .i64 0),(.int .u64 0),(.int .i64 0),(.bool false),(.string ⟨#[]⟩),(.int .i64 0)])) (eok_of Tryz.underlying104 (by kernel_rfl) (by kernel_rfl) (by decide)) (by decide) (by kernel_rfl)
theorem el141:∃ bytes z zc,EOk Tryz.prog 141 36 ((.sl .u8):Ty).size bytes z∧bytes≤128∧z.cells=zc.toArray∧∀ O,TR O (.sl .u8) ((.sl .u8):Ty).zero zc:=elem_of (b:=24) (z:=(.slice none 0 0)) (eok_of Tryz.underlying141 (by kernel_rfl) (by kernel_rfl) (by decide)) (by decide) (by kernel_rfl)
theorem el148:∃ bytes z zc,EOk Tryz.prog 148 9 (.s:Ty).size bytes z∧bytes≤128∧z.cells=zc.toArray∧∀ O,TR O .s (.s:Ty).zero zc:=elem_of (b:=16) (z:=(.string ⟨#[]⟩)) (eok_of Tryz.underlying148 (by kernel_rfl) (by kernel_rfl) (by decide)) (by decide) (by kernel_rfl)
theorem el158:∃ bytes z zc,EOk Tryz.prog 158 36 ((.sl .u8):Ty).size bytes z∧bytes≤128∧z.cells=zc.toArray∧∀ O,TR O (.sl .u8) ((.sl .u8):Ty).zero zc:=elem_of (b:=24) (z:=(.slice none 0 0)) (eok_of Tryz.underlying158 (by kernel_rfl) (by kernel_rfl) (by decide)) (by decide) (by kernel_rfl)
theorem el217:∃ bytes z zc,EOk Tryz.prog 217 141 ((.sl (.sl .u8)):Ty).size bytes z∧bytes≤128∧z.cells=zc.toArray∧∀ O,TR O (.sl (.sl .u8)) ((.sl (.sl .u8)):Ty).zero zc:=elem_of (b:=24) (z:=(.slice none 0 0)) (eok_of Tryz.underlying217 (by kernel_rfl) (by kernel_rfl) (by decide)) (by decide) (by kernel_rfl)
theorem celem:∀ t e ty,cfg.D t=some (.slice e)->cfg.E e=some ty->∃ bytes z zc,EOk Tryz.prog t e ty.size bytes z∧bytes≤128∧z.cells=zc.toArray∧∀ O,TR O ty ty.zero zc:=by
 intro t e ty h k
 have h:cD t=some (.slice e):=h
 have k:cE e=some ty:=k
 unfold cD at h
 split at h<;>first | (cases h;done) | skip
 ·cases h;cases k;exact el22
 ·cases h;cases k;exact el23
 ·cases h;cases k;exact el24
 ·cases h;cases k;exact el25
 ·cases h;cases k;exact el36
 ·cases h;cases k;exact el40
 ·cases h;cases k
 ·cases h;cases k;exact el104
 ·cases h;cases k;exact el141
 ·cases h;cases k;exact el148
 ·cases h;cases k;exact el158
 ·cases h;cases k
 ·cases h;cases k;exact el217
theorem pl27:∃ pl:Array (Nat×Nat),(∀ w,((#[(Field.mk "Vault" 3 0 false "" "" 0),(Field.mk "Rotation" 3 1 false "" "" 8),(Field.mk "Vector" 22 2 false "" "" 16),(Field.mk "Snapshots" 23 3 false "" "" 40),(Field.mk "Stripes" 24 4 false "" "" 64),(Field.mk "Generations" 25 5 false "" "" 88)]:Array Field).mapM (m:=Sem) fun f=>do pure (f.offset,← sizeOf f.type)).run Tryz.prog w=.ok pl w)∧∀ (i:Nat) (f:Field),(#[(Field.mk "Vault" 3 0 false "" "" 0),(Field.mk "Rotation" 3 1 false "" "" 8),(Field.mk "Vector" 22 2 false "" "" 16),(Field.mk "Snapshots" 23 3 false "" "" 40),(Field.mk "Stripes" 24 4 false "" "" 64),(Field.mk "Generations" 25 5 false "" "" 88)]:Array Field)[i]? = some f->∃ z,pl[i]? = some (f.offset,z)∧cZ f.type=some z:=places_of #[(0,1),(1,1),(2,1),(3,1),(4,1),(5,1)] (fun w=>by kernel_rfl) (by kernel_rfl)
theorem pl31:∃ pl:Array (Nat×Nat),(∀ w,((#[(Field.mk "Name" 9 0 false "" "" 0),(Field.mk "Stream" 9 1 false "" "" 16),(Field.mk "Check" 9 2 false "" "" 32),(Field.mk "Index" 9 3 false "" "" 48),(Field.mk "Token" 9 4 false "" "" 64)]:Array Field).mapM (m:=Sem) fun f=>do pure (f.offset,← sizeOf f.type)).run Tryz.prog w=.ok pl w)∧∀ (i:Nat) (f:Field),(#[(Field.mk "Name" 9 0 false "" "" 0),(Field.mk "Stream" 9 1 false "" "" 16),(Field.mk "Check" 9 2 false "" "" 32),(Field.mk "Index" 9 3 false "" "" 48),(Field.mk "Token" 9 4 false "" "" 64)]:Array Field)[i]? = some f->∃ z,pl[i]? = some (f.offset,z)∧cZ f.type=some z:=places_of #[(0,1),(1,1),(2,1),(3,1),(4,1)] (fun w=>by kernel_rfl) (by kernel_rfl)
theorem pl59:∃ pl:Array (Nat×Nat),(∀ w,((#[(Field.mk "X" 3 0 false "" "" 0),(Field.mk "Data" 36 1 false "" "" 8)]:Array Field).mapM (m:=Sem) fun f=>do pure (f.offset,← sizeOf f.type)).run Tryz.prog w=.ok pl w)∧∀ (i:Nat) (f:Field),(#[(Field.mk "X" 3 0 false "" "" 0),(Field.mk "Data" 36 1 false "" "" 8)]:Array Field)[i]? = some f->∃ z,pl[i]? = some (f.offset,z)∧cZ f.type=some z:=places_of #[(0,1),(1,1)] (fun w=>by kernel_rfl) (by kernel_rfl)
theorem pl61:∃ pl:Array (Nat×Nat),(∀ w,((#[(Field.mk "ID" 9 0 false "" "" 0),(Field.mk "Vault" 3 1 false "" "" 16),(Field.mk "Block" 3 2 false "" "" 24),(Field.mk "Data" 3 3 false "" "" 32),(Field.mk "Total" 3 4 false "" "" 40),(Field.mk "Refs" 25 5 false "" "" 48)]:Array Field).mapM (m:=Sem) fun f=>do pure (f.offset,← sizeOf f.type)).run Tryz.prog w=.ok pl w)∧∀ (i:Nat) (f:Field),(#[(Field.mk "ID" 9 0 false "" "" 0),(Field.mk "Vault" 3 1 false "" "" 16),(Field.mk "Block" 3 2 false "" "" 24),(Field.mk "Data" 3 3 false "" "" 32),(Field.mk "Total" 3 4 false "" "" 40),(Field.mk "Refs" 25 5 false "" "" 48)]:Array Field)[i]? = some f->∃ z,pl[i]? = some (f.offset,z)∧cZ f.type=some z:=places_of #[(0,1),(1,1),(2,1),(3,1),(4,1),(5,1)] (fun w=>by kernel_rfl) (by kernel_rfl)
theorem pl88:∃ pl:Array (Nat×Nat),(∀ w,((#[(Field.mk "Name" 9 0 false "" "" 0),(Field.mk "Gen" 3 1 false "" "" 16),(Field.mk "Size" 3 2 false "" "" 24)]:Array Field).mapM (m:=Sem) fun f=>do pure (f.offset,← sizeOf f.type)).run Tryz.prog w=.ok pl w)∧∀ (i:Nat) (f:Field),(#[(Field.mk "Name" 9 0 false "" "" 0),(Field.mk "Gen" 3 1 false "" "" 16),(Field.mk "Size" 3 2 false "" "" 24)]:Array Field)[i]? = some f->∃ z,pl[i]? = some (f.offset,z)∧cZ f.type=some z:=places_of #[(0,1),(1,1),(2,1)] (fun w=>by kernel_rfl) (by kernel_rfl)
theorem pl90:∃ pl:Array (Nat×Nat),(∀ w,((#[(Field.mk "Writer" 3 0 false "" "" 0),(Field.mk "Seq" 3 1 false "" "" 8),(Field.mk "Day" 3 2 false "" "" 16),(Field.mk "Root" 88 3 false "" "" 24),(Field.mk "Files" 3 6 false "" "" 56),(Field.mk "Bytes" 3 7 false "" "" 64),(Field.mk "Previous" 9 8 false "" "" 72),(Field.mk "Hold" 4 9 false "" "" 88)]:Array Field).mapM (m:=Sem) fun f=>do pure (f.offset,← sizeOf f.type)).run Tryz.prog w=.ok pl w)∧∀ (i:Nat) (f:Field),(#[(Field.mk "Writer" 3 0 false "" "" 0),(Field.mk "Seq" 3 1 false "" "" 8),(Field.mk "Day" 3 2 false "" "" 16),(Field.mk "Root" 88 3 false "" "" 24),(Field.mk "Files" 3 6 false "" "" 56),(Field.mk "Bytes" 3 7 false "" "" 64),(Field.mk "Previous" 9 8 false "" "" 72),(Field.mk "Hold" 4 9 false "" "" 88)]:Array Field)[i]? = some f->∃ z,pl[i]? = some (f.offset,z)∧cZ f.type=some z:=places_of #[(0,1),(1,1),(2,1),(3,3),(6,1),(7,1),(8,1),(9,1)] (fun w=>by kernel_rfl) (by kernel_rfl)
theorem pl102:∃ pl:Array (Nat×Nat),(∀ w,((#[(Field.mk "Kind" 3 0 false "" "" 0),(Field.mk "U" 100 1 false "" "" 8),(Field.mk "N" 3 2 false "" "" 16),(Field.mk "B" 4 3 false "" "" 24),(Field.mk "S" 9 4 false "" "" 32),(Field.mk "Most" 3 5 false "" "" 48)]:Array Field).mapM (m:=Sem) fun f=>do pure (f.offset,← sizeOf f.type)).run Tryz.prog w=.ok pl w)∧∀ (i:Nat) (f:Field),(#[(Field.mk "Kind" 3 0 false "" "" 0),(Field.mk "U" 100 1 false "" "" 8),(Field.mk "N" 3 2 false "" "" 16),(Field.mk "B" 4 3 false "" "" 24),(Field.mk "S" 9 4 false "" "" 32),(Field.mk "Most" 3 5 false "" "" 48)]:Array Field)[i]? = some f->∃ z,pl[i]? = some (f.offset,z)∧cZ f.type=some z:=places_of #[(0,1),(1,1),(2,1),(3,1),(4,1),(5,1)] (fun w=>by kernel_rfl) (by kernel_rfl)
theorem pl130:∃ pl:Array (Nat×Nat),(∀ w,((#[(Field.mk "B" 36 0 false "" "" 0),(Field.mk "At" 3 1 false "" "" 24),(Field.mk "Last" 3 2 false "" "" 32),(Field.mk "E" 32 3 false "" "" 40)]:Array Field).mapM (m:=Sem) fun f=>do pure (f.offset,← sizeOf f.type)).run Tryz.prog w=.ok pl w)∧∀ (i:Nat) (f:Field),(#[(Field.mk "B" 36 0 false "" "" 0),(Field.mk "At" 3 1 false "" "" 24),(Field.mk "Last" 3 2 false "" "" 32),(Field.mk "E" 32 3 false "" "" 40)]:Array Field)[i]? = some f->∃ z,pl[i]? = some (f.offset,z)∧cZ f.type=some z:=places_of #[(0,1),(1,1),(2,1),(3,1)] (fun w=>by kernel_rfl) (by kernel_rfl)
theorem pl132:∃ pl:Array (Nat×Nat),(∀ w,((#[(Field.mk "r" 130 0 false "" "kinkeep/kinkeepref31" 0)]:Array Field).mapM (m:=Sem) fun f=>do pure (f.offset,← sizeOf f.type)).run Tryz.prog w=.ok pl w)∧∀ (i:Nat) (f:Field),(#[(Field.mk "r" 130 0 false "" "kinkeep/kinkeepref31" 0)]:Array Field)[i]? = some f->∃ z,pl[i]? = some (f.offset,z)∧cZ f.type=some z:=places_of #[(0,4)] (fun w=>by kernel_rfl) (by kernel_rfl)
theorem pl166:∃ pl:Array (Nat×Nat),(∀ w,((#[(Field.mk "data" 36 0 false "" "kinkeep/wire" 0),(Field.mk "err" 32 1 false "" "kinkeep/wire" 24)]:Array Field).mapM (m:=Sem) fun f=>do pure (f.offset,← sizeOf f.type)).run Tryz.prog w=.ok pl w)∧∀ (i:Nat) (f:Field),(#[(Field.mk "data" 36 0 false "" "kinkeep/wire" 0),(Field.mk "err" 32 1 false "" "kinkeep/wire" 24)]:Array Field)[i]? = some f->∃ z,pl[i]? = some (f.offset,z)∧cZ f.type=some z:=places_of #[(0,1),(1,1)] (fun w=>by kernel_rfl) (by kernel_rfl)
theorem pl171:∃ pl:Array (Nat×Nat),(∀ w,((#[(Field.mk "data" 36 0 false "" "kinkeep/wire" 0),(Field.mk "offset" 3 1 false "" "kinkeep/wire" 24),(Field.mk "last" 3 2 false "" "kinkeep/wire" 32),(Field.mk "err" 32 3 false "" "kinkeep/wire" 40)]:Array Field).mapM (m:=Sem) fun f=>do pure (f.offset,← sizeOf f.type)).run Tryz.prog w=.ok pl w)∧∀ (i:Nat) (f:Field),(#[(Field.mk "data" 36 0 false "" "kinkeep/wire" 0),(Field.mk "offset" 3 1 false "" "kinkeep/wire" 24),(Field.mk "last" 3 2 false "" "kinkeep/wire" 32),(Field.mk "err" 32 3 false "" "kinkeep/wire" 40)]:Array Field)[i]? = some f->∃ z,pl[i]? = some (f.offset,z)∧cZ f.type=some z:=places_of #[(0,1),(1,1),(2,1),(3,1)] (fun w=>by kernel_rfl) (by kernel_rfl)
theorem pl223:∃ pl:Array (Nat×Nat),(∀ w,((#[(Field.mk "words" 192 0 false "" "kinkeep/sha256" 0),(Field.mk "buffer" 220 8 false "" "kinkeep/sha256" 32),(Field.mk "length" 3 72 false "" "kinkeep/sha256" 96)]:Array Field).mapM (m:=Sem) fun f=>do pure (f.offset,← sizeOf f.type)).run Tryz.prog w=.ok pl w)∧∀ (i:Nat) (f:Field),(#[(Field.mk "words" 192 0 false "" "kinkeep/sha256" 0),(Field.mk "buffer" 220 8 false "" "kinkeep/sha256" 32),(Field.mk "length" 3 72 false "" "kinkeep/sha256" 96)]:Array Field)[i]? = some f->∃ z,pl[i]? = some (f.offset,z)∧cZ f.type=some z:=places_of #[(0,8),(8,64),(72,1)] (fun w=>by kernel_rfl) (by kernel_rfl)
theorem pl228:∃ pl:Array (Nat×Nat),(∀ w,((#[(Field.mk "State" 223 0 true "" "" 0),(Field.mk "outer" 220 73 false "" "kinkeep/hmac" 104)]:Array Field).mapM (m:=Sem) fun f=>do pure (f.offset,← sizeOf f.type)).run Tryz.prog w=.ok pl w)∧∀ (i:Nat) (f:Field),(#[(Field.mk "State" 223 0 true "" "" 0),(Field.mk "outer" 220 73 false "" "kinkeep/hmac" 104)]:Array Field)[i]? = some f->∃ z,pl[i]? = some (f.offset,z)∧cZ f.type=some z:=places_of #[(0,73),(73,64)] (fun w=>by kernel_rfl) (by kernel_rfl)
theorem pl230:∃ pl:Array (Nat×Nat),(∀ w,((#[(Field.mk "state" 228 0 false "" "kinkeep/hmac" 0)]:Array Field).mapM (m:=Sem) fun f=>do pure (f.offset,← sizeOf f.type)).run Tryz.prog w=.ok pl w)∧∀ (i:Nat) (f:Field),(#[(Field.mk "state" 228 0 false "" "kinkeep/hmac" 0)]:Array Field)[i]? = some f->∃ z,pl[i]? = some (f.offset,z)∧cZ f.type=some z:=places_of #[(0,137)] (fun w=>by kernel_rfl) (by kernel_rfl)
theorem cplaces:∀ t fs,cfg.D t=some (.struct fs)->∃ pl:Array (Nat×Nat),(∀ w,(fs.mapM (m:=Sem) fun f=>do pure (f.offset,← sizeOf f.type)).run Tryz.prog w=.ok pl w)∧∀ (i:Nat) (f:Field),fs[i]? = some f->∃ z,pl[i]? = some (f.offset,z)∧cfg.Z f.type=some z:=by
 intro t fs h
 have h:cD t=some (.struct fs):=h
 unfold cD at h
 split at h<;>first | (cases h;done) | skip
 ·cases h;exact pl27
 ·cases h;exact pl31
 ·cases h;exact pl59
 ·cases h;exact pl61
 ·cases h;exact pl88
 ·cases h;exact pl90
 ·cases h;exact pl102
 ·cases h;exact pl130
 ·cases h;exact pl132
 ·cases h;exact pl166
 ·cases h;exact pl171
 ·cases h;exact pl223
 ·cases h;exact pl228
 ·cases h;exact pl230
theorem ceqs:∀ t fs,cfg.D t=some (.struct fs)->cfg.Q t=true->Tryz.prog.stoodInHeld t=false∧Tryz.prog.eqGuardType Tryz.prog.depth t=false∧∀ f ∈ fs.toList,f.name ≠ "_" := by
 intro t fs h k
 have h:cD t=some (.struct fs):=h
 have k:cQ t=true:=k
 unfold cD at h
 split at h<;>first | (cases h;done) | skip
 ·exact absurd k (by decide)
 ·cases h;exact ⟨by kernel_rfl,by kernel_rfl,names_of (by kernel_rfl)⟩
 ·exact absurd k (by decide)
 ·exact absurd k (by decide)
 ·cases h;exact ⟨by kernel_rfl,by kernel_rfl,names_of (by kernel_rfl)⟩
 ·exact absurd k (by decide)
 ·cases h;exact ⟨by kernel_rfl,by kernel_rfl,names_of (by kernel_rfl)⟩
 ·exact absurd k (by decide)
 ·exact absurd k (by decide)
 ·exact absurd k (by decide)
 ·exact absurd k (by decide)
 ·exact absurd k (by decide)
 ·exact absurd k (by decide)
 ·exact absurd k (by decide)
theorem cone:∀ t e,cfg.D t=some (.slice e)->cfg.W e=true->∃ bytes z,EOk Tryz.prog t e 1 bytes z:=by
 intro t e h k
 have h:cD t=some (.slice e):=h
 have k:cW e=true:=k
 unfold cD at h
 split at h<;>first | (cases h;done) | skip
 ·cases h;exact absurd k (by decide)
 ·cases h;exact absurd k (by decide)
 ·cases h;exact absurd k (by decide)
 ·cases h;exact absurd k (by decide)
 ·cases h;exact absurd k (by decide)
 ·cases h;exact absurd k (by decide)
 ·cases h;exact ⟨8,.pointer none,eok_of Tryz.underlying64 (by kernel_rfl) (by kernel_rfl) (by decide)⟩
 ·cases h;exact absurd k (by decide)
 ·cases h;exact absurd k (by decide)
 ·cases h;exact absurd k (by decide)
 ·cases h;exact absurd k (by decide)
 ·cases h;exact ⟨8,.pointer none,eok_of Tryz.underlying172 (by kernel_rfl) (by kernel_rfl) (by decide)⟩
 ·cases h;exact absurd k (by decide)
theorem cmaps:∀ t kt vt,cfg.M t=some (kt,vt)->∃ k e d z,Tryz.prog.underlying t=some (.map k e)∧Tryz.prog.underlying k=some d∧keyD d kt=true∧(∀ w,(zeroValue e).run Tryz.prog w=.ok z w)∧∀ O,VR O vt vt.zero z:=by
 intro t kt vt h
 have h:cM t=some (kt,vt):=h
 unfold cM at h
 split at h<;>first | (cases h;done) | skip
theorem cok:COk Tryz.prog cfg:=⟨tok,czero,celem,cplaces,ceqs,cone,cmaps⟩
theorem mixed:Tryz.prog.follows .mixedOrders=true:=by kernel_rfl
def bodyOf (f:Func):Code:=match f.body with
 | some c=>c
 | none=>.skip
end Go.Proofs.YthikoaamigiceaaGreatDoor
