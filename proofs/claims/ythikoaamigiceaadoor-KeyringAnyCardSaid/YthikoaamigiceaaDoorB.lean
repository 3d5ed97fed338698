/- What is known of the types. -/
import Derived.Test.YthikoaamigiceaaDoorProg
import Derived.Test.YthikoaamigiceaaDoorR1
namespace Go.Proofs.YthikoaamigiceaaDoor
open Go.Tw
set_option maxRecDepth 100000
set_option linter.unusedSimpArgs false
set_option linter.unusedVariables false
def cD:Nat->Option TypeDesc
 | 3=>some (TypeDesc.int IntKind.i64)
 | 4=>some TypeDesc.bool
 | 5=>some (TypeDesc.int IntKind.u8)
 | 9=>some TypeDesc.string
 | 22=>some (TypeDesc.slice 3)
 | 23=>some (TypeDesc.slice 5)
 | 25=>some (TypeDesc.slice 30)
 | 26=>some (TypeDesc.int IntKind.i64)
 | 30=>some (TypeDesc.struct #[(Field.mk "X" 3 0 false "" "" 0),(Field.mk "Data" 23 1 false "" "" 8)])
 | 36=>some (TypeDesc.struct #[(Field.mk "Name" 9 0 false "" "" 0),(Field.mk "Stream" 9 1 false "" "" 16),(Field.mk "Check" 9 2 false "" "" 32),(Field.mk "Index" 9 3 false "" "" 48),(Field.mk "Token" 9 4 false "" "" 64)])
 | 43=>some (TypeDesc.slice 84)
 | 44=>some (TypeDesc.slice 92)
 | 45=>some (TypeDesc.slice 82)
 | 47=>some (TypeDesc.struct #[(Field.mk "Vault" 3 0 false "" "" 0),(Field.mk "Rotation" 3 1 false "" "" 8),(Field.mk "Vector" 22 2 false "" "" 16),(Field.mk "Snapshots" 43 3 false "" "" 40),(Field.mk "Stripes" 44 4 false "" "" 64),(Field.mk "Generations" 45 5 false "" "" 88)])
 | 51=>some (TypeDesc.map 3 4)
 | 57=>some (TypeDesc.slice 23)
 | 64=>some (TypeDesc.array 5 9)
 | 65=>some (TypeDesc.pointer 9)
 | 66=>some (TypeDesc.slice 65)
 | 69=>some (TypeDesc.array 13 4)
 | 70=>some (TypeDesc.func #[25,3] #[9,4] false)
 | 75=>some (TypeDesc.pointer 112)
 | 82=>some (TypeDesc.struct #[(Field.mk "Name" 9 0 false "" "" 0),(Field.mk "Gen" 3 1 false "" "" 16),(Field.mk "Size" 3 2 false "" "" 24)])
 | 84=>some (TypeDesc.struct #[(Field.mk "Writer" 3 0 false "" "" 0),(Field.mk "Seq" 3 1 false "" "" 8),(Field.mk "Day" 3 2 false "" "" 16),(Field.mk "Root" 82 3 false "" "" 24),(Field.mk "Files" 3 6 false "" "" 56),(Field.mk "Bytes" 3 7 false "" "" 64),(Field.mk "Previous" 9 8 false "" "" 72),(Field.mk "Hold" 4 9 false "" "" 88)])
 | 89=>some (TypeDesc.func #[82] #[] false)
 | 92=>some (TypeDesc.struct #[(Field.mk "ID" 9 0 false "" "" 0),(Field.mk "Vault" 3 1 false "" "" 16),(Field.mk "Block" 3 2 false "" "" 24),(Field.mk "Data" 3 3 false "" "" 32),(Field.mk "Total" 3 4 false "" "" 40),(Field.mk "Refs" 45 5 false "" "" 48)])
 | 112=>some (TypeDesc.struct #[(Field.mk "data" 23 0 false "" "kinkeep/wire" 0),(Field.mk "err" 26 1 false "" "kinkeep/wire" 24)])
 | 114=>some (TypeDesc.int IntKind.u64)
 | 117=>some (TypeDesc.array 256 4)
 | 122=>some (TypeDesc.slice 57)
 | 136=>some (TypeDesc.int IntKind.u64)
 | 140=>some (TypeDesc.array 64 5)
 | 142=>some (TypeDesc.int IntKind.u32)
 | 143=>some (TypeDesc.array 8 142)
 | 145=>some (TypeDesc.struct #[(Field.mk "words" 143 0 false "" "kinkeep/sha256" 0),(Field.mk "buffer" 140 8 false "" "kinkeep/sha256" 32),(Field.mk "length" 3 72 false "" "kinkeep/sha256" 96)])
 | 148=>some (TypeDesc.array 2 5)
 | 150=>some (TypeDesc.struct #[(Field.mk "State" 145 0 true "" "" 0),(Field.mk "outer" 140 73 false "" "kinkeep/hmac" 104)])
 | 152=>some (TypeDesc.struct #[(Field.mk "state" 150 0 false "" "kinkeep/hmac" 0)])
 | 162=>some (TypeDesc.slice 9)
 | 163=>some (TypeDesc.array 64 142)
 | 168=>some (TypeDesc.array 16 5)
 | _=>none
def cZ:Nat->Option Nat
 | 3=>some 1
 | 4=>some 1
 | 5=>some 1
 | 9=>some 1
 | 22=>some 1
 | 23=>some 1
 | 25=>some 1
 | 26=>some 1
 | 30=>some 2
 | 36=>some 5
 | 43=>some 1
 | 44=>some 1
 | 45=>some 1
 | 47=>some 6
 | 51=>some 1
 | 57=>some 1
 | 64=>some 5
 | 65=>some 1
 | 66=>some 1
 | 69=>some 13
 | 70=>some 1
 | 75=>some 1
 | 82=>some 3
 | 84=>some 10
 | 89=>some 1
 | 92=>some 6
 | 112=>some 2
 | 114=>some 1
 | 117=>some 256
 | 122=>some 1
 | 136=>some 1
 | 140=>some 64
 | 142=>some 1
 | 143=>some 8
 | 145=>some 73
 | 148=>some 2
 | 150=>some 137
 | 152=>some 137
 | 162=>some 1
 | 163=>some 64
 | 168=>some 16
 | _=>none
def cI:Nat->Option ZD
 | 3=>some (.t .i)
 | 4=>some (.t .bo)
 | 5=>some (.t .u8)
 | 9=>some (.t .s)
 | 22=>some (.t (.sl .i))
 | 23=>some (.t (.sl .u8))
 | 25=>some (.t (.sl (.pr .i (.pr (.sl .u8) .un))))
 | 26=>some (.t .i)
 | 30=>some (.pr (.t .i) (.pr (.v (.slice none 0 0)) .un))
 | 36=>some (.t (.pr .s (.pr .s (.pr .s (.pr .s (.pr .s .un))))))
 | 43=>some (.t (.sl (.pr .i (.pr .i (.pr .i (.pr (.pr .s (.pr .i (.pr .i .un))) (.pr .i (.pr .i (.pr .s (.pr .bo .un))))))))))
 | 44=>some (.t (.sl (.pr .s (.pr .i (.pr .i (.pr .i (.pr .i (.pr (.sl (.pr .s (.pr .i (.pr .i .un)))) .un))))))))
 | 45=>some (.t (.sl (.pr .s (.pr .i (.pr .i .un)))))
 | 47=>some (.t (.pr .i (.pr .i (.pr (.sl .i) (.pr (.sl (.pr .i (.pr .i (.pr .i (.pr (.pr .s (.pr .i (.pr .i .un))) (.pr .i (.pr .i (.pr .s (.pr .bo .un))))))))) (.pr (.sl (.pr .s (.pr .i (.pr .i (.pr .i (.pr .i (.pr (.sl (.pr .s (.pr .i (.pr .i .un)))) .un))))))) (.pr (.sl (.pr .s (.pr .i (.pr .i .un)))) .un)))))))
 | 57=>some (.v (.slice none 0 0))
 | 64=>some (.t (.ar 5 .s))
 | 65=>some (.v (.pointer none))
 | 66=>some (.v (.slice none 0 0))
 | 69=>some (.t (.ar 13 .bo))
 | 70=>some (.v .nilFunc)
 | 75=>some (.v (.pointer none))
 | 82=>some (.t (.pr .s (.pr .i (.pr .i .un))))
 | 84=>some (.t (.pr .i (.pr .i (.pr .i (.pr (.pr .s (.pr .i (.pr .i .un))) (.pr .i (.pr .i (.pr .s (.pr .bo .un)))))))))
 | 89=>some (.v .nilFunc)
 | 92=>some (.t (.pr .s (.pr .i (.pr .i (.pr .i (.pr .i (.pr (.sl (.pr .s (.pr .i (.pr .i .un)))) .un)))))))
 | 112=>some (.pr (.v (.slice none 0 0)) (.pr (.t .i) .un))
 | 114=>some (.t .u64)
 | 117=>some (.t (.ar 256 .bo))
 | 122=>some (.t (.sl (.sl (.sl .u8))))
 | 136=>some (.t .u64)
 | 140=>some (.t (.ar 64 .u8))
 | 142=>some (.t .u32)
 | 143=>some (.t (.ar 8 .u32))
 | 145=>some (.t (.pr (.ar 8 .u32) (.pr (.ar 64 .u8) (.pr .i .un))))
 | 148=>some (.t (.ar 2 .u8))
 | 150=>some (.t (.pr (.pr (.ar 8 .u32) (.pr (.ar 64 .u8) (.pr .i .un))) (.pr (.ar 64 .u8) .un)))
 | 152=>some (.t (.pr (.pr (.pr (.ar 8 .u32) (.pr (.ar 64 .u8) (.pr .i .un))) (.pr (.ar 64 .u8) .un)) .un))
 | 162=>some (.t (.sl .s))
 | 163=>some (.t (.ar 64 .u32))
 | 168=>some (.t (.ar 16 .u8))
 | _=>none
def cE:Nat->Option Ty
 | 3=>some .i
 | 5=>some .u8
 | 9=>some .s
 | 23=>some (.sl .u8)
 | 30=>some (.pr .i (.pr (.sl .u8) .un))
 | 57=>some (.sl (.sl .u8))
 | 82=>some (.pr .s (.pr .i (.pr .i .un)))
 | 84=>some (.pr .i (.pr .i (.pr .i (.pr (.pr .s (.pr .i (.pr .i .un))) (.pr .i (.pr .i (.pr .s (.pr .bo .un))))))))
 | 92=>some (.pr .s (.pr .i (.pr .i (.pr .i (.pr .i (.pr (.sl (.pr .s (.pr .i (.pr .i .un)))) .un))))))
 | _=>none
def gv0:Vector UInt8 2:=#v[54,92]
def gv1:Vector UInt32 8:=#v[1779033703,3144134277,1013904242,2773480762,1359893119,2600822924,528734635,1541459225]
def gv2:Vector UInt32 64:=#v[1116352408,1899447441,3049323471,3921009573,961987163,1508970993,2453635748,2870763221,3624381080,310598401,607225278,1426881987,1925078388,2162078206,2614888103,3248222580,3835390401,4022224774,264347078,604807628,770255983,1249150122,1555081692,1996064986,2554220882,2821834349,2952996808,3210313671,3336571891,3584528711,113926993,338241895,666307205,773529912,1294757372,1396182291,1695183700,1986661051,2177026350,2456956037,2730485921,2820302411,3259730800,3345764771,3516065817,3600352804,4094571909,275423344,430227734,506948616,659060556,883997877,958139571,1322822218,1537002063,1747873779,1955562222,2024104815,2227730452,2361852424,2428436474,2756734187,3204031479,3329325298]
def cG:Nat->Option ((t:Ty)×t.den)
 | 0=>some ⟨(.ar 2 .u8),(gv0:Ty.den (.ar 2 .u8))⟩
 | 1=>some ⟨(.ar 8 .u32),(gv1:Ty.den (.ar 8 .u32))⟩
 | 2=>some ⟨(.ar 64 .u32),(gv2:Ty.den (.ar 64 .u32))⟩
 | _=>none
def cV:Nat->Bool
 | _=>false
def cW:Nat->Bool
 | 65=>true
 | _=>false
def cM:Nat->Option (Ty×Ty)
 | 51=>some (.i,.bo)
 | _=>none
def cQ:Nat->Bool
 | 36=>true
 | 82=>true
 | _=>false
def cfg:Cfg:=⟨cD,cZ,fun t=>match cI t with | some d=>some d.iv | none=>none,cE,cG,cQ,cV,cW,cM⟩
theorem tok:TOk Tryd.prog cD cZ:=⟨fun t d h=>by
 unfold cD at h
 split at h<;>first | (cases h;done) | skip
 ·cases h;exact Tryd.underlying3
 ·cases h;exact Tryd.underlying4
 ·cases h;exact Tryd.underlying5
 ·cases h;exact Tryd.underlying9
 ·cases h;exact Tryd.underlying22
 ·cases h;exact Tryd.underlying23
 ·cases h;exact Tryd.underlying25
 ·cases h;exact Tryd.underlying26
 ·cases h;exact Tryd.underlying30
 ·cases h;exact Tryd.underlying36
 ·cases h;exact Tryd.underlying43
 ·cases h;exact Tryd.underlying44
 ·cases h;exact Tryd.underlying45
 ·cases h;exact Tryd.underlying47
 ·cases h;exact Tryd.underlying51
 ·cases h;exact Tryd.underlying57
 ·cases h;exact Tryd.underlying64
 ·cases h;exact Tryd.underlying65
 ·cases h;exact Tryd.underlying66
 ·cases h;exact Tryd.underlying69
 ·cases h;exact Tryd.underlying70
 ·cases h;exact Tryd.underlying75
 ·cases h;exact Tryd.underlying82
 ·cases h;exact Tryd.underlying84
 ·cases h;exact Tryd.underlying89
 ·cases h;exact Tryd.underlying92
 ·cases h;exact Tryd.underlying112
 ·cases h;exact Tryd.underlying114
 ·cases h;exact Tryd.underlying117
 ·cases h;exact Tryd.underlying122
 ·cases h;exact Tryd.underlying136
 ·cases h;exact Tryd.underlying140
 ·cases h;exact Tryd.underlying142
 ·cases h;exact Tryd.underlying143
 ·cases h;exact Tryd.underlying145
 ·cases h;exact Tryd.underlying148
 ·cases h;exact Tryd.underlying150
 ·cases h;exact Tryd.underlying152
 ·cases h;exact Tryd.underlying162
 ·cases h;exact Tryd.underlying163
 ·cases h;exact Tryd.underlying168
 , fun t n h=>by
 unfold cZ at h
 split at h<;>first | (cases h;done) | skip
 ·cases h;exact fun w=>by kernel_rfl
 ·cases h;exact fun w=>by kernel_rfl
 ·cases h;exact fun w=>by kernel_rfl
 ·cases h;exact fun w=>by kernel_rfl
 ·cases h;exact fun w=>by kernel_rfl
 ·cases h;exact fun w=>by kernel_rfl
 ·cases h;exact fun w=>by kernel_rfl
 ·cases h;exact fun w=>by kernel_rfl
 ·cases h;exact fun w=>by kernel_rfl
 ·cases h;exact fun w=>by kernel_rfl
 ·cases h;exact fun w=>by kernel_rfl
 ·cases h;exact fun w=>by kernel_rfl
 ·cases h;exact fun w=>by kernel_rfl
 ·cases h;exact fun w=>by kernel_rfl
 ·cases h;exact fun w=>by kernel_rfl
 ·cases h;exact fun w=>by kernel_rfl
 ·cases h;exact fun w=>by kernel_rfl
 ·cases h;exact fun w=>by kernel_rfl
 ·cases h;exact fun w=>by kernel_rfl
 ·cases h;exact fun w=>by kernel_rfl
 ·cases h;exact fun w=>by kernel_rfl
 ·cases h;exact fun w=>by kernel_rfl
 ·cases h;exact fun w=>by kernel_rfl
 ·cases h;exact fun w=>by kernel_rfl
 ·cases h;exact fun w=>by kernel_rfl
 ·cases h;exact fun w=>by kernel_rfl
 ·cases h;exact fun w=>by kernel_rfl
 ·cases h;exact fun w=>by kernel_rfl
 ·cases h;exact fun w=>by kernel_rfl
 ·cases h;exact fun w=>by kernel_rfl
 ·cases h;exact fun w=>by kernel_rfl
 ·cases h;exact fun w=>by kernel_rfl
 ·cases h;exact fun w=>by kernel_rfl
 ·cases h;exact fun w=>by kernel_rfl
 ·cases h;exact fun w=>by kernel_rfl
 ·cases h;exact fun w=>by kernel_rfl
 ·cases h;exact fun w=>by kernel_rfl
 ·cases h;exact fun w=>by kernel_rfl
 ·cases h;exact fun w=>by kernel_rfl
 ·cases h;exact fun w=>by kernel_rfl
 ·cases h;exact fun w=>by kernel_rfl
⟩
theorem zr3:∃ z cs,(∀ w,(zeroValue 3).run Tryd.prog w=.ok z w)∧z.cells=cs.toArray∧∀ O ρ,R O ρ false ((.t .i):ZD).iv cs:=zero_of (z:=(.int .i64 0)) (fun w=>by kernel_rfl) (by kernel_rfl) rfl
theorem zr4:∃ z cs,(∀ w,(zeroValue 4).run Tryd.prog w=.ok z w)∧z.cells=cs.toArray∧∀ O ρ,R O ρ false ((.t .bo):ZD).iv cs:=zero_of (z:=(.bool false)) (fun w=>by kernel_rfl) (by kernel_rfl) rfl
theorem zr5:∃ z cs,(∀ w,(zeroValue 5).run Tryd.prog w=.ok z w)∧z.cells=cs.toArray∧∀ O ρ,R O ρ false ((.t .u8):ZD).iv cs:=zero_of (z:=(.int .u8 0)) (fun w=>by kernel_rfl) (by kernel_rfl) rfl
theorem zr9:∃ z cs,(∀ w,(zeroValue 9).run Tryd.prog w=.ok z w)∧z.cells=cs.toArray∧∀ O ρ,R O ρ false ((.t .s):ZD).iv cs:=zero_of (z:=(.string ⟨#[]⟩)) (fun w=>by kernel_rfl) (by kernel_rfl) rfl
theorem zr22:∃ z cs,(∀ w,(zeroValue 22).run Tryd.prog w=.ok z w)∧z.cells=cs.toArray∧∀ O ρ,R O ρ false ((.t (.sl .i)):ZD).iv cs:=zero_of (z:=(.slice none 0 0)) (fun w=>by kernel_rfl) (by kernel_rfl) rfl
theorem zr23:∃ z cs,(∀ w,(zeroValue 23).run Tryd.prog w=.ok z w)∧z.cells=cs.toArray∧∀ O ρ,R O ρ false ((.t (.sl .u8)):ZD).iv cs:=zero_of (z:=(.slice none 0 0)) (fun w=>by kernel_rfl) (by kernel_rfl) rfl
theorem zr25:∃ z cs,(∀ w,(zeroValue 25).run Tryd.prog w=.ok z w)∧z.cells=cs.toArray∧∀ O ρ,R O ρ false ((.t (.sl (.pr .i (.pr (.sl .u8) .un)))):ZD).iv cs:=zero_of (z:=(.slice none 0 0)) (fun w=>by kernel_rfl) (by kernel_rfl) rfl
theorem zr26:∃ z cs,(∀ w,(zeroValue 26).run Tryd.prog w=.ok z w)∧z.cells=cs.toArray∧∀ O ρ,R O ρ false ((.t .i):ZD).iv cs:=zero_of (z:=(.int .i64 0)) (fun w=>by kernel_rfl) (by kernel_rfl) rfl
theorem zr30:∃ z cs,(∀ w,(zeroValue 30).run Tryd.prog w=.ok z w)∧z.cells=cs.toArray∧∀ O ρ,R O ρ false ((.pr (.t .i) (.pr (.v (.slice none 0 0)) .un)):ZD).iv cs:=zero_of (z:=(.agg #[(.int .i64 0),(.slice none 0 0)])) (fun w=>by kernel_rfl) (by kernel_rfl) rfl
theorem zr36:∃ z cs,(∀ w,(zeroValue 36).run Tryd.prog w=.ok z w)∧z.cells=cs.toArray∧∀ O ρ,R O ρ false ((.t (.pr .s (.pr .s (.pr .s (.pr .s (.pr .s .un)))))):ZD).iv cs:=zero_of (z:=(.agg #[(.string ⟨#[]⟩),(.string ⟨#[]⟩),(.string ⟨#[]⟩),(.string ⟨#[]⟩),(.string ⟨#[]⟩)])) (fun w=>by kernel_rfl) (by kernel_rfl) rfl
theorem zr43:∃ z cs,(∀ w,(zeroValue 43).run Tryd.prog w=.ok z w)∧z.cells=cs.toArray∧∀ O ρ,R O ρ false ((.t (.sl (.pr .i (.pr .i (.pr .i (.pr (.pr .s (.pr .i (.pr .i .un))) (.pr .i (.pr .i (.pr .s (.pr .bo .un)))))))))):ZD).iv cs:=zero_of (z:=(.slice none 0 0)) (fun w=>by kernel_rfl) (by kernel_rfl) rfl
theorem zr44:∃ z cs,(∀ w,(zeroValue 44).run Tryd.prog w=.ok z w)∧z.cells=cs.toArray∧∀ O ρ,R O ρ false ((.t (.sl (.pr .s (.pr .i (.pr .i (.pr .i (.pr .i (.pr (.sl (.pr .s (.pr .i (.pr .i .un)))) .un)))))))):ZD).iv cs:=zero_of (z:=(.slice none 0 0)) (fun w=>by kernel_rfl) (by kernel_rfl) rfl
theorem zr45:∃ z cs,(∀ w,(zeroValue 45).run Tryd.prog w=.ok z w)∧z.cells=cs.toArray∧∀ O ρ,R O ρ false ((.t (.sl (.pr .s (.pr .i (.pr .i .un))))):ZD).iv cs:=zero_of (z:=(.slice none 0 0)) (fun w=>by kernel_rfl) (by kernel_rfl) rfl
theorem zr47:∃ z cs,(∀ w,(zeroValue 47).run Tryd.prog w=.ok z w)∧z.cells=cs.toArray∧∀ O ρ,R O ρ false ((.t (.pr .i (.pr .i (.pr (.sl .i) (.pr (.sl (.pr .i (.pr .i (.pr .i (.pr (.pr .s (.pr .i (.pr .i .un))) (.pr .i (.pr .i (.pr .s (.pr .bo .un))))))))) (.pr (.sl (.pr .s (.pr .i (.pr .i (.pr .i (.pr .i (.pr (.sl (.pr .s (.pr .i (.pr .i .un)))) .un))))))) (.pr (.sl (.pr .s (.pr .i (.pr .i .un)))) .un))))))):ZD).iv cs:=zero_of (z:=(.agg #[(.int .i64 0),(.int .i64 0),(.slice none 0 0),(.slice none 0 0),(.slice none 0 0),(.slice none 0 0)])) (fun w=>by kernel_rfl) (by kernel_rfl) rfl
theorem zr57:∃ z cs,(∀ w,(zeroValue 57).run Tryd.prog w=.ok z w)∧z.cells=cs.toArray∧∀ O ρ,R O ρ false ((.v (.slice none 0 0)):ZD).iv cs:=zero_of (z:=(.slice none 0 0)) (fun w=>by kernel_rfl) (by kernel_rfl) rfl
theorem zr64:∃ z cs,(∀ w,(zeroValue 64).run Tryd.prog w=.ok z w)∧z.cells=cs.toArray∧∀ O ρ,R O ρ false ((.t (.ar 5 .s)):ZD).iv cs:=zero_of (z:=(.agg #[(.string ⟨#[]⟩),(.string ⟨#[]⟩),(.string ⟨#[]⟩),(.string ⟨#[]⟩),(.string ⟨#[]⟩)])) (fun w=>by kernel_rfl) (by kernel_rfl) rfl
theorem zr65:∃ z cs,(∀ w,(zeroValue 65).run Tryd.prog w=.ok z w)∧z.cells=cs.toArray∧∀ O ρ,R O ρ false ((.v (.pointer none)):ZD).iv cs:=zero_of (z:=(.pointer none)) (fun w=>by kernel_rfl) (by kernel_rfl) rfl
theorem zr66:∃ z cs,(∀ w,(zeroValue 66).run Tryd.prog w=.ok z w)∧z.cells=cs.toArray∧∀ O ρ,R O ρ false ((.v (.slice none 0 0)):ZD).iv cs:=zero_of (z:=(.slice none 0 0)) (fun w=>by kernel_rfl) (by kernel_rfl) rfl
theorem zr69:∃ z cs,(∀ w,(zeroValue 69).run Tryd.prog w=.ok z w)∧z.cells=cs.toArray∧∀ O ρ,R O ρ false ((.t (.ar 13 .bo)):ZD).iv cs:=zero_of (z:=(.agg #[(.bool false),(.bool false),(.bool false),(.bool false),(.bool false),(.bool false),(.bool false),(.bool false),(.bool false),(.bool false),(.bool false),(.bool false),(.bool false)])) (fun w=>by kernel_rfl) (by kernel_rfl) rfl
theorem zr70:∃ z cs,(∀ w,(zeroValue 70).run Tryd.prog w=.ok z w)∧z.cells=cs.toArray∧∀ O ρ,R O ρ false ((.v .nilFunc):ZD).iv cs:=zero_of (z:=.nilFunc) (fun w=>by kernel_rfl) (by kernel_rfl) rfl
theorem zr75:∃ z cs,(∀ w,(zeroValue 75).run Tryd.prog w=.ok z w)∧z.cells=cs.toArray∧∀ O ρ,R O ρ false ((.v (.pointer none)):ZD).iv cs:=zero_of (z:=(.pointer none)) (fun w=>by kernel_rfl) (by kernel_rfl) rfl
theorem zr82:∃ z cs,(∀ w,(zeroValue 82).run Tryd.prog w=.ok z w)∧z.cells=cs.toArray∧∀ O ρ,R O ρ false ((.t (.pr .s (.pr .i (.pr .i .un)))):ZD).iv cs:=zero_of (z:=(.agg #[(.string ⟨#[]⟩),(.int .i64 0),(.int .i64 0)])) (fun w=>by kernel_rfl) (by kernel_rfl) rfl
theorem zr84:∃ z cs,(∀ w,(zeroValue 84).run Tryd.prog w=.ok z w)∧z.cells=cs.toArray∧∀ O ρ,R O ρ false ((.t (.pr .i (.pr .i (.pr .i (.pr (.pr .s (.pr .i (.pr .i .un))) (.pr .i (.pr .i (.pr .s (.pr .bo .un))))))))):ZD).iv cs:=zero_of (z:=(.agg #[(.int .i64 0),(.int .i64 0),(.int .i64 0),(.string ⟨#[]⟩),(.int .i64 0),(.int .i64 0),(.int .i64 0),(.int .i64 0),(.string ⟨#[]⟩),(.bool false)])) (fun w=>by kernel_rfl) (by kernel_rfl) rfl
theorem zr89:∃ z cs,(∀ w,(zeroValue 89).run Tryd.prog w=.ok z w)∧z.cells=cs.toArray∧∀ O ρ,R O ρ false ((.v .nilFunc):ZD).iv cs:=zero_of (z:=.nilFunc) (fun w=>by kernel_rfl) (by kernel_rfl) rfl
theorem zr92:∃ z cs,(∀ w,(zeroValue 92).run Tryd.prog w=.ok z w)∧z.cells=cs.toArray∧∀ O ρ,R O ρ false ((.t (.pr .s (.pr .i (.pr .i (.pr .i (.pr .i (.pr (.sl (.pr .s (.pr .i (.pr .i .un)))) .un))))))):ZD).iv cs:=zero_of (z:=(.agg #[(.string ⟨#[]⟩),(.int .i64 0),(.int .i64 0),(.int .i64 0),(.int .i64 0),(.slice none 0 0)])) (fun w=>by kernel_rfl) (by kernel_rfl) rfl
theorem zr112:∃ z cs,(∀ w,(zeroValue 112).run Tryd.prog w=.ok z w)∧z.cells=cs.toArray∧∀ O ρ,R O ρ false ((.pr (.v (.slice none 0 0)) (.pr (.t .i) .un)):ZD).iv cs:=zero_of (z:=(.agg #[(.slice none 0 0),(.int .i64 0)])) (fun w=>by kernel_rfl) (by kernel_rfl) rfl
theorem zr114:∃ z cs,(∀ w,(zeroValue 114).run Tryd.prog w=.ok z w)∧z.cells=cs.toArray∧∀ O ρ,R O ρ false ((.t .u64):ZD).iv cs:=zero_of (z:=(.int .u64 0)) (fun w=>by kernel_rfl) (by kernel_rfl) rfl
theorem zr117:∃ z cs,(∀ w,(zeroValue 117).run Tryd.prog w=.ok z w)∧z.cells=cs.toArray∧∀ O ρ,R O ρ false ((.t (.ar 256 .bo)):ZD).iv cs:=zero_of (z:=(.agg (List.replicate 256 (.bool false)).toArray)) (fun w=>by kernel_rfl) (by kernel_rfl) rfl
theorem zr122:∃ z cs,(∀ w,(zeroValue 122).run Tryd.prog w=.ok z w)∧z.cells=cs.toArray∧∀ O ρ,R O ρ false ((.t (.sl (.sl (.sl .u8)))):ZD).iv cs:=zero_of (z:=(.slice none 0 0)) (fun w=>by kernel_rfl) (by kernel_rfl) rfl
theorem zr136:∃ z cs,(∀ w,(zeroValue 136).run Tryd.prog w=.ok z w)∧z.cells=cs.toArray∧∀ O ρ,R O ρ false ((.t .u64):ZD).iv cs:=zero_of (z:=(.int .u64 0)) (fun w=>by kernel_rfl) (by kernel_rfl) rfl
theorem zr140:∃ z cs,(∀ w,(zeroValue 140).run Tryd.prog w=.ok z w)∧z.cells=cs.toArray∧∀ O ρ,R O ρ false ((.t (.ar 64 .u8)):ZD).iv cs:=zero_of (z:=(.agg (List.replicate 64 (.int .u8 0)).toArray)) (fun w=>by kernel_rfl) (by kernel_rfl) rfl
theorem zr142:∃ z cs,(∀ w,(zeroValue 142).run Tryd.prog w=.ok z w)∧z.cells=cs.toArray∧∀ O ρ,R O ρ false ((.t .u32):ZD).iv cs:=zero_of (z:=(.int .u32 0)) (fun w=>by kernel_rfl) (by kernel_rfl) rfl
theorem zr143:∃ z cs,(∀ w,(zeroValue 143).run Tryd.prog w=.ok z w)∧z.cells=cs.toArray∧∀ O ρ,R O ρ false ((.t (.ar 8 .u32)):ZD).iv cs:=zero_of (z:=(.agg #[(.int .u32 0),(.int .u32 0),(.int .u32 0),(.int .u32 0),(.int .u32 0),(.int .u32 0),(.int .u32 0),(.int .u32 0)])) (fun w=>by kernel_rfl) (by kernel_rfl) rfl
theorem zr145:∃ z cs,(∀ w,(zeroValue 145).run Tryd.prog w=.ok z w)∧z.cells=cs.toArray∧∀ O ρ,R O ρ false ((.t (.pr (.ar 8 .u32) (.pr (.ar 64 .u8) (.pr .i .un)))):ZD).iv cs:=zero_of (z:=(.agg #[(.int .u32 0),(.int .u32 0),(.int .u32 0),(.int .u32 0),(.int .u32 0),(.int .u32 0),(.int .u32 0),(.int .u32 0),(.int .u8 0),(.int .u8 0),(.int .u8 0),(.int .u8 0),(.int .u8 0),(.int .u8 0),(.int .u8 0),(.int .u8 0),(.int .u8 0),(.int .u8 0),(.int .u8 0),(.int .u8 0),(.int .u8 0),(.int .u8 0),(.int .u8 0),(.int .u8 0),(.int .u8 0),(.int .u8 0),(.int .u8 0),(.int .u8 0),(.int .u8 0),(.int .u8 0),(.int .u8 0),(.int .u8 0),(.int .u8 0),(.int .u8 0),(.int .u8 0),(.int .u8 0),(.int .u8 0),(.int .u8 0),(.int .u8 0),(.int .u8 0),(.int .u8 0),(.int .u8 0),(.int .u8 0),(.int .u8 0),(.int .u8 0),(.int .u8 0),(.int .u8 0),(.int .u8 0),(.int .u8 0),(.int .u8 0),(.int .u8 0),(.int .u8 0),(.int .u8 0),(.int .u8 0),(.int .u8 0),(.int .u8 0),(.int .u8 0),(.int .u8 0),(.int .u8 0),(.int .u8 0),(.int .u8 0),(.int .u8 0),(.int .u8 0),(.int .u8 0),(.int .u8 0),(.int .u8 0),(.int .u8 0),(.int .u8 0),(.int .u8 0),(.int .u8 0),(.int .u8 0),(.int .u8 0),(.int .i64 0)])) (fun w=>by kernel_rfl) (by kernel_rfl) rfl
theorem zr148:∃ z cs,(∀ w,(zeroValue 148).run Tryd.prog w=.ok z w)∧z.cells=cs.toArray∧∀ O ρ,R O ρ false ((.t (.ar 2 .u8)):ZD).iv cs:=zero_of (z:=(.agg #[(.int .u8 0),(.int .u8 0)])) (fun w=>by kernel_rfl) (by kernel_rfl) rfl
theorem zr150:∃ z cs,(∀ w,(zeroValue 150).run Tryd.prog w=.ok z w)∧z.cells=cs.toArray∧∀ O ρ,R O ρ false ((.t (.pr (.pr (.ar 8 .u32) (.pr (.ar 64 .u8) (.pr .i .un))) (.pr (.ar 64 .u8) .un))):ZD).iv cs:=zero_of (z:=(.agg #[(.int .u32 0),(.int .u32 0),(.int .u32 0),(.int .u32 0),(.int .u32 0),(.int .u32 0),(.int .u32 0),(.int .u32 0),(.int .u8 0),(.int .u8 0),(.int .u8 0),(.int .u8 0),(.int .u8 0),(.int .u8 0),(.int .u8 0),(.int .u8 0),(.int .u8 0),(.int .u8 0),(.int .u8 0),(.int .u8 0),(.int .u8 0),(.int .u8 0),(.int .u8 0),(.int .u8 0),(.int .u8 0),(.int .u8 0),(.int .u8 0),(.int .u8 0),(.int .u8 0),(.int .u8 0),(.int .u8 0),(.int .u8 0),(.int .u8 0),(.int .u8 0),(.int .u8 0),(.int .u8 0),(.int .u8 0),(.int .u8 0),(.int .u8 0),(.int .u8 0),(.int .u8 0),(.int .u8 0),(.int .u8 0),(.int .u8 0),(.int .u8 0),(.int .u8 0),(.int .u8 0),(.int .u8 0),(.int .u8 0),(.int .u8 0),(.int .u8 0),(.int .u8 0),(.int .u8 0),(.int .u8 0),(.int .u8 0),(.int .u8 0),(.int .u8 0),(.int .u8 0),(.int .u8 0),(.int .u8 0),(.int .u8 0),(.int .u8 0),(.int .u8 0),(.int .u8 0),(.int .u8 0),(.int .u8 0),(.int .u8 0),(.int .u8 0),(.int .u8 0),(.int .u8 0),(.int .u8 0),(.int .u8 0),(.int .i64 0),(.int .u8 0),(.int .u8 0),(.int .u8 0),(.int .u8 0),(.int .u8 0),(.int .u8 0),(.int .u8 0),(.int .u8 0),(.int .u8 0),(.int .u8 0),(.int .u8 0),(.int .u8 0),(.int .u8 0),(.int .u8 0),(.int .u8 0),(.int .u8 0),(.int .u8 0),(.int .u8 0),(.int .u8 0),(.int .u8 0),(.int .u8 0),(.int .u8 0),(.int .u8 0),(.int .u8 0),(.int .u8 0),(.int .u8 0),(.int .u8 0),(.int .u8 0),(.int .u8 0),(.int .u8 0),(.int .u8 0),(.int .u8 0),(.int .u8 0),(.int .u8 0),(.int .u8 0),(.int .u8 0),(.int .u8 0),(.int .u8 0),(.int .u8 0),(.int .u8 0),(.int .u8 0),(.int .u8 0),(.int .u8 0),(.int .u8 0),(.int .u8 0),(.int .u8 0),(.int .u8 0),(.int .u8 0),(.int .u8 0),(.int .u8 0),(.int .u8 0),(.int .u8 0),(.int .u8 0),(.int .u8 0),(.int .u8 0),(.int .u8 0),(.int .u8 0),(.int .u8 0),(.int .u8 0),(.int .u8 0),(.int .u8 0),(.int .u8 0),(.int .u8 0),(.int .u8 0)])) (fun w=>by kernel_rfl) (by kernel_rfl) rfl
theorem zr152:∃ z cs,(∀ w,(zeroValue 152).run Tryd.prog w=.ok z w)∧z.cells=cs.toArray∧∀ O ρ,R O ρ false ((.t (.pr (.pr (.pr (.ar 8 .u32) (.pr (.ar 64 .u8) (.pr .i .un))) (.pr (.ar 64 .u8) .un)) .un)):ZD).iv cs:=zero_of (z:=(.agg #[(.int .u32 0),(.int .u32 0),(.int .u32 0),(.int .u32 0),(.int .u32 0),(.int .u32 0),(.int .u32 0),(.int .u32 0),(.int .u8 0),(.int .u8 0),(.int .u8 0),(.int .u8 0),(.int .u8 0),(.int .u8 0),(.int .u8 0),(.int .u8 0),(.int .u8 0),(.int .u8 0),(.int .u8 0),(.int .u8 0),(.int .u8 0),(.int .u8 0),(.int .u8 0),(.int .u8 0),(.int .u8 0),(.int .u8 0),(.int .u8 0),(.int .u8 0),(.int .u8 0),(.int .u8 0),(.int .u8 0),(.int .u8 0),(.int .u8 0),(.int .u8 0),(.int .u8 0),(.int .u8 0),(.int .u8 0),(.int .u8 0),(.int .u8 0),(.int .u8 0),(.int .u8 0),(.int .u8 0),(.int .u8 0),(.int .u8 0),(.int .u8 0),(.int .u8 0),(.int .u8 0),(.int .u8 0),(.int .u8 0),(.int .u8 0),(.int .u8 0),(.int .u8 0),(.int .u8 0),(.int .u8 0),(.int .u8 0),(.int .u8 0),(.int .u8 0),(.int .u8 0),(.int .u8 0),(.int .u8 0),(.int .u8 0),(.int .u8 0),(.int .u8 0),(.int .u8 0),(.int .u8 0),(.int .u8 0),(.int .u8 0),(.int .u8 0),(.int .u8 0),(.int .u8 0),(.int .u8 0),(.int .u8 0),(.int .i64 0),(.int .u8 0),(.int .u8 0),(.int .u8 0),(.int .u8 0),(.int .u8 0),(.int .u8 0),(.int .u8 0),(.int .u8 0),(.int .u8 0),(.int .u8 0),(.int .u8 0),(.int .u8 0),(.int .u8 0),(.int .u8 0),(.int .u8 0),(.int .u8 0),(.int .u8 0),(.int .u8 0),(.int .u8 0),(.int .u8 0),(.int .u8 0),(.int .u8 0),(.int .u8 0),(.int .u8 0),(.int .u8 0),(.int .u8 0),(.int .u8 0),(.int .u8 0),(.int .u8 0),(.int .u8 0),(.int .u8 0),(.int .u8 0),(.int .u8 0),(.int .u8 0),(.int .u8 0),(.int .u8 0),(.int .u8 0),(.int .u8 0),(.int .u8 0),(.int .u8 0),(.int .u8 0),(.int .u8 0),(.int .u8 0),(.int .u8 0),(.int .u8 0),(.int .u8 0),(.int .u8 0),(.int .u8 0),(.int .u8 0),(.int .u8 0),(.int .u8 0),(.int .u8 0),(.int .u8 0),(.int .u8 0),(.int .u8 0),(.int .u8 0),(.int .u8 0),(.int .u8 0),(.int .u8 0),(.int .u8 0),(.int .u8 0),(.int .u8 0),(.int .u8 0),(.int .u8 0)])) (fun w=>by kernel_rfl) (by kernel_rfl) rfl
theorem zr162:∃ z cs,(∀ w,(zeroValue 162).run Tryd.prog w=.ok z w)∧z.cells=cs.toArray∧∀ O ρ,R O ρ false ((.t (.sl .s)):ZD).iv cs:=zero_of (z:=(.slice none 0 0)) (fun w=>by kernel_rfl) (by kernel_rfl) rfl
theorem zr163:∃ z cs,(∀ w,(zeroValue 163).run Tryd.prog w=.ok z w)∧z.cells=cs.toArray∧∀ O ρ,R O ρ false ((.t (.ar 64 .u32)):ZD).iv cs:=zero_of (z:=(.agg (List.replicate 64 (.int .u32 0)).toArray)) (fun w=>by kernel_rfl) (by kernel_rfl) rfl
theorem zr168:∃ z cs,(∀ w,(zeroValue 168).run Tryd.prog w=.ok z w)∧z.cells=cs.toArray∧∀ O ρ,R O ρ false ((.t (.ar 16 .u8)):ZD).iv cs:=zero_of (z:=(.agg #[(.int .u8 0),(.int .u8 0),(.int .u8 0),(.int .u8 0),(.int .u8 0),(.int .u8 0),(.int .u8 0),(.int .u8 0),(.int .u8 0),(.int .u8 0),(.int .u8 0),(.int .u8 0),(.int .u8 0),(.int .u8 0),(.int .u8 0),(.int .u8 0)])) (fun w=>by kernel_rfl) (by kernel_rfl) rfl
theorem czero:∀ t v,cfg.I t=some v->∃ z cs,(∀ w,(zeroValue t).run Tryd.prog w=.ok z w)∧z.cells=cs.toArray∧∀ O ρ,R O ρ false v cs:=by
 intro t v h
 simp only [cfg] at h
 split at h<;>first | (cases h;done) | skip
 rename_i d hd
 cases h
 unfold cI at hd
 split at hd<;>first | (cases hd;done) | skip
 ·cases hd;exact zr3
 ·cases hd;exact zr4
 ·cases hd;exact zr5
 ·cases hd;exact zr9
 ·cases hd;exact zr22
 ·cases hd;exact zr23
 ·cases hd;exact zr25
 ·cases hd;exact zr26
 ·cases hd;exact zr30
 ·cases hd;exact zr36
 ·cases hd;exact zr43
 ·cases hd;exact zr44
 ·cases hd;exact zr45
 ·cases hd;exact zr47
 ·cases hd;exact zr57
 ·cases hd;exact zr64
 ·cases hd;exact zr65
 ·cases hd;exact zr66
 ·cases hd;exact zr69
 ·cases hd;exact zr70
 ·cases hd;exact zr75
 ·cases hd;exact zr82
 ·cases hd;exact zr84
 ·cases hd;exact zr89
 ·cases hd;exact zr92
 ·cases hd;exact zr112
 ·cases hd;exact zr114
 ·cases hd;exact zr117
 ·cases hd;exact zr122
 ·cases hd;exact zr136
 ·cases hd;exact zr140
 ·cases hd;exact zr142
 ·cases hd;exact zr143
 ·cases hd;exact zr145
 ·cases hd;exact zr148
 ·cases hd;exact zr150
 ·cases hd;exact zr152
 ·cases hd;exact zr162
 ·cases hd;exact zr163
 ·cases hd;exact zr168
theorem el22:∃ bytes z zc,EOk Tryd.prog 22 3 (.i:Ty).size bytes z∧bytes≤128∧z.cells=zc.toArray∧∀ O,TR O .i (.i:Ty).zero zc:=elem_of (b:=8) (z:=(.int .i64 0)) (eok_of Tryd.underlying22 (by kernel_rfl) (by kernel_rfl) (by decide)) (by decide) (by kernel_rfl)
theorem el23:∃ bytes z zc,EOk Tryd.prog 23 5 (.u8:Ty).size bytes z∧bytes≤128∧z.cells=zc.toArray∧∀ O,TR O .u8 (.u8:Ty).zero zc:=elem_of (b:=1) (z:=(.int .u8 0)) (eok_of Tryd.underlying23 (by kernel_rfl) (by kernel_rfl) (by decide)) (by decide) (by kernel_rfl)
theorem el25:∃ bytes z zc,EOk Tryd.prog 25 30 ((.pr .i (.pr (.sl .u8) .un)):Ty).size bytes z∧bytes≤128∧z.cells=zc.toArray∧∀ O,TR O (.pr .i (.pr (.sl .u8) .un)) ((.pr .i (.pr (.sl .u8) .un)):Ty).zero zc:=elem_of (b:=32) (z:=(.agg #[(.int .i64 0),(.slice none 0 0)])) (eok_of Tryd.underlying25 (by kernel_rfl) (by kernel_rfl) (by decide)) (by decide) (by kernel_rfl)
theorem el43:∃ bytes z zc,EOk Tryd.prog 43 84 ((.pr .i (.pr .i (.pr .i (.pr (.pr .s (.pr .i (.pr .i .un))) (.pr .i (.pr .i (.pr .s (.pr .bo .un)))))))):Ty).size bytes z∧bytes≤128∧z.cells=zc.toArray∧∀ O,TR O (.pr .i (.pr .i (.pr .i (.pr (.pr .s (.pr .i (.pr .i .un))) (.pr .i (.pr .i (.pr .s (.pr .bo .un)))))))) ((.pr .i (.pr .i (.pr .i (.pr (.pr .s (.pr .i (.pr .i .un))) (.pr .i (.pr .i (.pr .s (.pr .bo .un)))))))):Ty).zero zc:=elem_of (b:=96) (z:=(.agg #[(.int .i64 0),(.int .i64 0),(.int .i64 0),(.string ⟨#[]⟩),(.int .i64 0),(.int .i64 0),(.int .i64 0),(.int .i64 0),(.string ⟨#[]⟩),(.bool false)])) (eok_of Tryd.underlying43 (by kernel_rfl) (by kernel_rfl) (by decide)) (by decide) (by kernel_rfl)
theorem el44:∃ bytes z zc,EOk Tryd.prog 44 92 ((.pr .s (.pr .i (.pr .i (.pr .i (.pr .i (.pr (.sl (.pr .s (.pr .i (.pr .i .un)))) .un)))))):Ty).size bytes z∧bytes≤128∧z.cells=zc.toArray∧∀ O,TR O (.pr .s (.pr .i (.pr .i (.pr .i (.pr .i (.pr (.sl (.pr .s (.pr .i (.pr .i .un)))) .un)))))) ((.pr .s (.pr .i (.pr .i (.pr .i (.pr .i (.pr (.sl (.pr .s (.pr .i (.pr .i .un)))) .un)))))):Ty).zero zc:=elem_of (b:=72) (z:=(.agg #[(.string ⟨#[]⟩),(.int .i64 0),(.int .i64 0),(.int .i64 0),(.int .i64 0),(.slice none 0 0)])) (eok_of Tryd.underlying44 (by kernel_rfl) (by kernel_rfl) (by decide)) (by decide) (by kernel_rfl)
theorem el45:∃ bytes z zc,EOk Tryd.prog 45 82 ((.pr .s (.pr .i (.pr .i .un))):Ty).size bytes z∧bytes≤128∧z.cells=zc.toArray∧∀ O,TR O (.pr .s (.pr .i (.pr .i .un))) ((.pr .s (.pr .i (.pr .i .un))):Ty).zero zc:=elem_of (b:=32) (z:=(.agg #[(.string ⟨#[]⟩),(.int .i64 0),(.int .i64 0)])) (eok_of Tryd.underlying45 (by kernel_rfl) (by kernel_rfl) (by decide)) (by decide) (by kernel_rfl)
theorem el57:∃ bytes z zc,EOk Tryd.prog 57 23 ((.sl .u8):Ty).size bytes z∧bytes≤128∧z.cells=zc.toArray∧∀ O,TR O (.sl .u8) ((.sl .u8):Ty).zero zc:=elem_of (b:=24) (z:=(.slice none 0 0)) (eok_of Tryd.underlying57 (by kernel_rfl) (by kernel_rfl) (by decide)) (by decide) (by kernel_rfl)
theorem el122:∃ bytes z zc,EOk Tryd.prog 122 57 ((.sl (.sl .u8)):Ty).size bytes z∧bytes≤128∧z.cells=zc.toArray∧∀ O,TR O (.sl (.sl .u8)) ((.sl (.sl .u8)):Ty).zero zc:=elem_of (b:=24) (z:=(.slice none 0 0)) (eok_of Tryd.underlying122 (by kernel_rfl) (by kernel_rfl) (by decide)) (by decide) (by kernel_rfl)
theorem el162:∃ bytes z zc,EOk Tryd.prog 162 9 (.s:Ty).size bytes z∧bytes≤128∧z.cells=zc.toArray∧∀ O,TR O .s (.s:Ty).zero zc:=elem_of (b:=16) (z:=(.string ⟨#[]⟩)) (eok_of Tryd.underlying162 (by kernel_rfl) (by kernel_rfl) (by decide)) (by decide) (by kernel_rfl)
theorem celem:∀ t e ty,cfg.D t=some (.slice e)->cfg.E e=some ty->∃ bytes z zc,EOk Tryd.prog t e ty.size bytes z∧bytes≤128∧z.cells=zc.toArray∧∀ O,TR O ty ty.zero zc:=by
 intro t e ty h k
 have h:cD t=some (.slice e):=h
 have k:cE e=some ty:=k
 unfold cD at h
 split at h<;>first | (cases h;done) | skip
 ·cases h;cases k;exact el22
 ·cases h;cases k;exact el23
 ·cases h;cases k;exact el25
 ·cases h;cases k;exact el43
 ·cases h;cases k;exact el44
 ·cases h;cases k;exact el45
 ·cases h;cases k;exact el57
 ·cases h;cases k
 ·cases h;cases k;exact el122
 ·cases h;cases k;exact el162
theorem pl30:∃ pl:Array (Nat×Nat),(∀ w,((#[(Field.mk "X" 3 0 false "" "" 0),(Field.mk "Data" 23 1 false "" "" 8)]:Array Field).mapM (m:=Sem) fun f=>do pure (f.offset,← sizeOf f.type)).run Tryd.prog w=.ok pl w)∧∀ (i:Nat) (f:Field),(#[(Field.mk "X" 3 0 false "" "" 0),(Field.mk "Data" 23 1 false "" "" 8)]:Array Field)[i]? = some f->∃ z,pl[i]? = some (f.offset,z)∧cZ f.type=some z:=places_of #[(0,1),(1,1)] (fun w=>by kernel_rfl) (by kernel_rfl)
theorem pl36:∃ pl:Array (Nat×Nat),(∀ w,((#[(Field.mk "Name" 9 0 false "" "" 0),(Field.mk "Stream" 9 1 false "" "" 16),(Field.mk "Check" 9 2 false "" "" 32),(Field.mk "Index" 9 3 false "" "" 48),(Field.mk "Token" 9 4 false "" "" 64)]:Array Field).mapM (m:=Sem) fun f=>do pure (f.offset,← sizeOf f.type)).run Tryd.prog w=.ok pl w)∧∀ (i:Nat) (f:Field),(#[(Field.mk "Name" 9 0 false "" "" 0),(Field.mk "Stream" 9 1 false "" "" 16),(Field.mk "Check" 9 2 false "" "" 32),(Field.mk "Index" 9 3 false "" "" 48),(Field.mk "Token" 9 4 false "" "" 64)]:Array Field)[i]? = some f->∃ z,pl[i]? = some (f.offset,z)∧cZ f.type=some z:=places_of #[(0,1),(1,1),(2,1),(3,1),(4,1)] (fun w=>by kernel_rfl) (by kernel_rfl)
theorem pl47:∃ pl:Array (Nat×Nat),(∀ w,((#[(Field.mk "Vault" 3 0 false "" "" 0),(Field.mk "Rotation" 3 1 false "" "" 8),(Field.mk "Vector" 22 2 false "" "" 16),(Field.mk "Snapshots" 43 3 false "" "" 40),(Field.mk "Stripes" 44 4 false "" "" 64),(Field.mk "Generations" 45 5 false "" "" 88)]:Array Field).mapM (m:=Sem) fun f=>do pure (f.offset,← sizeOf f.type)).run Tryd.prog w=.ok pl w)∧∀ (i:Nat) (f:Field),(#[(Field.mk "Vault" 3 0 false "" "" 0),(Field.mk "Rotation" 3 1 false "" "" 8),(Field.mk "Vector" 22 2 false "" "" 16),(Field.mk "Snapshots" 43 3 false "" "" 40),(Field.mk "Stripes" 44 4 false "" "" 64),(Field.mk "Generations" 45 5 false "" "" 88)]:Array Field)[i]? = some f->∃ z,pl[i]? = some (f.offset,z)∧cZ f.type=some z:=places_of #[(0,1),(1,1),(2,1),(3,1),(4,1),(5,1)] (fun w=>by kernel_rfl) (by kernel_rfl)
theorem pl82:∃ pl:Array (Nat×Nat),(∀ w,((#[(Field.mk "Name" 9 0 false "" "" 0),(Field.mk "Gen" 3 1 false "" "" 16),(Field.mk "Size" 3 2 false "" "" 24)]:Array Field).mapM (m:=Sem) fun f=>do pure (f.offset,← sizeOf f.type)).run Tryd.prog w=.ok pl w)∧∀ (i:Nat) (f:Field),(#[(Field.mk "Name" 9 0 false "" "" 0),(Field.mk "Gen" 3 1 false "" "" 16),(Field.mk "Size" 3 2 false "" "" 24)]:Array Field)[i]? = some f->∃ z,pl[i]? = some (f.offset,z)∧cZ f.type=some z:=places_of #[(0,1),(1,1),(2,1)] (fun w=>by kernel_rfl) (by kernel_rfl)
theorem pl84:∃ pl:Array (Nat×Nat),(∀ w,((#[(Field.mk "Writer" 3 0 false "" "" 0),(Field.mk "Seq" 3 1 false "" "" 8),(Field.mk "Day" 3 2 false "" "" 16),(Field.mk "Root" 82 3 false "" "" 24),(Field.mk "Files" 3 6 false "" "" 56),(Field.mk "Bytes" 3 7 false "" "" 64),(Field.mk "Previous" 9 8 false "" "" 72),(Field.mk "Hold" 4 9 false "" "" 88)]:Array Field).mapM (m:=Sem) fun f=>do pure (f.offset,← sizeOf f.type)).run Tryd.prog w=.ok pl w)∧∀ (i:Nat) (f:Field),(#[(Field.mk "Writer" 3 0 false "" "" 0),(Field.mk "Seq" 3 1 false "" "" 8),(Field.mk "Day" 3 2 false "" "" 16),(Field.mk "Root" 82 3 false "" "" 24),(Field.mk "Files" 3 6 false "" "" 56),(Field.mk "Bytes" 3 7 false "" "" 64),(Field.mk "Previous" 9 8 false "" "" 72),(Field.mk "Hold" 4 9 false "" "" 88)]:Array Field)[i]? = some f->∃ z,pl[i]? = some (f.offset,z)∧cZ f.type=some z:=places_of #[(0,1),(1,1),(2,1),(3,3),(6,1),(7,1),(8,1),(9,1)] (fun w=>by kernel_rfl) (by kernel_rfl)
theorem pl92:∃ pl:Array (Nat×Nat),(∀ w,((#[(Field.mk "ID" 9 0 false "" "" 0),(Field.mk "Vault" 3 1 false "" "" 16),(Field.mk "Block" 3 2 false "" "" 24),(Field.mk "Data" 3 3 false "" "" 32),(Field.mk "Total" 3 4 false "" "" 40),(Field.mk "Refs" 45 5 false "" "" 48)]:Array Field).mapM (m:=Sem) fun f=>do pure (f.offset,← sizeOf f.type)).run Tryd.prog w=.ok pl w)∧∀ (i:Nat) (f:Field),(#[(Field.mk "ID" 9 0 false "" "" 0),(Field.mk "Vault" 3 1 false "" "" 16),(Field.mk "Block" 3 2 false "" "" 24),(Field.mk "Data" 3 3 false "" "" 32),(Field.mk "Total" 3 4 false "" "" 40),(Field.mk "Refs" 45 5 false "" "" 48)]:Array Field)[i]? = some f->∃ z,pl[i]? = some (f.offset,z)∧cZ f.type=some z:=places_of #[(0,1),(1,1),(2,1),(3,1),(4,1),(5,1)] (fun w=>by kernel_rfl) (by kernel_rfl)
theorem pl112:∃ pl:Array (Nat×Nat),(∀ w,((#[(Field.mk "data" 23 0 false "" "kinkeep/wire" 0),(Field.mk "err" 26 1 false "" "kinkeep/wire" 24)]:Array Field).mapM (m:=Sem) fun f=>do pure (f.offset,← sizeOf f.type)).run Tryd.prog w=.ok pl w)∧∀ (i:Nat) (f:Field),(#[(Field.mk "data" 23 0 false "" "kinkeep/wire" 0),(Field.mk "err" 26 1 false "" "kinkeep/wire" 24)]:Array Field)[i]? = some f->∃ z,pl[i]? = some (f.offset,z)∧cZ f.type=some z:=places_of #[(0,1),(1,1)] (fun w=>by kernel_rfl) (by kernel_rfl)
theorem pl145:∃ pl:Array (Nat×Nat),(∀ w,((#[(Field.mk "words" 143 0 false "" "kinkeep/sha256" 0),(Field.mk "buffer" 140 8 false "" "kinkeep/sha256" 32),(Field.mk "length" 3 72 false "" "kinkeep/sha256" 96)]:Array Field).mapM (m:=Sem) fun f=>do pure (f.offset,← sizeOf f.type)).run Tryd.prog w=.ok pl w)∧∀ (i:Nat) (f:Field),(#[(Field.mk "words" 143 0 false "" "kinkeep/sha256" 0),(Field.mk "buffer" 140 8 false "" "kinkeep/sha256" 32),(Field.mk "length" 3 72 false "" "kinkeep/sha256" 96)]:Array Field)[i]? = some f->∃ z,pl[i]? = some (f.offset,z)∧cZ f.type=some z:=places_of #[(0,8),(8,64),(72,1)] (fun w=>by kernel_rfl) (by kernel_rfl)
theorem pl150:∃ pl:Array (Nat×Nat),(∀ w,((#[(Field.mk "State" 145 0 true "" "" 0),(Field.mk "outer" 140 73 false "" "kinkeep/hmac" 104)]:Array Field).mapM (m:=Sem) fun f=>do pure (f.offset,← sizeOf f.type)).run Tryd.prog w=.ok pl w)∧∀ (i:Nat) (f:Field),(#[(Field.mk "State" 145 0 true "" "" 0),(Field.mk "outer" 140 73 false "" "kinkeep/hmac" 104)]:Array Field)[i]? = some f->∃ z,pl[i]? = some (f.offset,z)∧cZ f.type=some z:=places_of #[(0,73),(73,64)] (fun w=>by kernel_rfl) (by kernel_rfl)
theorem pl152:∃ pl:Array (Nat×Nat),(∀ w,((#[(Field.mk "state" 150 0 false "" "kinkeep/hmac" 0)]:Array Field).mapM (m:=Sem) fun f=>do pure (f.offset,← sizeOf f.type)).run Tryd.prog w=.ok pl w)∧∀ (i:Nat) (f:Field),(#[(Field.mk "state" 150 0 false "" "kinkeep/hmac" 0)]:Array Field)[i]? = some f->∃ z,pl[i]? = some (f.offset,z)∧cZ f.type=some z:=places_of #[(0,137)] (fun w=>by kernel_rfl) (by kernel_rfl)
theorem cplaces:∀ t fs,cfg.D t=some (.struct fs)->∃ pl:Array (Nat×Nat),(∀ w,(fs.mapM (m:=Sem) fun f=>do pure (f.offset,← sizeOf f.type)).run Tryd.prog w=.ok pl w)∧∀ (i:Nat) (f:Field),fs[i]? = some f->∃ z,pl[i]? = some (f.offset,z)∧cfg.Z f.type=some z:=by
 intro t fs h
 have h:cD t=some (.struct fs):=h
 unfold cD at h
 split at h<;>first | (cases h;done) | skip
 ·cases h;exact pl30
 ·cases h;exact pl36
 ·cases h;exact pl47
 ·cases h;exact pl82
 ·cases h;exact pl84
 ·cases h;exact pl92
 ·cases h;exact pl112
 ·cases h;exact pl145
 ·cases h;exact pl150
 ·cases h;exact pl152
theorem ceqs:∀ t fs,cfg.D t=some (.struct fs)->cfg.Q t=true->Tryd.prog.stoodInHeld t=false∧Tryd.prog.eqGuardType Tryd.prog.depth t=false∧∀ f ∈ fs.toList,f.name ≠ "_" := by
 intro t fs h k
 have h:cD t=some (.struct fs):=h
 have k:cQ t=true:=k
 unfold cD at h
 split at h<;>first | (cases h;done) | skip
 ·exact absurd k (by decide)
 ·cases h;exact ⟨by kernel_rfl,by kernel_rfl,names_of (by kernel_rfl)⟩
 ·exact absurd k (by decide)
 ·cases h;exact ⟨by kernel_rfl,by kernel_rfl,names_of (by kernel_rfl)⟩
 ·exact absurd k (by decide)
 ·exact absurd k (by decide)
 ·exact absurd k (by decide)
 ·exact absurd k (by decide)
 ·exact absurd k (by decide)
 ·exact absurd k (by decide)
theorem cone:∀ t e,cfg.D t=some (.slice e)->cfg.W e=true->∃ bytes z,EOk Tryd.prog t e 1 bytes z:=by
 intro t e h k
 have h:cD t=some (.slice e):=h
 have k:cW e=true:=k
 unfold cD at h
 split at h<;>first | (cases h;done) | skip
 ·cases h;exact absurd k (by decide)
 ·cases h;exact absurd k (by decide)
 ·cases h;exact absurd k (by decide)
 ·cases h;exact absurd k (by decide)
 ·cases h;exact absurd k (by decide)
 ·cases h;exact absurd k (by decide)
 ·cases h;exact absurd k (by decide)
 ·cases h;exact ⟨8,.pointer none,eok_of Tryd.underlying66 (by kernel_rfl) (by kernel_rfl) (by decide)⟩
 ·cases h;exact absurd k (by decide)
 ·cases h;exact absurd k (by decide)
theorem cmaps:∀ t kt vt,cfg.M t=some (kt,vt)->∃ k e d z,Tryd.prog.underlying t=some (.map k e)∧Tryd.prog.underlying k=some d∧keyD d kt=true∧(∀ w,(zeroValue e).run Tryd.prog w=.ok z w)∧∀ O,VR O vt vt.zero z:=by
 intro t kt vt h
 have h:cM t=some (kt,vt):=h
 unfold cM at h
 split at h<;>first | (cases h;done) | skip
 ·cases h;exact ⟨3,4,_,(.bool false),Tryd.underlying51,Tryd.underlying3,rfl,fun w=>by kernel_rfl,vzero_ok rfl⟩
theorem cok:COk Tryd.prog cfg:=⟨tok,czero,celem,cplaces,ceqs,cone,cmaps⟩
theorem mixed:Tryd.prog.follows .mixedOrders=true:=by kernel_rfl
def bodyOf (f:Func):Code:=match f.body with
 | some c=>c
 | none=>.skip
end Go.Proofs.YthikoaamigiceaaDoor
