/-
  NARROWER THAN 'FOR EVERY INPUT', by the rows' own cells (each row's printed sentence says how): SealClass: laid · SealBody: laid · SealContent: laid · SealNames: laid · SealSeals: laid · SealOpens: laid · SealRefuses: laid · SealOpen: laid · SealWiths: laid · SealSecret: laid · SealClasses: laid.
  DERIVED. THE GIVEN ROWS OF THIS SEAT. 11 by the template 'for every input the law returns true; each argument reads behind the call as it read before'; 0 by the template 'total and deterministic' (their statements: YtjghgfohpihhfaaDoorTotals.lean).
  GIVEN WITH THE SEED: the statements are not yours to turn. If you find one false, say at which input.
  Laid BY PROGRAM, IN A SANDBOX (cutbox-rows.mjs): the forced cells as the released guide's own fill.sh prints them over the translation 4e83616e635d65e2… (all of the seat's roots in one cut). By AI agents, Wed Nov 11 2026. No macro, syntax, notation, axiom, sorry.
-/
import Derived.Test.YtjghgfohpihhfaaDoorChecked
import GoSem.Claim
import GoSem.ClaimJoined
import GoSem.ClaimMapViews
import Derived.JoinedTies
import Derived.KernelRfl
namespace Go.Proofs.YtjghgfohpihhfaaDoor
/- THE CELL 'sum', in the pinned program and in every row, IS THE sha256 OF THE DUMP (.gsa) THAT YtjghgfohpihhfaaDoorProg.lean LOADS. Nothing in Lean hashes anything: it is a label: what it is worth is what the hold of that sum in a sandbox is worth. -/
noncomputable def Tryd.pinned : Pinned := { name := "ytjghgfohpihhfaadoor", sum := "4e83616e635d65e2ea5a61cf304f003fa1e8809ca0e81fe17936f5358de48315", checked := Tryd.checked }
namespace Rows
def none {H : Type} : Left H := { results := [], args := [] }

/- WHAT THE LISTED PACKAGE-LEVEL VARIABLES READ AS WHEN THE CALL BEGINS. Each datum BY PROGRAM (the guide's laid-datum.mjs) off the statement by which the dump's own 'gosem.cut.vars' lays the variable. In a bare row this is a premise. The card (YtjghgfohpihhfaaDoorCards.lean) ties it to the program's text. -/
def laid_kinkeep_sha256_initial {H : Type} : DataW H := .agg [.lit (.int .u32 1779033703), .lit (.int .u32 3144134277), .lit (.int .u32 1013904242), .lit (.int .u32 2773480762), .lit (.int .u32 1359893119), .lit (.int .u32 2600822924), .lit (.int .u32 528734635), .lit (.int .u32 1541459225)]
def laid_kinkeep_sha256_constants {H : Type} : DataW H := .agg [.lit (.int .u32 1116352408), .lit (.int .u32 1899447441), .lit (.int .u32 3049323471), .lit (.int .u32 3921009573), .lit (.int .u32 961987163), .lit (.int .u32 1508970993), .lit (.int .u32 2453635748), .lit (.int .u32 2870763221), .lit (.int .u32 3624381080), .lit (.int .u32 310598401), .lit (.int .u32 607225278), .lit (.int .u32 1426881987), .lit (.int .u32 1925078388), .lit (.int .u32 2162078206), .lit (.int .u32 2614888103), .lit (.int .u32 3248222580), .lit (.int .u32 3835390401), .lit (.int .u32 4022224774), .lit (.int .u32 264347078), .lit (.int .u32 604807628), .lit (.int .u32 770255983), .lit (.int .u32 1249150122), .lit (.int .u32 1555081692), .lit (.int .u32 1996064986), .lit (.int .u32 2554220882), .lit (.int .u32 2821834349), .lit (.int .u32 2952996808), .lit (.int .u32 3210313671), .lit (.int .u32 3336571891), .lit (.int .u32 3584528711), .lit (.int .u32 113926993), .lit (.int .u32 338241895), .lit (.int .u32 666307205), .lit (.int .u32 773529912), .lit (.int .u32 1294757372), .lit (.int .u32 1396182291), .lit (.int .u32 1695183700), .lit (.int .u32 1986661051), .lit (.int .u32 2177026350), .lit (.int .u32 2456956037), .lit (.int .u32 2730485921), .lit (.int .u32 2820302411), .lit (.int .u32 3259730800), .lit (.int .u32 3345764771), .lit (.int .u32 3516065817), .lit (.int .u32 3600352804), .lit (.int .u32 4094571909), .lit (.int .u32 275423344), .lit (.int .u32 430227734), .lit (.int .u32 506948616), .lit (.int .u32 659060556), .lit (.int .u32 883997877), .lit (.int .u32 958139571), .lit (.int .u32 1322822218), .lit (.int .u32 1537002063), .lit (.int .u32 1747873779), .lit (.int .u32 1955562222), .lit (.int .u32 2024104815), .lit (.int .u32 2227730452), .lit (.int .u32 2361852424), .lit (.int .u32 2428436474), .lit (.int .u32 2756734187), .lit (.int .u32 3204031479), .lit (.int .u32 3329325298)]
def laid_kinkeep_hmac_pads {H : Type} : DataW H := .agg [.lit (.int .u8 54), .lit (.int .u8 92)]

/-- 'kinkeeplaw11.SealClass': WHATEVER THE INPUT: true; the input reads as it did. -/
def sealClassSpec : ChangeSpec := { name := "sealClass", fn := fun _ => fun
  | [d] => { results := [.lit (.bool true)], args := [d] }
  | _ => none }
def sealClassRow : OpenClaim := { program := "ytjghgfohpihhfaadoor", sum := "4e83616e635d65e2ea5a61cf304f003fa1e8809ca0e81fe17936f5358de48315", func := "kinkeep/kinkeeplaw11.SealClass", spec := "sealClass", unfollowed := true, recurses := true, named := ["kinkeep/hmac.pads", "kinkeep/sha256.initial", "kinkeep/sha256.constants"], apart := false, laid := [("kinkeep/sha256.initial", laid_kinkeep_sha256_initial), ("kinkeep/sha256.constants", laid_kinkeep_sha256_constants), ("kinkeep/hmac.pads", laid_kinkeep_hmac_pads)] }
def SealClassSaid : Prop := sealClassRow.holds Tryd.pinned (OpenSpec.ofChange sealClassSpec)

/-- ITS FALSE NEIGHBOUR: 'it returns false'. Refute it at one input. -/
def sealClassWrong : ChangeSpec := { name := "sealClass", fn := fun _ => fun
  | [d] => { results := [.lit (.bool false)], args := [d] }
  | _ => none }
def SealClassWrongFalsely : Prop := sealClassRow.holds Tryd.pinned (OpenSpec.ofChange sealClassWrong)

/-- 'kinkeeplaw11.SealBody': WHATEVER THE INPUT: true; the input reads as it did. -/
def sealBodySpec : ChangeSpec := { name := "sealBody", fn := fun _ => fun
  | [d1, d2, d3] => { results := [.lit (.bool true)], args := [d1, d2, d3] }
  | _ => none }
def sealBodyRow : OpenClaim := { program := "ytjghgfohpihhfaadoor", sum := "4e83616e635d65e2ea5a61cf304f003fa1e8809ca0e81fe17936f5358de48315", func := "kinkeep/kinkeeplaw11.SealBody", spec := "sealBody", unfollowed := true, recurses := true, named := ["kinkeep/hmac.pads", "kinkeep/sha256.initial", "kinkeep/sha256.constants"], apart := false, laid := [("kinkeep/sha256.initial", laid_kinkeep_sha256_initial), ("kinkeep/sha256.constants", laid_kinkeep_sha256_constants), ("kinkeep/hmac.pads", laid_kinkeep_hmac_pads)] }
def SealBodySaid : Prop := sealBodyRow.holds Tryd.pinned (OpenSpec.ofChange sealBodySpec)

/-- ITS FALSE NEIGHBOUR: 'it returns false'. Refute it at one input. -/
def sealBodyWrong : ChangeSpec := { name := "sealBody", fn := fun _ => fun
  | [d1, d2, d3] => { results := [.lit (.bool false)], args := [d1, d2, d3] }
  | _ => none }
def SealBodyWrongFalsely : Prop := sealBodyRow.holds Tryd.pinned (OpenSpec.ofChange sealBodyWrong)

/-- 'kinkeeplaw11.SealContent': WHATEVER THE INPUT: true; the input reads as it did. -/
def sealContentSpec : ChangeSpec := { name := "sealContent", fn := fun _ => fun
  | [d] => { results := [.lit (.bool true)], args := [d] }
  | _ => none }
def sealContentRow : OpenClaim := { program := "ytjghgfohpihhfaadoor", sum := "4e83616e635d65e2ea5a61cf304f003fa1e8809ca0e81fe17936f5358de48315", func := "kinkeep/kinkeeplaw11.SealContent", spec := "sealContent", unfollowed := true, recurses := true, named := ["kinkeep/hmac.pads", "kinkeep/sha256.initial", "kinkeep/sha256.constants"], apart := false, laid := [("kinkeep/sha256.initial", laid_kinkeep_sha256_initial), ("kinkeep/sha256.constants", laid_kinkeep_sha256_constants), ("kinkeep/hmac.pads", laid_kinkeep_hmac_pads)] }
def SealContentSaid : Prop := sealContentRow.holds Tryd.pinned (OpenSpec.ofChange sealContentSpec)

/-- ITS FALSE NEIGHBOUR: 'it returns false'. Refute it at one input. -/
def sealContentWrong : ChangeSpec := { name := "sealContent", fn := fun _ => fun
  | [d] => { results := [.lit (.bool false)], args := [d] }
  | _ => none }
def SealContentWrongFalsely : Prop := sealContentRow.holds Tryd.pinned (OpenSpec.ofChange sealContentWrong)

/-- 'kinkeeplaw11.SealNames': WHATEVER THE INPUT: true; the input reads as it did. -/
def sealNamesSpec : ChangeSpec := { name := "sealNames", fn := fun _ => fun
  | [d1, d2, d3, d4, d5] => { results := [.lit (.bool true)], args := [d1, d2, d3, d4, d5] }
  | _ => none }
def sealNamesRow : OpenClaim := { program := "ytjghgfohpihhfaadoor", sum := "4e83616e635d65e2ea5a61cf304f003fa1e8809ca0e81fe17936f5358de48315", func := "kinkeep/kinkeeplaw11.SealNames", spec := "sealNames", unfollowed := true, recurses := true, named := ["kinkeep/hmac.pads", "kinkeep/sha256.initial", "kinkeep/sha256.constants"], apart := false, laid := [("kinkeep/sha256.initial", laid_kinkeep_sha256_initial), ("kinkeep/sha256.constants", laid_kinkeep_sha256_constants), ("kinkeep/hmac.pads", laid_kinkeep_hmac_pads)] }
def SealNamesSaid : Prop := sealNamesRow.holds Tryd.pinned (OpenSpec.ofChange sealNamesSpec)

/-- ITS FALSE NEIGHBOUR: 'it returns false'. Refute it at one input. -/
def sealNamesWrong : ChangeSpec := { name := "sealNames", fn := fun _ => fun
  | [d1, d2, d3, d4, d5] => { results := [.lit (.bool false)], args := [d1, d2, d3, d4, d5] }
  | _ => none }
def SealNamesWrongFalsely : Prop := sealNamesRow.holds Tryd.pinned (OpenSpec.ofChange sealNamesWrong)

/-- 'kinkeeplaw11.SealSeals': WHATEVER THE INPUT: true; the input reads as it did. -/
def sealSealsSpec : ChangeSpec := { name := "sealSeals", fn := fun _ => fun
  | [d1, d2, d3] => { results := [.lit (.bool true)], args := [d1, d2, d3] }
  | _ => none }
def sealSealsRow : OpenClaim := { program := "ytjghgfohpihhfaadoor", sum := "4e83616e635d65e2ea5a61cf304f003fa1e8809ca0e81fe17936f5358de48315", func := "kinkeep/kinkeeplaw11.SealSeals", spec := "sealSeals", unfollowed := true, recurses := true, named := ["kinkeep/hmac.pads", "kinkeep/sha256.initial", "kinkeep/sha256.constants"], apart := false, laid := [("kinkeep/sha256.initial", laid_kinkeep_sha256_initial), ("kinkeep/sha256.constants", laid_kinkeep_sha256_constants), ("kinkeep/hmac.pads", laid_kinkeep_hmac_pads)] }
def SealSealsSaid : Prop := sealSealsRow.holds Tryd.pinned (OpenSpec.ofChange sealSealsSpec)

/-- ITS FALSE NEIGHBOUR: 'it returns false'. Refute it at one input. -/
def sealSealsWrong : ChangeSpec := { name := "sealSeals", fn := fun _ => fun
  | [d1, d2, d3] => { results := [.lit (.bool false)], args := [d1, d2, d3] }
  | _ => none }
def SealSealsWrongFalsely : Prop := sealSealsRow.holds Tryd.pinned (OpenSpec.ofChange sealSealsWrong)

/-- 'kinkeeplaw11.SealOpens': WHATEVER THE INPUT: true; the input reads as it did. -/
def sealOpensSpec : ChangeSpec := { name := "sealOpens", fn := fun _ => fun
  | [d1, d2, d3, d4] => { results := [.lit (.bool true)], args := [d1, d2, d3, d4] }
  | _ => none }
def sealOpensRow : OpenClaim := { program := "ytjghgfohpihhfaadoor", sum := "4e83616e635d65e2ea5a61cf304f003fa1e8809ca0e81fe17936f5358de48315", func := "kinkeep/kinkeeplaw11.SealOpens", spec := "sealOpens", unfollowed := true, recurses := true, named := ["kinkeep/hmac.pads", "kinkeep/sha256.initial", "kinkeep/sha256.constants"], apart := false, laid := [("kinkeep/sha256.initial", laid_kinkeep_sha256_initial), ("kinkeep/sha256.constants", laid_kinkeep_sha256_constants), ("kinkeep/hmac.pads", laid_kinkeep_hmac_pads)] }
def SealOpensSaid : Prop := sealOpensRow.holds Tryd.pinned (OpenSpec.ofChange sealOpensSpec)

/-- ITS FALSE NEIGHBOUR: 'it returns false'. Refute it at one input. -/
def sealOpensWrong : ChangeSpec := { name := "sealOpens", fn := fun _ => fun
  | [d1, d2, d3, d4] => { results := [.lit (.bool false)], args := [d1, d2, d3, d4] }
  | _ => none }
def SealOpensWrongFalsely : Prop := sealOpensRow.holds Tryd.pinned (OpenSpec.ofChange sealOpensWrong)

/-- 'kinkeeplaw11.SealRefuses': WHATEVER THE INPUT: true; the input reads as it did. -/
def sealRefusesSpec : ChangeSpec := { name := "sealRefuses", fn := fun _ => fun
  | [d1, d2, d3, d4] => { results := [.lit (.bool true)], args := [d1, d2, d3, d4] }
  | _ => none }
def sealRefusesRow : OpenClaim := { program := "ytjghgfohpihhfaadoor", sum := "4e83616e635d65e2ea5a61cf304f003fa1e8809ca0e81fe17936f5358de48315", func := "kinkeep/kinkeeplaw11.SealRefuses", spec := "sealRefuses", unfollowed := true, recurses := true, named := ["kinkeep/hmac.pads", "kinkeep/sha256.initial", "kinkeep/sha256.constants"], apart := false, laid := [("kinkeep/sha256.initial", laid_kinkeep_sha256_initial), ("kinkeep/sha256.constants", laid_kinkeep_sha256_constants), ("kinkeep/hmac.pads", laid_kinkeep_hmac_pads)] }
def SealRefusesSaid : Prop := sealRefusesRow.holds Tryd.pinned (OpenSpec.ofChange sealRefusesSpec)

/-- ITS FALSE NEIGHBOUR: 'it returns false'. Refute it at one input. -/
def sealRefusesWrong : ChangeSpec := { name := "sealRefuses", fn := fun _ => fun
  | [d1, d2, d3, d4] => { results := [.lit (.bool false)], args := [d1, d2, d3, d4] }
  | _ => none }
def SealRefusesWrongFalsely : Prop := sealRefusesRow.holds Tryd.pinned (OpenSpec.ofChange sealRefusesWrong)

/-- 'kinkeeplaw11.SealOpen': WHATEVER THE INPUT: true; the input reads as it did. -/
def sealOpenSpec : ChangeSpec := { name := "sealOpen", fn := fun _ => fun
  | [d1, d2, d3] => { results := [.lit (.bool true)], args := [d1, d2, d3] }
  | _ => none }
def sealOpenRow : OpenClaim := { program := "ytjghgfohpihhfaadoor", sum := "4e83616e635d65e2ea5a61cf304f003fa1e8809ca0e81fe17936f5358de48315", func := "kinkeep/kinkeeplaw11.SealOpen", spec := "sealOpen", unfollowed := true, recurses := true, named := ["kinkeep/hmac.pads", "kinkeep/sha256.initial", "kinkeep/sha256.constants"], apart := false, laid := [("kinkeep/sha256.initial", laid_kinkeep_sha256_initial), ("kinkeep/sha256.constants", laid_kinkeep_sha256_constants), ("kinkeep/hmac.pads", laid_kinkeep_hmac_pads)] }
def SealOpenSaid : Prop := sealOpenRow.holds Tryd.pinned (OpenSpec.ofChange sealOpenSpec)

/-- ITS FALSE NEIGHBOUR: 'it returns false'. Refute it at one input. -/
def sealOpenWrong : ChangeSpec := { name := "sealOpen", fn := fun _ => fun
  | [d1, d2, d3] => { results := [.lit (.bool false)], args := [d1, d2, d3] }
  | _ => none }
def SealOpenWrongFalsely : Prop := sealOpenRow.holds Tryd.pinned (OpenSpec.ofChange sealOpenWrong)

/-- 'kinkeeplaw11.SealWiths': WHATEVER THE INPUT: true; the input reads as it did. -/
def sealWithsSpec : ChangeSpec := { name := "sealWiths", fn := fun _ => fun
  | [d1, d2, d3] => { results := [.lit (.bool true)], args := [d1, d2, d3] }
  | _ => none }
def sealWithsRow : OpenClaim := { program := "ytjghgfohpihhfaadoor", sum := "4e83616e635d65e2ea5a61cf304f003fa1e8809ca0e81fe17936f5358de48315", func := "kinkeep/kinkeeplaw11.SealWiths", spec := "sealWiths", unfollowed := true, recurses := true, named := ["kinkeep/hmac.pads", "kinkeep/sha256.initial", "kinkeep/sha256.constants"], apart := false, laid := [("kinkeep/sha256.initial", laid_kinkeep_sha256_initial), ("kinkeep/sha256.constants", laid_kinkeep_sha256_constants), ("kinkeep/hmac.pads", laid_kinkeep_hmac_pads)] }
def SealWithsSaid : Prop := sealWithsRow.holds Tryd.pinned (OpenSpec.ofChange sealWithsSpec)

/-- ITS FALSE NEIGHBOUR: 'it returns false'. Refute it at one input. -/
def sealWithsWrong : ChangeSpec := { name := "sealWiths", fn := fun _ => fun
  | [d1, d2, d3] => { results := [.lit (.bool false)], args := [d1, d2, d3] }
  | _ => none }
def SealWithsWrongFalsely : Prop := sealWithsRow.holds Tryd.pinned (OpenSpec.ofChange sealWithsWrong)

/-- 'kinkeeplaw11.SealSecret': WHATEVER THE INPUT: true; the input reads as it did. -/
def sealSecretSpec : ChangeSpec := { name := "sealSecret", fn := fun _ => fun
  | [d1, d2, d3, d4, d5, d6] => { results := [.lit (.bool true)], args := [d1, d2, d3, d4, d5, d6] }
  | _ => none }
def sealSecretRow : OpenClaim := { program := "ytjghgfohpihhfaadoor", sum := "4e83616e635d65e2ea5a61cf304f003fa1e8809ca0e81fe17936f5358de48315", func := "kinkeep/kinkeeplaw11.SealSecret", spec := "sealSecret", unfollowed := true, recurses := true, named := ["kinkeep/hmac.pads", "kinkeep/sha256.initial", "kinkeep/sha256.constants"], apart := false, laid := [("kinkeep/sha256.initial", laid_kinkeep_sha256_initial), ("kinkeep/sha256.constants", laid_kinkeep_sha256_constants), ("kinkeep/hmac.pads", laid_kinkeep_hmac_pads)] }
def SealSecretSaid : Prop := sealSecretRow.holds Tryd.pinned (OpenSpec.ofChange sealSecretSpec)

/-- ITS FALSE NEIGHBOUR: 'it returns false'. Refute it at one input. -/
def sealSecretWrong : ChangeSpec := { name := "sealSecret", fn := fun _ => fun
  | [d1, d2, d3, d4, d5, d6] => { results := [.lit (.bool false)], args := [d1, d2, d3, d4, d5, d6] }
  | _ => none }
def SealSecretWrongFalsely : Prop := sealSecretRow.holds Tryd.pinned (OpenSpec.ofChange sealSecretWrong)

/-- 'kinkeeplaw11.SealClasses': WHATEVER THE INPUT: true; the input reads as it did. -/
def sealClassesSpec : ChangeSpec := { name := "sealClasses", fn := fun _ => fun
  | [d] => { results := [.lit (.bool true)], args := [d] }
  | _ => none }
def sealClassesRow : OpenClaim := { program := "ytjghgfohpihhfaadoor", sum := "4e83616e635d65e2ea5a61cf304f003fa1e8809ca0e81fe17936f5358de48315", func := "kinkeep/kinkeeplaw11.SealClasses", spec := "sealClasses", unfollowed := true, recurses := true, named := ["kinkeep/hmac.pads", "kinkeep/sha256.initial", "kinkeep/sha256.constants"], apart := false, laid := [("kinkeep/sha256.initial", laid_kinkeep_sha256_initial), ("kinkeep/sha256.constants", laid_kinkeep_sha256_constants), ("kinkeep/hmac.pads", laid_kinkeep_hmac_pads)] }
def SealClassesSaid : Prop := sealClassesRow.holds Tryd.pinned (OpenSpec.ofChange sealClassesSpec)

/-- ITS FALSE NEIGHBOUR: 'it returns false'. Refute it at one input. -/
def sealClassesWrong : ChangeSpec := { name := "sealClasses", fn := fun _ => fun
  | [d] => { results := [.lit (.bool false)], args := [d] }
  | _ => none }
def SealClassesWrongFalsely : Prop := sealClassesRow.holds Tryd.pinned (OpenSpec.ofChange sealClassesWrong)

/- THE SECOND FORM. 'bulk': how many values and letters a reading holds, each counted each time it is reached (what is shared counts as often as it is met; a slice's spare places count too). A statement '..UptoSaid' is the law's where the arguments, and the package variables that the reading takes, are together of bulk at most 1048576: NARROWER than '..Said'. Prove '..Said' where nothing that the law and all that it calls make is longer than what came in: it says more and counts as full. Else prove '..UptoSaid'. A law counts once. -/
mutual
def uptoBulk {H : Type} : DataW H → Nat
  | .lit (.string bytes) => bytes.length + 1
  | .lit _ => 1
  | .nil => 1
  | .ptr d => uptoBulk d + 1
  | .slice elems spare => uptoBulkAll elems + uptoBulkAll spare + 1
  | .agg parts => uptoBulkAll parts + 1
  | .iface _ d => uptoBulk d + 1
  | .map entries => uptoBulkEntries entries + 1
  | .held _ => 1
def uptoBulkAll {H : Type} : List (DataW H) → Nat
  | [] => 0
  | d :: r => uptoBulk d + uptoBulkAll r
def uptoBulkEntries {H : Type} : List (Lit × DataW H) → Nat
  | [] => 0
  | x :: r => uptoBulkEntry x + uptoBulkEntries r
def uptoBulkEntry {H : Type} : Lit × DataW H → Nat
  | (.string bytes, d) => bytes.length + uptoBulk d + 1
  | (_, d) => uptoBulk d + 1
 end
def uptoSmall : (H : Type) → List (DataW H) → Bool := fun _ ds => decide (uptoBulkAll ds ≤ 1048576)
def OpenSpec.upto (s : _root_.Go.ChangeSpec) : _root_.Go.OpenSpec := { _root_.Go.OpenSpec.ofChange s with cond := some uptoSmall }

/-- 'kinkeeplaw11.SealClass', WHERE WHAT IT READS IS OF BULK AT MOST 1048576: true; the input reads as it did. -/
def sealClassUptoRow : OpenClaim := { program := "ytjghgfohpihhfaadoor", sum := "4e83616e635d65e2ea5a61cf304f003fa1e8809ca0e81fe17936f5358de48315", func := "kinkeep/kinkeeplaw11.SealClass", spec := "sealClass", unfollowed := true, recurses := true, named := ["kinkeep/hmac.pads", "kinkeep/sha256.initial", "kinkeep/sha256.constants"], apart := false, laid := [("kinkeep/sha256.initial", laid_kinkeep_sha256_initial), ("kinkeep/sha256.constants", laid_kinkeep_sha256_constants), ("kinkeep/hmac.pads", laid_kinkeep_hmac_pads)], narrowed := true }
def SealClassUptoSaid : Prop := sealClassUptoRow.holds Tryd.pinned (OpenSpec.upto sealClassSpec)

/-- 'kinkeeplaw11.SealBody', WHERE WHAT IT READS IS OF BULK AT MOST 1048576: true; the input reads as it did. -/
def sealBodyUptoRow : OpenClaim := { program := "ytjghgfohpihhfaadoor", sum := "4e83616e635d65e2ea5a61cf304f003fa1e8809ca0e81fe17936f5358de48315", func := "kinkeep/kinkeeplaw11.SealBody", spec := "sealBody", unfollowed := true, recurses := true, named := ["kinkeep/hmac.pads", "kinkeep/sha256.initial", "kinkeep/sha256.constants"], apart := false, laid := [("kinkeep/sha256.initial", laid_kinkeep_sha256_initial), ("kinkeep/sha256.constants", laid_kinkeep_sha256_constants), ("kinkeep/hmac.pads", laid_kinkeep_hmac_pads)], narrowed := true }
def SealBodyUptoSaid : Prop := sealBodyUptoRow.holds Tryd.pinned (OpenSpec.upto sealBodySpec)

/-- 'kinkeeplaw11.SealContent', WHERE WHAT IT READS IS OF BULK AT MOST 1048576: true; the input reads as it did. -/
def sealContentUptoRow : OpenClaim := { program := "ytjghgfohpihhfaadoor", sum := "4e83616e635d65e2ea5a61cf304f003fa1e8809ca0e81fe17936f5358de48315", func := "kinkeep/kinkeeplaw11.SealContent", spec := "sealContent", unfollowed := true, recurses := true, named := ["kinkeep/hmac.pads", "kinkeep/sha256.initial", "kinkeep/sha256.constants"], apart := false, laid := [("kinkeep/sha256.initial", laid_kinkeep_sha256_initial), ("kinkeep/sha256.constants", laid_kinkeep_sha256_constants), ("kinkeep/hmac.pads", laid_kinkeep_hmac_pads)], narrowed := true }
def SealContentUptoSaid : Prop := sealContentUptoRow.holds Tryd.pinned (OpenSpec.upto sealContentSpec)

/-- 'kinkeeplaw11.SealNames', WHERE WHAT IT READS IS OF BULK AT MOST 1048576: true; the input reads as it did. -/
def sealNamesUptoRow : OpenClaim := { program := "ytjghgfohpihhfaadoor", sum := "4e83616e635d65e2ea5a61cf304f003fa1e8809ca0e81fe17936f5358de48315", func := "kinkeep/kinkeeplaw11.SealNames", spec := "sealNames", unfollowed := true, recurses := true, named := ["kinkeep/hmac.pads", "kinkeep/sha256.initial", "kinkeep/sha256.constants"], apart := false, laid := [("kinkeep/sha256.initial", laid_kinkeep_sha256_initial), ("kinkeep/sha256.constants", laid_kinkeep_sha256_constants), ("kinkeep/hmac.pads", laid_kinkeep_hmac_pads)], narrowed := true }
def SealNamesUptoSaid : Prop := sealNamesUptoRow.holds Tryd.pinned (OpenSpec.upto sealNamesSpec)

/-- 'kinkeeplaw11.SealSeals', WHERE WHAT IT READS IS OF BULK AT MOST 1048576: true; the input reads as it did. -/
def sealSealsUptoRow : OpenClaim := { program := "ytjghgfohpihhfaadoor", sum := "4e83616e635d65e2ea5a61cf304f003fa1e8809ca0e81fe17936f5358de48315", func := "kinkeep/kinkeeplaw11.SealSeals", spec := "sealSeals", unfollowed := true, recurses := true, named := ["kinkeep/hmac.pads", "kinkeep/sha256.initial", "kinkeep/sha256.constants"], apart := false, laid := [("kinkeep/sha256.initial", laid_kinkeep_sha256_initial), ("kinkeep/sha256.constants", laid_kinkeep_sha256_constants), ("kinkeep/hmac.pads", laid_kinkeep_hmac_pads)], narrowed := true }
def SealSealsUptoSaid : Prop := sealSealsUptoRow.holds Tryd.pinned (OpenSpec.upto sealSealsSpec)

/-- 'kinkeeplaw11.SealOpens', WHERE WHAT IT READS IS OF BULK AT MOST 1048576: true; the input reads as it did. -/
def sealOpensUptoRow : OpenClaim := { program := "ytjghgfohpihhfaadoor", sum := "4e83616e635d65e2ea5a61cf304f003fa1e8809ca0e81fe17936f5358de48315", func := "kinkeep/kinkeeplaw11.SealOpens", spec := "sealOpens", unfollowed := true, recurses := true, named := ["kinkeep/hmac.pads", "kinkeep/sha256.initial", "kinkeep/sha256.constants"], apart := false, laid := [("kinkeep/sha256.initial", laid_kinkeep_sha256_initial), ("kinkeep/sha256.constants", laid_kinkeep_sha256_constants), ("kinkeep/hmac.pads", laid_kinkeep_hmac_pads)], narrowed := true }
def SealOpensUptoSaid : Prop := sealOpensUptoRow.holds Tryd.pinned (OpenSpec.upto sealOpensSpec)

/-- 'kinkeeplaw11.SealRefuses', WHERE WHAT IT READS IS OF BULK AT MOST 1048576: true; the input reads as it did. -/
def sealRefusesUptoRow : OpenClaim := { program := "ytjghgfohpihhfaadoor", sum := "4e83616e635d65e2ea5a61cf304f003fa1e8809ca0e81fe17936f5358de48315", func := "kinkeep/kinkeeplaw11.SealRefuses", spec := "sealRefuses", unfollowed := true, recurses := true, named := ["kinkeep/hmac.pads", "kinkeep/sha256.initial", "kinkeep/sha256.constants"], apart := false, laid := [("kinkeep/sha256.initial", laid_kinkeep_sha256_initial), ("kinkeep/sha256.constants", laid_kinkeep_sha256_constants), ("kinkeep/hmac.pads", laid_kinkeep_hmac_pads)], narrowed := true }
def SealRefusesUptoSaid : Prop := sealRefusesUptoRow.holds Tryd.pinned (OpenSpec.upto sealRefusesSpec)

/-- 'kinkeeplaw11.SealOpen', WHERE WHAT IT READS IS OF BULK AT MOST 1048576: true; the input reads as it did. -/
def sealOpenUptoRow : OpenClaim := { program := "ytjghgfohpihhfaadoor", sum := "4e83616e635d65e2ea5a61cf304f003fa1e8809ca0e81fe17936f5358de48315", func := "kinkeep/kinkeeplaw11.SealOpen", spec := "sealOpen", unfollowed := true, recurses := true, named := ["kinkeep/hmac.pads", "kinkeep/sha256.initial", "kinkeep/sha256.constants"], apart := false, laid := [("kinkeep/sha256.initial", laid_kinkeep_sha256_initial), ("kinkeep/sha256.constants", laid_kinkeep_sha256_constants), ("kinkeep/hmac.pads", laid_kinkeep_hmac_pads)], narrowed := true }
def SealOpenUptoSaid : Prop := sealOpenUptoRow.holds Tryd.pinned (OpenSpec.upto sealOpenSpec)

/-- 'kinkeeplaw11.SealWiths', WHERE WHAT IT READS IS OF BULK AT MOST 1048576: true; the input reads as it did. -/
def sealWithsUptoRow : OpenClaim := { program := "ytjghgfohpihhfaadoor", sum := "4e83616e635d65e2ea5a61cf304f003fa1e8809ca0e81fe17936f5358de48315", func := "kinkeep/kinkeeplaw11.SealWiths", spec := "sealWiths", unfollowed := true, recurses := true, named := ["kinkeep/hmac.pads", "kinkeep/sha256.initial", "kinkeep/sha256.constants"], apart := false, laid := [("kinkeep/sha256.initial", laid_kinkeep_sha256_initial), ("kinkeep/sha256.constants", laid_kinkeep_sha256_constants), ("kinkeep/hmac.pads", laid_kinkeep_hmac_pads)], narrowed := true }
def SealWithsUptoSaid : Prop := sealWithsUptoRow.holds Tryd.pinned (OpenSpec.upto sealWithsSpec)

/-- 'kinkeeplaw11.SealSecret', WHERE WHAT IT READS IS OF BULK AT MOST 1048576: true; the input reads as it did. -/
def sealSecretUptoRow : OpenClaim := { program := "ytjghgfohpihhfaadoor", sum := "4e83616e635d65e2ea5a61cf304f003fa1e8809ca0e81fe17936f5358de48315", func := "kinkeep/kinkeeplaw11.SealSecret", spec := "sealSecret", unfollowed := true, recurses := true, named := ["kinkeep/hmac.pads", "kinkeep/sha256.initial", "kinkeep/sha256.constants"], apart := false, laid := [("kinkeep/sha256.initial", laid_kinkeep_sha256_initial), ("kinkeep/sha256.constants", laid_kinkeep_sha256_constants), ("kinkeep/hmac.pads", laid_kinkeep_hmac_pads)], narrowed := true }
def SealSecretUptoSaid : Prop := sealSecretUptoRow.holds Tryd.pinned (OpenSpec.upto sealSecretSpec)

/-- 'kinkeeplaw11.SealClasses', WHERE WHAT IT READS IS OF BULK AT MOST 1048576: true; the input reads as it did. -/
def sealClassesUptoRow : OpenClaim := { program := "ytjghgfohpihhfaadoor", sum := "4e83616e635d65e2ea5a61cf304f003fa1e8809ca0e81fe17936f5358de48315", func := "kinkeep/kinkeeplaw11.SealClasses", spec := "sealClasses", unfollowed := true, recurses := true, named := ["kinkeep/hmac.pads", "kinkeep/sha256.initial", "kinkeep/sha256.constants"], apart := false, laid := [("kinkeep/sha256.initial", laid_kinkeep_sha256_initial), ("kinkeep/sha256.constants", laid_kinkeep_sha256_constants), ("kinkeep/hmac.pads", laid_kinkeep_hmac_pads)], narrowed := true }
def SealClassesUptoSaid : Prop := sealClassesUptoRow.holds Tryd.pinned (OpenSpec.upto sealClassesSpec)

end Rows
end Go.Proofs.YtjghgfohpihhfaaDoor
