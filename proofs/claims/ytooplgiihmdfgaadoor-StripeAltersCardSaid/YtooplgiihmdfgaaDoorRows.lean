/-
  NARROWER THAN 'FOR EVERY INPUT', by the rows' own cells (each row's printed sentence says how): StripePacks: laid · StripeGroups: laid · StripeAlters: laid · StripeAny: laid · StripeHides: laid.
  DERIVED. THE GIVEN ROWS OF THIS SEAT. 5 by the template 'for every input the law returns true; each argument reads behind the call as it read before'; 0 by the template 'total and deterministic' (their statements: YtooplgiihmdfgaaDoorTotals.lean).
  GIVEN WITH THE SEED: the statements are not yours to turn. If you find one false, say at which input.
  Laid BY PROGRAM, IN A SANDBOX (cutbox-rows.mjs): the forced cells as the released guide's own fill.sh prints them over the translation c5f23415f1ec79f7… (all of the seat's roots in one cut). By AI agents, Wed Nov 11 2026. No macro, syntax, notation, axiom, sorry.
-/
import Derived.Test.YtooplgiihmdfgaaDoorChecked
import GoSem.Claim
import GoSem.ClaimJoined
import GoSem.ClaimMapViews
import Derived.JoinedTies
import Derived.KernelRfl
namespace Go.Proofs.YtooplgiihmdfgaaDoor
/- THE CELL 'sum', in the pinned program and in every row, IS THE sha256 OF THE DUMP (.gsa) THAT YtooplgiihmdfgaaDoorProg.lean LOADS. Nothing in Lean hashes anything: it is a label: what it is worth is what the hold of that sum in a sandbox is worth. -/
noncomputable def Tryd.pinned : Pinned := { name := "ytooplgiihmdfgaadoor", sum := "c5f23415f1ec79f7d5b9872dfde3e537b8667ed1d7a177075cb2bd8f30d8941d", checked := Tryd.checked }
namespace Rows
def none {H : Type} : Left H := { results := [], args := [] }

/- WHAT THE LISTED PACKAGE-LEVEL VARIABLES READ AS WHEN THE CALL BEGINS. Each datum BY PROGRAM (the guide's laid-datum.mjs) off the statement by which the dump's own 'gosem.cut.vars' lays the variable. In a bare row this is a premise. The card (YtooplgiihmdfgaaDoorCards.lean) ties it to the program's text. -/
def laid_kinkeep_sha256_initial {H : Type} : DataW H := .agg [.lit (.int .u32 1779033703), .lit (.int .u32 3144134277), .lit (.int .u32 1013904242), .lit (.int .u32 2773480762), .lit (.int .u32 1359893119), .lit (.int .u32 2600822924), .lit (.int .u32 528734635), .lit (.int .u32 1541459225)]
def laid_kinkeep_sha256_constants {H : Type} : DataW H := .agg [.lit (.int .u32 1116352408), .lit (.int .u32 1899447441), .lit (.int .u32 3049323471), .lit (.int .u32 3921009573), .lit (.int .u32 961987163), .lit (.int .u32 1508970993), .lit (.int .u32 2453635748), .lit (.int .u32 2870763221), .lit (.int .u32 3624381080), .lit (.int .u32 310598401), .lit (.int .u32 607225278), .lit (.int .u32 1426881987), .lit (.int .u32 1925078388), .lit (.int .u32 2162078206), .lit (.int .u32 2614888103), .lit (.int .u32 3248222580), .lit (.int .u32 3835390401), .lit (.int .u32 4022224774), .lit (.int .u32 264347078), .lit (.int .u32 604807628), .lit (.int .u32 770255983), .lit (.int .u32 1249150122), .lit (.int .u32 1555081692), .lit (.int .u32 1996064986), .lit (.int .u32 2554220882), .lit (.int .u32 2821834349), .lit (.int .u32 2952996808), .lit (.int .u32 3210313671), .lit (.int .u32 3336571891), .lit (.int .u32 3584528711), .lit (.int .u32 113926993), .lit (.int .u32 338241895), .lit (.int .u32 666307205), .lit (.int .u32 773529912), .lit (.int .u32 1294757372), .lit (.int .u32 1396182291), .lit (.int .u32 1695183700), .lit (.int .u32 1986661051), .lit (.int .u32 2177026350), .lit (.int .u32 2456956037), .lit (.int .u32 2730485921), .lit (.int .u32 2820302411), .lit (.int .u32 3259730800), .lit (.int .u32 3345764771), .lit (.int .u32 3516065817), .lit (.int .u32 3600352804), .lit (.int .u32 4094571909), .lit (.int .u32 275423344), .lit (.int .u32 430227734), .lit (.int .u32 506948616), .lit (.int .u32 659060556), .lit (.int .u32 883997877), .lit (.int .u32 958139571), .lit (.int .u32 1322822218), .lit (.int .u32 1537002063), .lit (.int .u32 1747873779), .lit (.int .u32 1955562222), .lit (.int .u32 2024104815), .lit (.int .u32 2227730452), .lit (.int .u32 2361852424), .lit (.int .u32 2428436474), .lit (.int .u32 2756734187), .lit (.int .u32 3204031479), .lit (.int .u32 3329325298)]

/-- 'kinkeeplaw30.StripePacks': WHATEVER THE INPUT: true; the input reads as it did. -/
def stripePacksSpec : ChangeSpec := { name := "stripePacks", fn := fun _ => fun
  | [d1, d2, d3, d4] => { results := [.lit (.bool true)], args := [d1, d2, d3, d4] }
  | _ => none }
def stripePacksRow : OpenClaim := { program := "ytooplgiihmdfgaadoor", sum := "c5f23415f1ec79f7d5b9872dfde3e537b8667ed1d7a177075cb2bd8f30d8941d", func := "kinkeep/kinkeeplaw30.StripePacks", spec := "stripePacks", unfollowed := true, recurses := true, named := ["kinkeep/sha256.initial", "kinkeep/sha256.constants"], apart := false, laid := [("kinkeep/sha256.initial", laid_kinkeep_sha256_initial), ("kinkeep/sha256.constants", laid_kinkeep_sha256_constants)] }
def StripePacksSaid : Prop := stripePacksRow.holds Tryd.pinned (OpenSpec.ofChange stripePacksSpec)

/-- ITS FALSE NEIGHBOUR: 'it returns false'. Refute it at one input. -/
def stripePacksWrong : ChangeSpec := { name := "stripePacks", fn := fun _ => fun
  | [d1, d2, d3, d4] => { results := [.lit (.bool false)], args := [d1, d2, d3, d4] }
  | _ => none }
def StripePacksWrongFalsely : Prop := stripePacksRow.holds Tryd.pinned (OpenSpec.ofChange stripePacksWrong)

/-- 'kinkeeplaw30.StripeGroups': WHATEVER THE INPUT: true; the input reads as it did. -/
def stripeGroupsSpec : ChangeSpec := { name := "stripeGroups", fn := fun _ => fun
  | [d1, d2] => { results := [.lit (.bool true)], args := [d1, d2] }
  | _ => none }
def stripeGroupsRow : OpenClaim := { program := "ytooplgiihmdfgaadoor", sum := "c5f23415f1ec79f7d5b9872dfde3e537b8667ed1d7a177075cb2bd8f30d8941d", func := "kinkeep/kinkeeplaw30.StripeGroups", spec := "stripeGroups", unfollowed := true, recurses := true, named := ["kinkeep/sha256.initial", "kinkeep/sha256.constants"], apart := false, laid := [("kinkeep/sha256.initial", laid_kinkeep_sha256_initial), ("kinkeep/sha256.constants", laid_kinkeep_sha256_constants)] }
def StripeGroupsSaid : Prop := stripeGroupsRow.holds Tryd.pinned (OpenSpec.ofChange stripeGroupsSpec)

/-- ITS FALSE NEIGHBOUR: 'it returns false'. Refute it at one input. -/
def stripeGroupsWrong : ChangeSpec := { name := "stripeGroups", fn := fun _ => fun
  | [d1, d2] => { results := [.lit (.bool false)], args := [d1, d2] }
  | _ => none }
def StripeGroupsWrongFalsely : Prop := stripeGroupsRow.holds Tryd.pinned (OpenSpec.ofChange stripeGroupsWrong)

/-- 'kinkeeplaw30.StripeAlters': WHATEVER THE INPUT: true; the input reads as it did. -/
def stripeAltersSpec : ChangeSpec := { name := "stripeAlters", fn := fun _ => fun
  | [d1, d2, d3, d4] => { results := [.lit (.bool true)], args := [d1, d2, d3, d4] }
  | _ => none }
def stripeAltersRow : OpenClaim := { program := "ytooplgiihmdfgaadoor", sum := "c5f23415f1ec79f7d5b9872dfde3e537b8667ed1d7a177075cb2bd8f30d8941d", func := "kinkeep/kinkeeplaw30.StripeAlters", spec := "stripeAlters", unfollowed := true, recurses := true, named := ["kinkeep/sha256.initial", "kinkeep/sha256.constants"], apart := false, laid := [("kinkeep/sha256.initial", laid_kinkeep_sha256_initial), ("kinkeep/sha256.constants", laid_kinkeep_sha256_constants)] }
def StripeAltersSaid : Prop := stripeAltersRow.holds Tryd.pinned (OpenSpec.ofChange stripeAltersSpec)

/-- ITS FALSE NEIGHBOUR: 'it returns false'. Refute it at one input. -/
def stripeAltersWrong : ChangeSpec := { name := "stripeAlters", fn := fun _ => fun
  | [d1, d2, d3, d4] => { results := [.lit (.bool false)], args := [d1, d2, d3, d4] }
  | _ => none }
def StripeAltersWrongFalsely : Prop := stripeAltersRow.holds Tryd.pinned (OpenSpec.ofChange stripeAltersWrong)

/-- 'kinkeeplaw30.StripeAny': WHATEVER THE INPUT: true; the input reads as it did. -/
def stripeAnySpec : ChangeSpec := { name := "stripeAny", fn := fun _ => fun
  | [d1, d2] => { results := [.lit (.bool true)], args := [d1, d2] }
  | _ => none }
def stripeAnyRow : OpenClaim := { program := "ytooplgiihmdfgaadoor", sum := "c5f23415f1ec79f7d5b9872dfde3e537b8667ed1d7a177075cb2bd8f30d8941d", func := "kinkeep/kinkeeplaw30.StripeAny", spec := "stripeAny", unfollowed := true, recurses := true, named := ["kinkeep/sha256.initial", "kinkeep/sha256.constants"], apart := false, laid := [("kinkeep/sha256.initial", laid_kinkeep_sha256_initial), ("kinkeep/sha256.constants", laid_kinkeep_sha256_constants)] }
def StripeAnySaid : Prop := stripeAnyRow.holds Tryd.pinned (OpenSpec.ofChange stripeAnySpec)

/-- ITS FALSE NEIGHBOUR: 'it returns false'. Refute it at one input. -/
def stripeAnyWrong : ChangeSpec := { name := "stripeAny", fn := fun _ => fun
  | [d1, d2] => { results := [.lit (.bool false)], args := [d1, d2] }
  | _ => none }
def StripeAnyWrongFalsely : Prop := stripeAnyRow.holds Tryd.pinned (OpenSpec.ofChange stripeAnyWrong)

/-- 'kinkeeplaw30.StripeHides': WHATEVER THE INPUT: true; the input reads as it did. -/
def stripeHidesSpec : ChangeSpec := { name := "stripeHides", fn := fun _ => fun
  | [d1, d2, d3, d4, d5, d6] => { results := [.lit (.bool true)], args := [d1, d2, d3, d4, d5, d6] }
  | _ => none }
def stripeHidesRow : OpenClaim := { program := "ytooplgiihmdfgaadoor", sum := "c5f23415f1ec79f7d5b9872dfde3e537b8667ed1d7a177075cb2bd8f30d8941d", func := "kinkeep/kinkeeplaw30.StripeHides", spec := "stripeHides", unfollowed := true, recurses := true, named := ["kinkeep/sha256.initial", "kinkeep/sha256.constants"], apart := false, laid := [("kinkeep/sha256.initial", laid_kinkeep_sha256_initial), ("kinkeep/sha256.constants", laid_kinkeep_sha256_constants)] }
def StripeHidesSaid : Prop := stripeHidesRow.holds Tryd.pinned (OpenSpec.ofChange stripeHidesSpec)

/-- ITS FALSE NEIGHBOUR: 'it returns false'. Refute it at one input. -/
def stripeHidesWrong : ChangeSpec := { name := "stripeHides", fn := fun _ => fun
  | [d1, d2, d3, d4, d5, d6] => { results := [.lit (.bool false)], args := [d1, d2, d3, d4, d5, d6] }
  | _ => none }
def StripeHidesWrongFalsely : Prop := stripeHidesRow.holds Tryd.pinned (OpenSpec.ofChange stripeHidesWrong)

/- THE SECOND FORM. 'bulk': how many values and letters a reading holds, each counted each time it is reached (what is shared counts as often as it is met; a slice's spare places count too). A statement '..UptoSaid' is the law's where the arguments, and the package variables that the reading takes, are together of bulk at most 1048576: NARROWER than '..Said'. Prove '..Said' where nothing that the law and all that it calls make is longer than what came in: it says more and counts as full. Else prove '..UptoSaid'. A law counts once. -/
mutual
def uptoBulk {H : Type} : DataW H → Nat
  | .lit (.string bytes) => bytes.length + 1
  | .lit _ => 1
  | .nil => 1
  | .ptr d => uptoBulk d + 1
  | .slice elems spare => uptoBulkAll elems + uptoBulkAll spare + 1
  | .agg parts => uptoBulkAll parts + 1
  | .iface _ d => uptoBulk d + 1
  | .map entries => uptoBulkEntries entries + 1
  | .held _ => 1
def uptoBulkAll {H : Type} : List (DataW H) → Nat
  | [] => 0
  | d :: r => uptoBulk d + uptoBulkAll r
def uptoBulkEntries {H : Type} : List (Lit × DataW H) → Nat
  | [] => 0
  | x :: r => uptoBulkEntry x + uptoBulkEntries r
def uptoBulkEntry {H : Type} : Lit × DataW H → Nat
  | (.string bytes, d) => bytes.length + uptoBulk d + 1
  | (_, d) => uptoBulk d + 1
 end
def uptoSmall : (H : Type) → List (DataW H) → Bool := fun _ ds => decide (uptoBulkAll ds ≤ 1048576)
def OpenSpec.upto (s : _root_.Go.ChangeSpec) : _root_.Go.OpenSpec := { _root_.Go.OpenSpec.ofChange s with cond := some uptoSmall }

/-- 'kinkeeplaw30.StripePacks', WHERE WHAT IT READS IS OF BULK AT MOST 1048576: true; the input reads as it did. -/
def stripePacksUptoRow : OpenClaim := { program := "ytooplgiihmdfgaadoor", sum := "c5f23415f1ec79f7d5b9872dfde3e537b8667ed1d7a177075cb2bd8f30d8941d", func := "kinkeep/kinkeeplaw30.StripePacks", spec := "stripePacks", unfollowed := true, recurses := true, named := ["kinkeep/sha256.initial", "kinkeep/sha256.constants"], apart := false, laid := [("kinkeep/sha256.initial", laid_kinkeep_sha256_initial), ("kinkeep/sha256.constants", laid_kinkeep_sha256_constants)], narrowed := true }
def StripePacksUptoSaid : Prop := stripePacksUptoRow.holds Tryd.pinned (OpenSpec.upto stripePacksSpec)

/-- 'kinkeeplaw30.StripeGroups', WHERE WHAT IT READS IS OF BULK AT MOST 1048576: true; the input reads as it did. -/
def stripeGroupsUptoRow : OpenClaim := { program := "ytooplgiihmdfgaadoor", sum := "c5f23415f1ec79f7d5b9872dfde3e537b8667ed1d7a177075cb2bd8f30d8941d", func := "kinkeep/kinkeeplaw30.StripeGroups", spec := "stripeGroups", unfollowed := true, recurses := true, named := ["kinkeep/sha256.initial", "kinkeep/sha256.constants"], apart := false, laid := [("kinkeep/sha256.initial", laid_kinkeep_sha256_initial), ("kinkeep/sha256.constants", laid_kinkeep_sha256_constants)], narrowed := true }
def StripeGroupsUptoSaid : Prop := stripeGroupsUptoRow.holds Tryd.pinned (OpenSpec.upto stripeGroupsSpec)

/-- 'kinkeeplaw30.StripeAlters', WHERE WHAT IT READS IS OF BULK AT MOST 1048576: true; the input reads as it did. -/
def stripeAltersUptoRow : OpenClaim := { program := "ytooplgiihmdfgaadoor", sum := "c5f23415f1ec79f7d5b9872dfde3e537b8667ed1d7a177075cb2bd8f30d8941d", func := "kinkeep/kinkeeplaw30.StripeAlters", spec := "stripeAlters", unfollowed := true, recurses := true, named := ["kinkeep/sha256.initial", "kinkeep/sha256.constants"], apart := false, laid := [("kinkeep/sha256.initial", laid_kinkeep_sha256_initial), ("kinkeep/sha256.constants", laid_kinkeep_sha256_constants)], narrowed := true }
def StripeAltersUptoSaid : Prop := stripeAltersUptoRow.holds Tryd.pinned (OpenSpec.upto stripeAltersSpec)

/-- 'kinkeeplaw30.StripeAny', WHERE WHAT IT READS IS OF BULK AT MOST 1048576: true; the input reads as it did. -/
def stripeAnyUptoRow : OpenClaim := { program := "ytooplgiihmdfgaadoor", sum := "c5f23415f1ec79f7d5b9872dfde3e537b8667ed1d7a177075cb2bd8f30d8941d", func := "kinkeep/kinkeeplaw30.StripeAny", spec := "stripeAny", unfollowed := true, recurses := true, named := ["kinkeep/sha256.initial", "kinkeep/sha256.constants"], apart := false, laid := [("kinkeep/sha256.initial", laid_kinkeep_sha256_initial), ("kinkeep/sha256.constants", laid_kinkeep_sha256_constants)], narrowed := true }
def StripeAnyUptoSaid : Prop := stripeAnyUptoRow.holds Tryd.pinned (OpenSpec.upto stripeAnySpec)

/-- 'kinkeeplaw30.StripeHides', WHERE WHAT IT READS IS OF BULK AT MOST 1048576: true; the input reads as it did. -/
def stripeHidesUptoRow : OpenClaim := { program := "ytooplgiihmdfgaadoor", sum := "c5f23415f1ec79f7d5b9872dfde3e537b8667ed1d7a177075cb2bd8f30d8941d", func := "kinkeep/kinkeeplaw30.StripeHides", spec := "stripeHides", unfollowed := true, recurses := true, named := ["kinkeep/sha256.initial", "kinkeep/sha256.constants"], apart := false, laid := [("kinkeep/sha256.initial", laid_kinkeep_sha256_initial), ("kinkeep/sha256.constants", laid_kinkeep_sha256_constants)], narrowed := true }
def StripeHidesUptoSaid : Prop := stripeHidesUptoRow.holds Tryd.pinned (OpenSpec.upto stripeHidesSpec)

end Rows
end Go.Proofs.YtooplgiihmdfgaaDoor
