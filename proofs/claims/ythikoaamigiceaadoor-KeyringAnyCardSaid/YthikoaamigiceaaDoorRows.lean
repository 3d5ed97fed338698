/-
  NARROWER THAN 'FOR EVERY INPUT', by the rows' own cells (each row's printed sentence says how): KeyringShares: laid · KeyringClass: laid · KeyringKeys: laid · KeyringNewer: laid · KeyringOrders: laid · KeyringAny: laid.
  DERIVED. THE GIVEN ROWS OF THIS SEAT. 6 by the template 'for every input the law returns true; each argument reads behind the call as it read before'; 0 by the template 'total and deterministic' (their statements: YthikoaamigiceaaDoorTotals.lean).
  GIVEN WITH THE SEED: the statements are not yours to turn. If you find one false, say at which input.
  Laid BY PROGRAM, IN A SANDBOX (cutbox-rows.mjs): the forced cells as the released guide's own fill.sh prints them over the translation 384c69b36b3697aa… (all of the seat's roots in one cut). By AI agents, Wed Nov 11 2026. No macro, syntax, notation, axiom, sorry.
-/
import Derived.Test.YthikoaamigiceaaDoorChecked
import GoSem.Claim
import GoSem.ClaimJoined
import GoSem.ClaimMapViews
import Derived.JoinedTies
import Derived.KernelRfl
namespace Go.Proofs.YthikoaamigiceaaDoor
/- THE CELL 'sum', in the pinned program and in every row, IS THE sha256 OF THE DUMP (.gsa) THAT YthikoaamigiceaaDoorProg.lean LOADS. Nothing in Lean hashes anything: it is a label: what it is worth is what the hold of that sum in a sandbox is worth. -/
noncomputable def Tryd.pinned : Pinned := { name := "ythikoaamigiceaadoor", sum := "384c69b36b3697aa97e97c2356f5dc971900994e951bd4c1652b9c1f9089365e", checked := Tryd.checked }
namespace Rows
def none {H : Type} : Left H := { results := [], args := [] }

/- WHAT THE LISTED PACKAGE-LEVEL VARIABLES READ AS WHEN THE CALL BEGINS. Each datum BY PROGRAM (the guide's laid-datum.mjs) off the statement by which the dump's own 'gosem.cut.vars' lays the variable. In a bare row this is a premise. The card (YthikoaamigiceaaDoorCards.lean) ties it to the program's text. -/
def laid_kinkeep_sha256_initial {H : Type} : DataW H := .agg [.lit (.int .u32 1779033703), .lit (.int .u32 3144134277), .lit (.int .u32 1013904242), .lit (.int .u32 2773480762), .lit (.int .u32 1359893119), .lit (.int .u32 2600822924), .lit (.int .u32 528734635), .lit (.int .u32 1541459225)]
def laid_kinkeep_sha256_constants {H : Type} : DataW H := .agg [.lit (.int .u32 1116352408), .lit (.int .u32 1899447441), .lit (.int .u32 3049323471), .lit (.int .u32 3921009573), .lit (.int .u32 961987163), .lit (.int .u32 1508970993), .lit (.int .u32 2453635748), .lit (.int .u32 2870763221), .lit (.int .u32 3624381080), .lit (.int .u32 310598401), .lit (.int .u32 607225278), .lit (.int .u32 1426881987), .lit (.int .u32 1925078388), .lit (.int .u32 2162078206), .lit (.int .u32 2614888103), .lit (.int .u32 3248222580), .lit (.int .u32 3835390401), .lit (.int .u32 4022224774), .lit (.int .u32 264347078), .lit (.int .u32 604807628), .lit (.int .u32 770255983), .lit (.int .u32 1249150122), .lit (.int .u32 1555081692), .lit (.int .u32 1996064986), .lit (.int .u32 2554220882), .lit (.int .u32 2821834349), .lit (.int .u32 2952996808), .lit (.int .u32 3210313671), .lit (.int .u32 3336571891), .lit (.int .u32 3584528711), .lit (.int .u32 113926993), .lit (.int .u32 338241895), .lit (.int .u32 666307205), .lit (.int .u32 773529912), .lit (.int .u32 1294757372), .lit (.int .u32 1396182291), .lit (.int .u32 1695183700), .lit (.int .u32 1986661051), .lit (.int .u32 2177026350), .lit (.int .u32 2456956037), .lit (.int .u32 2730485921), .lit (.int .u32 2820302411), .lit (.int .u32 3259730800), .lit (.int .u32 3345764771), .lit (.int .u32 3516065817), .lit (.int .u32 3600352804), .lit (.int .u32 4094571909), .lit (.int .u32 275423344), .lit (.int .u32 430227734), .lit (.int .u32 506948616), .lit (.int .u32 659060556), .lit (.int .u32 883997877), .lit (.int .u32 958139571), .lit (.int .u32 1322822218), .lit (.int .u32 1537002063), .lit (.int .u32 1747873779), .lit (.int .u32 1955562222), .lit (.int .u32 2024104815), .lit (.int .u32 2227730452), .lit (.int .u32 2361852424), .lit (.int .u32 2428436474), .lit (.int .u32 2756734187), .lit (.int .u32 3204031479), .lit (.int .u32 3329325298)]
def laid_kinkeep_hmac_pads {H : Type} : DataW H := .agg [.lit (.int .u8 54), .lit (.int .u8 92)]

/-- 'kinkeeplaw31.KeyringShares': WHATEVER THE INPUT: true; the input reads as it did. -/
def keyringSharesSpec : ChangeSpec := { name := "keyringShares", fn := fun _ => fun
  | [d1, d2, d3, d4] => { results := [.lit (.bool true)], args := [d1, d2, d3, d4] }
  | _ => none }
def keyringSharesRow : OpenClaim := { program := "ythikoaamigiceaadoor", sum := "384c69b36b3697aa97e97c2356f5dc971900994e951bd4c1652b9c1f9089365e", func := "kinkeep/kinkeeplaw31.KeyringShares", spec := "keyringShares", unfollowed := true, recurses := true, named := ["kinkeep/hmac.pads", "kinkeep/sha256.initial", "kinkeep/sha256.constants"], apart := false, laid := [("kinkeep/sha256.initial", laid_kinkeep_sha256_initial), ("kinkeep/sha256.constants", laid_kinkeep_sha256_constants), ("kinkeep/hmac.pads", laid_kinkeep_hmac_pads)] }
def KeyringSharesSaid : Prop := keyringSharesRow.holds Tryd.pinned (OpenSpec.ofChange keyringSharesSpec)

/-- ITS FALSE NEIGHBOUR: 'it returns false'. Refute it at one input. -/
def keyringSharesWrong : ChangeSpec := { name := "keyringShares", fn := fun _ => fun
  | [d1, d2, d3, d4] => { results := [.lit (.bool false)], args := [d1, d2, d3, d4] }
  | _ => none }
def KeyringSharesWrongFalsely : Prop := keyringSharesRow.holds Tryd.pinned (OpenSpec.ofChange keyringSharesWrong)

/-- 'kinkeeplaw31.KeyringClass': WHATEVER THE INPUT: true; the input reads as it did. -/
def keyringClassSpec : ChangeSpec := { name := "keyringClass", fn := fun _ => fun
  | [d] => { results := [.lit (.bool true)], args := [d] }
  | _ => none }
def keyringClassRow : OpenClaim := { program := "ythikoaamigiceaadoor", sum := "384c69b36b3697aa97e97c2356f5dc971900994e951bd4c1652b9c1f9089365e", func := "kinkeep/kinkeeplaw31.KeyringClass", spec := "keyringClass", unfollowed := true, recurses := true, named := ["kinkeep/hmac.pads", "kinkeep/sha256.initial", "kinkeep/sha256.constants"], apart := false, laid := [("kinkeep/sha256.initial", laid_kinkeep_sha256_initial), ("kinkeep/sha256.constants", laid_kinkeep_sha256_constants), ("kinkeep/hmac.pads", laid_kinkeep_hmac_pads)] }
def KeyringClassSaid : Prop := keyringClassRow.holds Tryd.pinned (OpenSpec.ofChange keyringClassSpec)

/-- ITS FALSE NEIGHBOUR: 'it returns false'. Refute it at one input. -/
def keyringClassWrong : ChangeSpec := { name := "keyringClass", fn := fun _ => fun
  | [d] => { results := [.lit (.bool false)], args := [d] }
  | _ => none }
def KeyringClassWrongFalsely : Prop := keyringClassRow.holds Tryd.pinned (OpenSpec.ofChange keyringClassWrong)

/-- 'kinkeeplaw31.KeyringKeys': WHATEVER THE INPUT: true; the input reads as it did. -/
def keyringKeysSpec : ChangeSpec := { name := "keyringKeys", fn := fun _ => fun
  | [d1, d2] => { results := [.lit (.bool true)], args := [d1, d2] }
  | _ => none }
def keyringKeysRow : OpenClaim := { program := "ythikoaamigiceaadoor", sum := "384c69b36b3697aa97e97c2356f5dc971900994e951bd4c1652b9c1f9089365e", func := "kinkeep/kinkeeplaw31.KeyringKeys", spec := "keyringKeys", unfollowed := true, recurses := true, named := ["kinkeep/hmac.pads", "kinkeep/sha256.initial", "kinkeep/sha256.constants"], apart := false, laid := [("kinkeep/sha256.initial", laid_kinkeep_sha256_initial), ("kinkeep/sha256.constants", laid_kinkeep_sha256_constants), ("kinkeep/hmac.pads", laid_kinkeep_hmac_pads)] }
def KeyringKeysSaid : Prop := keyringKeysRow.holds Tryd.pinned (OpenSpec.ofChange keyringKeysSpec)

/-- ITS FALSE NEIGHBOUR: 'it returns false'. Refute it at one input. -/
def keyringKeysWrong : ChangeSpec := { name := "keyringKeys", fn := fun _ => fun
  | [d1, d2] => { results := [.lit (.bool false)], args := [d1, d2] }
  | _ => none }
def KeyringKeysWrongFalsely : Prop := keyringKeysRow.holds Tryd.pinned (OpenSpec.ofChange keyringKeysWrong)

/-- 'kinkeeplaw31.KeyringNewer': WHATEVER THE INPUT: true; the input reads as it did. -/
def keyringNewerSpec : ChangeSpec := { name := "keyringNewer", fn := fun _ => fun
  | [d1, d2] => { results := [.lit (.bool true)], args := [d1, d2] }
  | _ => none }
def keyringNewerRow : OpenClaim := { program := "ythikoaamigiceaadoor", sum := "384c69b36b3697aa97e97c2356f5dc971900994e951bd4c1652b9c1f9089365e", func := "kinkeep/kinkeeplaw31.KeyringNewer", spec := "keyringNewer", unfollowed := true, recurses := true, named := ["kinkeep/hmac.pads", "kinkeep/sha256.initial", "kinkeep/sha256.constants"], apart := false, laid := [("kinkeep/sha256.initial", laid_kinkeep_sha256_initial), ("kinkeep/sha256.constants", laid_kinkeep_sha256_constants), ("kinkeep/hmac.pads", laid_kinkeep_hmac_pads)] }
def KeyringNewerSaid : Prop := keyringNewerRow.holds Tryd.pinned (OpenSpec.ofChange keyringNewerSpec)

/-- ITS FALSE NEIGHBOUR: 'it returns false'. Refute it at one input. -/
def keyringNewerWrong : ChangeSpec := { name := "keyringNewer", fn := fun _ => fun
  | [d1, d2] => { results := [.lit (.bool false)], args := [d1, d2] }
  | _ => none }
def KeyringNewerWrongFalsely : Prop := keyringNewerRow.holds Tryd.pinned (OpenSpec.ofChange keyringNewerWrong)

/-- 'kinkeeplaw31.KeyringOrders': WHATEVER THE INPUT: true; the input reads as it did. -/
def keyringOrdersSpec : ChangeSpec := { name := "keyringOrders", fn := fun _ => fun
  | [d1, d2, d3] => { results := [.lit (.bool true)], args := [d1, d2, d3] }
  | _ => none }
def keyringOrdersRow : OpenClaim := { program := "ythikoaamigiceaadoor", sum := "384c69b36b3697aa97e97c2356f5dc971900994e951bd4c1652b9c1f9089365e", func := "kinkeep/kinkeeplaw31.KeyringOrders", spec := "keyringOrders", unfollowed := true, recurses := true, named := ["kinkeep/hmac.pads", "kinkeep/sha256.initial", "kinkeep/sha256.constants"], apart := false, laid := [("kinkeep/sha256.initial", laid_kinkeep_sha256_initial), ("kinkeep/sha256.constants", laid_kinkeep_sha256_constants), ("kinkeep/hmac.pads", laid_kinkeep_hmac_pads)] }
def KeyringOrdersSaid : Prop := keyringOrdersRow.holds Tryd.pinned (OpenSpec.ofChange keyringOrdersSpec)

/-- ITS FALSE NEIGHBOUR: 'it returns false'. Refute it at one input. -/
def keyringOrdersWrong : ChangeSpec := { name := "keyringOrders", fn := fun _ => fun
  | [d1, d2, d3] => { results := [.lit (.bool false)], args := [d1, d2, d3] }
  | _ => none }
def KeyringOrdersWrongFalsely : Prop := keyringOrdersRow.holds Tryd.pinned (OpenSpec.ofChange keyringOrdersWrong)

/-- 'kinkeeplaw31.KeyringAny': WHATEVER THE INPUT: true; the input reads as it did. -/
def keyringAnySpec : ChangeSpec := { name := "keyringAny", fn := fun _ => fun
  | [d1, d2, d3, d4, d5] => { results := [.lit (.bool true)], args := [d1, d2, d3, d4, d5] }
  | _ => none }
def keyringAnyRow : OpenClaim := { program := "ythikoaamigiceaadoor", sum := "384c69b36b3697aa97e97c2356f5dc971900994e951bd4c1652b9c1f9089365e", func := "kinkeep/kinkeeplaw31.KeyringAny", spec := "keyringAny", unfollowed := true, recurses := true, named := ["kinkeep/hmac.pads", "kinkeep/sha256.initial", "kinkeep/sha256.constants"], apart := false, laid := [("kinkeep/sha256.initial", laid_kinkeep_sha256_initial), ("kinkeep/sha256.constants", laid_kinkeep_sha256_constants), ("kinkeep/hmac.pads", laid_kinkeep_hmac_pads)] }
def KeyringAnySaid : Prop := keyringAnyRow.holds Tryd.pinned (OpenSpec.ofChange keyringAnySpec)

/-- ITS FALSE NEIGHBOUR: 'it returns false'. Refute it at one input. -/
def keyringAnyWrong : ChangeSpec := { name := "keyringAny", fn := fun _ => fun
  | [d1, d2, d3, d4, d5] => { results := [.lit (.bool false)], args := [d1, d2, d3, d4, d5] }
  | _ => none }
def KeyringAnyWrongFalsely : Prop := keyringAnyRow.holds Tryd.pinned (OpenSpec.ofChange keyringAnyWrong)

/- THE SECOND FORM. 'bulk': how many values and letters a reading holds, each counted each time it is reached (what is shared counts as often as it is met; a slice's spare places count too). A statement '..UptoSaid' is the law's where the arguments, and the package variables that the reading takes, are together of bulk at most 1048576: NARROWER than '..Said'. Prove '..Said' where nothing that the law and all that it calls make is longer than what came in: it says more and counts as full. Else prove '..UptoSaid'. A law counts once. -/
mutual
def uptoBulk {H : Type} : DataW H → Nat
  | .lit (.string bytes) => bytes.length + 1
  | .lit _ => 1
  | .nil => 1
  | .ptr d => uptoBulk d + 1
  | .slice elems spare => uptoBulkAll elems + uptoBulkAll spare + 1
  | .agg parts => uptoBulkAll parts + 1
  | .iface _ d => uptoBulk d + 1
  | .map entries => uptoBulkEntries entries + 1
  | .held _ => 1
def uptoBulkAll {H : Type} : List (DataW H) → Nat
  | [] => 0
  | d :: r => uptoBulk d + uptoBulkAll r
def uptoBulkEntries {H : Type} : List (Lit × DataW H) → Nat
  | [] => 0
  | x :: r => uptoBulkEntry x + uptoBulkEntries r
def uptoBulkEntry {H : Type} : Lit × DataW H → Nat
  | (.string bytes, d) => bytes.length + uptoBulk d + 1
  | (_, d) => uptoBulk d + 1
 end
def uptoSmall : (H : Type) → List (DataW H) → Bool := fun _ ds => decide (uptoBulkAll ds ≤ 1048576)
def OpenSpec.upto (s : _root_.Go.ChangeSpec) : _root_.Go.OpenSpec := { _root_.Go.OpenSpec.ofChange s with cond := some uptoSmall }

/-- 'kinkeeplaw31.KeyringShares', WHERE WHAT IT READS IS OF BULK AT MOST 1048576: true; the input reads as it did. -/
def keyringSharesUptoRow : OpenClaim := { program := "ythikoaamigiceaadoor", sum := "384c69b36b3697aa97e97c2356f5dc971900994e951bd4c1652b9c1f9089365e", func := "kinkeep/kinkeeplaw31.KeyringShares", spec := "keyringShares", unfollowed := true, recurses := true, named := ["kinkeep/hmac.pads", "kinkeep/sha256.initial", "kinkeep/sha256.constants"], apart := false, laid := [("kinkeep/sha256.initial", laid_kinkeep_sha256_initial), ("kinkeep/sha256.constants", laid_kinkeep_sha256_constants), ("kinkeep/hmac.pads", laid_kinkeep_hmac_pads)], narrowed := true }
def KeyringSharesUptoSaid : Prop := keyringSharesUptoRow.holds Tryd.pinned (OpenSpec.upto keyringSharesSpec)

/-- 'kinkeeplaw31.KeyringClass', WHERE WHAT IT READS IS OF BULK AT MOST 1048576: true; the input reads as it did. -/
def keyringClassUptoRow : OpenClaim := { program := "ythikoaamigiceaadoor", sum := "384c69b36b3697aa97e97c2356f5dc971900994e951bd4c1652b9c1f9089365e", func := "kinkeep/kinkeeplaw31.KeyringClass", spec := "keyringClass", unfollowed := true, recurses := true, named := ["kinkeep/hmac.pads", "kinkeep/sha256.initial", "kinkeep/sha256.constants"], apart := false, laid := [("kinkeep/sha256.initial", laid_kinkeep_sha256_initial), ("kinkeep/sha256.constants", laid_kinkeep_sha256_constants), ("kinkeep/hmac.pads", laid_kinkeep_hmac_pads)], narrowed := true }
def KeyringClassUptoSaid : Prop := keyringClassUptoRow.holds Tryd.pinned (OpenSpec.upto keyringClassSpec)

/-- 'kinkeeplaw31.KeyringKeys', WHERE WHAT IT READS IS OF BULK AT MOST 1048576: true; the input reads as it did. -/
def keyringKeysUptoRow : OpenClaim := { program := "ythikoaamigiceaadoor", sum := "384c69b36b3697aa97e97c2356f5dc971900994e951bd4c1652b9c1f9089365e", func := "kinkeep/kinkeeplaw31.KeyringKeys", spec := "keyringKeys", unfollowed := true, recurses := true, named := ["kinkeep/hmac.pads", "kinkeep/sha256.initial", "kinkeep/sha256.constants"], apart := false, laid := [("kinkeep/sha256.initial", laid_kinkeep_sha256_initial), ("kinkeep/sha256.constants", laid_kinkeep_sha256_constants), ("kinkeep/hmac.pads", laid_kinkeep_hmac_pads)], narrowed := true }
def KeyringKeysUptoSaid : Prop := keyringKeysUptoRow.holds Tryd.pinned (OpenSpec.upto keyringKeysSpec)

/-- 'kinkeeplaw31.KeyringNewer', WHERE WHAT IT READS IS OF BULK AT MOST 1048576: true; the input reads as it did. -/
def keyringNewerUptoRow : OpenClaim := { program := "ythikoaamigiceaadoor", sum := "384c69b36b3697aa97e97c2356f5dc971900994e951bd4c1652b9c1f9089365e", func := "kinkeep/kinkeeplaw31.KeyringNewer", spec := "keyringNewer", unfollowed := true, recurses := true, named := ["kinkeep/hmac.pads", "kinkeep/sha256.initial", "kinkeep/sha256.constants"], apart := false, laid := [("kinkeep/sha256.initial", laid_kinkeep_sha256_initial), ("kinkeep/sha256.constants", laid_kinkeep_sha256_constants), ("kinkeep/hmac.pads", laid_kinkeep_hmac_pads)], narrowed := true }
def KeyringNewerUptoSaid : Prop := keyringNewerUptoRow.holds Tryd.pinned (OpenSpec.upto keyringNewerSpec)

/-- 'kinkeeplaw31.KeyringOrders', WHERE WHAT IT READS IS OF BULK AT MOST 1048576: true; the input reads as it did. -/
def keyringOrdersUptoRow : OpenClaim := { program := "ythikoaamigiceaadoor", sum := "384c69b36b3697aa97e97c2356f5dc971900994e951bd4c1652b9c1f9089365e", func := "kinkeep/kinkeeplaw31.KeyringOrders", spec := "keyringOrders", unfollowed := true, recurses := true, named := ["kinkeep/hmac.pads", "kinkeep/sha256.initial", "kinkeep/sha256.constants"], apart := false, laid := [("kinkeep/sha256.initial", laid_kinkeep_sha256_initial), ("kinkeep/sha256.constants", laid_kinkeep_sha256_constants), ("kinkeep/hmac.pads", laid_kinkeep_hmac_pads)], narrowed := true }
def KeyringOrdersUptoSaid : Prop := keyringOrdersUptoRow.holds Tryd.pinned (OpenSpec.upto keyringOrdersSpec)

/-- 'kinkeeplaw31.KeyringAny', WHERE WHAT IT READS IS OF BULK AT MOST 1048576: true; the input reads as it did. -/
def keyringAnyUptoRow : OpenClaim := { program := "ythikoaamigiceaadoor", sum := "384c69b36b3697aa97e97c2356f5dc971900994e951bd4c1652b9c1f9089365e", func := "kinkeep/kinkeeplaw31.KeyringAny", spec := "keyringAny", unfollowed := true, recurses := true, named := ["kinkeep/hmac.pads", "kinkeep/sha256.initial", "kinkeep/sha256.constants"], apart := false, laid := [("kinkeep/sha256.initial", laid_kinkeep_sha256_initial), ("kinkeep/sha256.constants", laid_kinkeep_sha256_constants), ("kinkeep/hmac.pads", laid_kinkeep_hmac_pads)], narrowed := true }
def KeyringAnyUptoSaid : Prop := keyringAnyUptoRow.holds Tryd.pinned (OpenSpec.upto keyringAnySpec)

end Rows
end Go.Proofs.YthikoaamigiceaaDoor
