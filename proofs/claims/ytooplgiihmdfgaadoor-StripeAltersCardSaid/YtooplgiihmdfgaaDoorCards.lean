/-
  DERIVED. GIVEN WITH THE SEED: THE CARDS: each row of YtooplgiihmdfgaaDoorRows.lean that lists a variable, with what it lists TIED to the program's text (the seventh form; the later family's looks); each row that meets fmt, with fmt's text TOLD by the authors' own Lean function (tested against real Go, not proved from fmt's source: count such statements apart). THE CARD IS WHAT COUNTS. Prove the row's statement (the work); the ties are given (YtooplgiihmdfgaaDoorTie.lean); close each card by the builder's one call (the guide's Derived/Test/ToyasCard.lean, 'card_holds'). Laid BY PROGRAM, IN A SANDBOX (cutbox-door.mjs). By AI agents, Wed Nov 11 2026. No macro, syntax, notation, axiom, sorry.
-/
import Derived.Test.YtooplgiihmdfgaaDoorRows
import GoSem.ClaimSeven
namespace Go.Proofs.YtooplgiihmdfgaaDoor
namespace Rows

/-- THE TIED CARD OF 'kinkeeplaw30.StripePacks'. -/
def stripePacksCard : Claim7 := { stood := { row := stripePacksRow, standIns := [], harness := (true, "723e2441732af7d123581f4ddb11e063eeafcb671def56b5d3ffe8cf3ae4bf17"), looks := false }, kinds := [], alts := [], laidByText := true, laidKinds := [.data, .data], laidTests := true, laidLooks := .later }
def StripePacksCardSaid : Prop := Claim7.holds Tryd.pinned (.plain (OpenSpec.ofChange stripePacksSpec)) stripePacksCard

/-- THE TIED CARD OF 'kinkeeplaw30.StripeGroups'. -/
def stripeGroupsCard : Claim7 := { stood := { row := stripeGroupsRow, standIns := [], harness := (true, "723e2441732af7d123581f4ddb11e063eeafcb671def56b5d3ffe8cf3ae4bf17"), looks := false }, kinds := [], alts := [], laidByText := true, laidKinds := [.data, .data], laidTests := true, laidLooks := .later }
def StripeGroupsCardSaid : Prop := Claim7.holds Tryd.pinned (.plain (OpenSpec.ofChange stripeGroupsSpec)) stripeGroupsCard

/-- THE TIED CARD OF 'kinkeeplaw30.StripeAlters'. -/
def stripeAltersCard : Claim7 := { stood := { row := stripeAltersRow, standIns := [], harness := (true, "723e2441732af7d123581f4ddb11e063eeafcb671def56b5d3ffe8cf3ae4bf17"), looks := false }, kinds := [], alts := [], laidByText := true, laidKinds := [.data, .data], laidTests := true, laidLooks := .later }
def StripeAltersCardSaid : Prop := Claim7.holds Tryd.pinned (.plain (OpenSpec.ofChange stripeAltersSpec)) stripeAltersCard

/-- THE TIED CARD OF 'kinkeeplaw30.StripeAny'. -/
def stripeAnyCard : Claim7 := { stood := { row := stripeAnyRow, standIns := [], harness := (true, "723e2441732af7d123581f4ddb11e063eeafcb671def56b5d3ffe8cf3ae4bf17"), looks := false }, kinds := [], alts := [], laidByText := true, laidKinds := [.data, .data], laidTests := true, laidLooks := .later }
def StripeAnyCardSaid : Prop := Claim7.holds Tryd.pinned (.plain (OpenSpec.ofChange stripeAnySpec)) stripeAnyCard

/-- THE TIED CARD OF 'kinkeeplaw30.StripeHides'. -/
def stripeHidesCard : Claim7 := { stood := { row := stripeHidesRow, standIns := [], harness := (true, "723e2441732af7d123581f4ddb11e063eeafcb671def56b5d3ffe8cf3ae4bf17"), looks := false }, kinds := [], alts := [], laidByText := true, laidKinds := [.data, .data], laidTests := true, laidLooks := .later }
def StripeHidesCardSaid : Prop := Claim7.holds Tryd.pinned (.plain (OpenSpec.ofChange stripeHidesSpec)) stripeHidesCard

/-- THE SECOND FORM's CARD OF 'kinkeeplaw30.StripePacks'. -/
def stripePacksUptoCard : Claim7 := { stood := { row := stripePacksUptoRow, standIns := [], harness := (true, "723e2441732af7d123581f4ddb11e063eeafcb671def56b5d3ffe8cf3ae4bf17"), looks := false }, kinds := [], alts := [], laidByText := true, laidKinds := [.data, .data], laidTests := true, laidLooks := .later }
def StripePacksUptoCardSaid : Prop := Claim7.holds Tryd.pinned (.plain (OpenSpec.upto stripePacksSpec)) stripePacksUptoCard

/-- THE SECOND FORM's CARD OF 'kinkeeplaw30.StripeGroups'. -/
def stripeGroupsUptoCard : Claim7 := { stood := { row := stripeGroupsUptoRow, standIns := [], harness := (true, "723e2441732af7d123581f4ddb11e063eeafcb671def56b5d3ffe8cf3ae4bf17"), looks := false }, kinds := [], alts := [], laidByText := true, laidKinds := [.data, .data], laidTests := true, laidLooks := .later }
def StripeGroupsUptoCardSaid : Prop := Claim7.holds Tryd.pinned (.plain (OpenSpec.upto stripeGroupsSpec)) stripeGroupsUptoCard

/-- THE SECOND FORM's CARD OF 'kinkeeplaw30.StripeAlters'. -/
def stripeAltersUptoCard : Claim7 := { stood := { row := stripeAltersUptoRow, standIns := [], harness := (true, "723e2441732af7d123581f4ddb11e063eeafcb671def56b5d3ffe8cf3ae4bf17"), looks := false }, kinds := [], alts := [], laidByText := true, laidKinds := [.data, .data], laidTests := true, laidLooks := .later }
def StripeAltersUptoCardSaid : Prop := Claim7.holds Tryd.pinned (.plain (OpenSpec.upto stripeAltersSpec)) stripeAltersUptoCard

/-- THE SECOND FORM's CARD OF 'kinkeeplaw30.StripeAny'. -/
def stripeAnyUptoCard : Claim7 := { stood := { row := stripeAnyUptoRow, standIns := [], harness := (true, "723e2441732af7d123581f4ddb11e063eeafcb671def56b5d3ffe8cf3ae4bf17"), looks := false }, kinds := [], alts := [], laidByText := true, laidKinds := [.data, .data], laidTests := true, laidLooks := .later }
def StripeAnyUptoCardSaid : Prop := Claim7.holds Tryd.pinned (.plain (OpenSpec.upto stripeAnySpec)) stripeAnyUptoCard

/-- THE SECOND FORM's CARD OF 'kinkeeplaw30.StripeHides'. -/
def stripeHidesUptoCard : Claim7 := { stood := { row := stripeHidesUptoRow, standIns := [], harness := (true, "723e2441732af7d123581f4ddb11e063eeafcb671def56b5d3ffe8cf3ae4bf17"), looks := false }, kinds := [], alts := [], laidByText := true, laidKinds := [.data, .data], laidTests := true, laidLooks := .later }
def StripeHidesUptoCardSaid : Prop := Claim7.holds Tryd.pinned (.plain (OpenSpec.upto stripeHidesSpec)) stripeHidesUptoCard
end Rows
end Go.Proofs.YtooplgiihmdfgaaDoor
