/-
  DERIVED. GIVEN WITH THE SEED: THE CARDS: each row of YtpnhgldpeiogbaaGreatDoorRows.lean that lists a variable, with what it lists TIED to the program's text (the seventh form; the later family's looks); each row that meets fmt, with fmt's text TOLD by the authors' own Lean function (tested against real Go, not proved from fmt's source: count such statements apart). THE CARD IS WHAT COUNTS. Prove the row's statement (the work); the ties are given (YtpnhgldpeiogbaaGreatDoorTie.lean); close each card by the builder's one call (the guide's Derived/Test/ToyasCard.lean, 'card_holds'). Laid BY PROGRAM, IN A SANDBOX (cutbox-door.mjs). By AI agents, Wed Nov 11 2026. No macro, syntax, notation, axiom, sorry.
-/
import Derived.Test.YtpnhgldpeiogbaaGreatDoorRows
import GoSem.ClaimSeven
namespace Go.Proofs.YtpnhgldpeiogbaaGreatDoor
namespace Rows

/-- THE TIED CARD OF 'kinkeeplaw30.StripeMakes'. -/
def stripeMakesCard : Claim7 := { stood := { row := stripeMakesRow, standIns := [], harness := (true, "dbc52b968f263b243f10a423783c5f1daaf5a7e81c044411da8633365328a293"), looks := false }, kinds := [], alts := [], laidByText := true, laidKinds := [.data, .data], laidTests := true, laidLooks := .later }
def StripeMakesCardSaid : Prop := Claim7.holds Tryz.pinned (.plain (OpenSpec.ofChange stripeMakesSpec)) stripeMakesCard

/-- THE TIED CARD OF 'kinkeeplaw30.StripeChecks'. -/
def stripeChecksCard : Claim7 := { stood := { row := stripeChecksRow, standIns := [], harness := (true, "dbc52b968f263b243f10a423783c5f1daaf5a7e81c044411da8633365328a293"), looks := false }, kinds := [], alts := [], laidByText := true, laidKinds := [.data, .data], laidTests := true, laidLooks := .later }
def StripeChecksCardSaid : Prop := Claim7.holds Tryz.pinned (.plain (OpenSpec.ofChange stripeChecksSpec)) stripeChecksCard

/-- THE TIED CARD OF 'kinkeeplaw30.StripeUnmakes'. -/
def stripeUnmakesCard : Claim7 := { stood := { row := stripeUnmakesRow, standIns := [], harness := (true, "dbc52b968f263b243f10a423783c5f1daaf5a7e81c044411da8633365328a293"), looks := false }, kinds := [], alts := [], laidByText := true, laidKinds := [.data, .data], laidTests := true, laidLooks := .later }
def StripeUnmakesCardSaid : Prop := Claim7.holds Tryz.pinned (.plain (OpenSpec.ofChange stripeUnmakesSpec)) stripeUnmakesCard

/-- THE TIED CARD OF 'kinkeeplaw30.StripeEncodes'. -/
def stripeEncodesCard : Claim7 := { stood := { row := stripeEncodesRow, standIns := [], harness := (true, "dbc52b968f263b243f10a423783c5f1daaf5a7e81c044411da8633365328a293"), looks := false }, kinds := [], alts := [], laidByText := true, laidKinds := [.data, .data], laidTests := true, laidLooks := .later }
def StripeEncodesCardSaid : Prop := Claim7.holds Tryz.pinned (.plain (OpenSpec.ofChange stripeEncodesSpec)) stripeEncodesCard

/-- THE TIED CARD OF 'kinkeeplaw30.StripeOpens'. -/
def stripeOpensCard : Claim7 := { stood := { row := stripeOpensRow, standIns := [], harness := (true, "dbc52b968f263b243f10a423783c5f1daaf5a7e81c044411da8633365328a293"), looks := false }, kinds := [], alts := [], laidByText := true, laidKinds := [.data, .data, .data], laidTests := true, laidLooks := .later }
def StripeOpensCardSaid : Prop := Claim7.holds Tryz.pinned (.plain (OpenSpec.ofChange stripeOpensSpec)) stripeOpensCard

/-- THE SECOND FORM's CARD OF 'kinkeeplaw30.StripeMakes'. -/
def stripeMakesUptoCard : Claim7 := { stood := { row := stripeMakesUptoRow, standIns := [], harness := (true, "dbc52b968f263b243f10a423783c5f1daaf5a7e81c044411da8633365328a293"), looks := false }, kinds := [], alts := [], laidByText := true, laidKinds := [.data, .data], laidTests := true, laidLooks := .later }
def StripeMakesUptoCardSaid : Prop := Claim7.holds Tryz.pinned (.plain (OpenSpec.upto stripeMakesSpec)) stripeMakesUptoCard

/-- THE SECOND FORM's CARD OF 'kinkeeplaw30.StripeChecks'. -/
def stripeChecksUptoCard : Claim7 := { stood := { row := stripeChecksUptoRow, standIns := [], harness := (true, "dbc52b968f263b243f10a423783c5f1daaf5a7e81c044411da8633365328a293"), looks := false }, kinds := [], alts := [], laidByText := true, laidKinds := [.data, .data], laidTests := true, laidLooks := .later }
def StripeChecksUptoCardSaid : Prop := Claim7.holds Tryz.pinned (.plain (OpenSpec.upto stripeChecksSpec)) stripeChecksUptoCard

/-- THE SECOND FORM's CARD OF 'kinkeeplaw30.StripeUnmakes'. -/
def stripeUnmakesUptoCard : Claim7 := { stood := { row := stripeUnmakesUptoRow, standIns := [], harness := (true, "dbc52b968f263b243f10a423783c5f1daaf5a7e81c044411da8633365328a293"), looks := false }, kinds := [], alts := [], laidByText := true, laidKinds := [.data, .data], laidTests := true, laidLooks := .later }
def StripeUnmakesUptoCardSaid : Prop := Claim7.holds Tryz.pinned (.plain (OpenSpec.upto stripeUnmakesSpec)) stripeUnmakesUptoCard

/-- THE SECOND FORM's CARD OF 'kinkeeplaw30.StripeEncodes'. -/
def stripeEncodesUptoCard : Claim7 := { stood := { row := stripeEncodesUptoRow, standIns := [], harness := (true, "dbc52b968f263b243f10a423783c5f1daaf5a7e81c044411da8633365328a293"), looks := false }, kinds := [], alts := [], laidByText := true, laidKinds := [.data, .data], laidTests := true, laidLooks := .later }
def StripeEncodesUptoCardSaid : Prop := Claim7.holds Tryz.pinned (.plain (OpenSpec.upto stripeEncodesSpec)) stripeEncodesUptoCard

/-- THE SECOND FORM's CARD OF 'kinkeeplaw30.StripeOpens'. -/
def stripeOpensUptoCard : Claim7 := { stood := { row := stripeOpensUptoRow, standIns := [], harness := (true, "dbc52b968f263b243f10a423783c5f1daaf5a7e81c044411da8633365328a293"), looks := false }, kinds := [], alts := [], laidByText := true, laidKinds := [.data, .data, .data], laidTests := true, laidLooks := .later }
def StripeOpensUptoCardSaid : Prop := Claim7.holds Tryz.pinned (.plain (OpenSpec.upto stripeOpensSpec)) stripeOpensUptoCard
end Rows
end Go.Proofs.YtpnhgldpeiogbaaGreatDoor
