/-
  DERIVED. GIVEN WITH THE SEED: THE CARDS: each row of YthikoaamigiceaaDoorRows.lean that lists a variable, with what it lists TIED to the program's text (the seventh form; the later family's looks); each row that meets fmt, with fmt's text TOLD by the authors' own Lean function (tested against real Go, not proved from fmt's source: count such statements apart). THE CARD IS WHAT COUNTS. Prove the row's statement (the work); the ties are given (YthikoaamigiceaaDoorTie.lean); close each card by the builder's one call (the guide's Derived/Test/ToyasCard.lean, 'card_holds'). Laid BY PROGRAM, IN A SANDBOX (cutbox-door.mjs). By AI agents, Wed Nov 11 2026. No macro, syntax, notation, axiom, sorry.
-/
import Derived.Test.YthikoaamigiceaaDoorRows
import GoSem.ClaimSeven
namespace Go.Proofs.YthikoaamigiceaaDoor
namespace Rows

/-- THE TIED CARD OF 'kinkeeplaw31.KeyringShares'. -/
def keyringSharesCard : Claim7 := { stood := { row := keyringSharesRow, standIns := [], harness := (true, "e2c5580badd6482e6271221792ff9237fe3d4238d051c2fb3c260ed7716437cf"), looks := false }, kinds := [], alts := [], laidByText := true, laidKinds := [.data, .data, .data], laidTests := true, laidLooks := .later }
def KeyringSharesCardSaid : Prop := Claim7.holds Tryd.pinned (.plain (OpenSpec.ofChange keyringSharesSpec)) keyringSharesCard

/-- THE TIED CARD OF 'kinkeeplaw31.KeyringClass'. -/
def keyringClassCard : Claim7 := { stood := { row := keyringClassRow, standIns := [], harness := (true, "e2c5580badd6482e6271221792ff9237fe3d4238d051c2fb3c260ed7716437cf"), looks := false }, kinds := [], alts := [], laidByText := true, laidKinds := [.data, .data, .data], laidTests := true, laidLooks := .later }
def KeyringClassCardSaid : Prop := Claim7.holds Tryd.pinned (.plain (OpenSpec.ofChange keyringClassSpec)) keyringClassCard

/-- THE TIED CARD OF 'kinkeeplaw31.KeyringKeys'. -/
def keyringKeysCard : Claim7 := { stood := { row := keyringKeysRow, standIns := [], harness := (true, "e2c5580badd6482e6271221792ff9237fe3d4238d051c2fb3c260ed7716437cf"), looks := false }, kinds := [], alts := [], laidByText := true, laidKinds := [.data, .data, .data], laidTests := true, laidLooks := .later }
def KeyringKeysCardSaid : Prop := Claim7.holds Tryd.pinned (.plain (OpenSpec.ofChange keyringKeysSpec)) keyringKeysCard

/-- THE TIED CARD OF 'kinkeeplaw31.KeyringNewer'. -/
def keyringNewerCard : Claim7 := { stood := { row := keyringNewerRow, standIns := [], harness := (true, "e2c5580badd6482e6271221792ff9237fe3d4238d051c2fb3c260ed7716437cf"), looks := false }, kinds := [], alts := [], laidByText := true, laidKinds := [.data, .data, .data], laidTests := true, laidLooks := .later }
def KeyringNewerCardSaid : Prop := Claim7.holds Tryd.pinned (.plain (OpenSpec.ofChange keyringNewerSpec)) keyringNewerCard

/-- THE TIED CARD OF 'kinkeeplaw31.KeyringOrders'. -/
def keyringOrdersCard : Claim7 := { stood := { row := keyringOrdersRow, standIns := [], harness := (true, "e2c5580badd6482e6271221792ff9237fe3d4238d051c2fb3c260ed7716437cf"), looks := false }, kinds := [], alts := [], laidByText := true, laidKinds := [.data, .data, .data], laidTests := true, laidLooks := .later }
def KeyringOrdersCardSaid : Prop := Claim7.holds Tryd.pinned (.plain (OpenSpec.ofChange keyringOrdersSpec)) keyringOrdersCard

/-- THE TIED CARD OF 'kinkeeplaw31.KeyringAny'. -/
def keyringAnyCard : Claim7 := { stood := { row := keyringAnyRow, standIns := [], harness := (true, "e2c5580badd6482e6271221792ff9237fe3d4238d051c2fb3c260ed7716437cf"), looks := false }, kinds := [], alts := [], laidByText := true, laidKinds := [.data, .data, .data], laidTests := true, laidLooks := .later }
def KeyringAnyCardSaid : Prop := Claim7.holds Tryd.pinned (.plain (OpenSpec.ofChange keyringAnySpec)) keyringAnyCard

/-- THE SECOND FORM's CARD OF 'kinkeeplaw31.KeyringShares'. -/
def keyringSharesUptoCard : Claim7 := { stood := { row := keyringSharesUptoRow, standIns := [], harness := (true, "e2c5580badd6482e6271221792ff9237fe3d4238d051c2fb3c260ed7716437cf"), looks := false }, kinds := [], alts := [], laidByText := true, laidKinds := [.data, .data, .data], laidTests := true, laidLooks := .later }
def KeyringSharesUptoCardSaid : Prop := Claim7.holds Tryd.pinned (.plain (OpenSpec.upto keyringSharesSpec)) keyringSharesUptoCard

/-- THE SECOND FORM's CARD OF 'kinkeeplaw31.KeyringClass'. -/
def keyringClassUptoCard : Claim7 := { stood := { row := keyringClassUptoRow, standIns := [], harness := (true, "e2c5580badd6482e6271221792ff9237fe3d4238d051c2fb3c260ed7716437cf"), looks := false }, kinds := [], alts := [], laidByText := true, laidKinds := [.data, .data, .data], laidTests := true, laidLooks := .later }
def KeyringClassUptoCardSaid : Prop := Claim7.holds Tryd.pinned (.plain (OpenSpec.upto keyringClassSpec)) keyringClassUptoCard

/-- THE SECOND FORM's CARD OF 'kinkeeplaw31.KeyringKeys'. -/
def keyringKeysUptoCard : Claim7 := { stood := { row := keyringKeysUptoRow, standIns := [], harness := (true, "e2c5580badd6482e6271221792ff9237fe3d4238d051c2fb3c260ed7716437cf"), looks := false }, kinds := [], alts := [], laidByText := true, laidKinds := [.data, .data, .data], laidTests := true, laidLooks := .later }
def KeyringKeysUptoCardSaid : Prop := Claim7.holds Tryd.pinned (.plain (OpenSpec.upto keyringKeysSpec)) keyringKeysUptoCard

/-- THE SECOND FORM's CARD OF 'kinkeeplaw31.KeyringNewer'. -/
def keyringNewerUptoCard : Claim7 := { stood := { row := keyringNewerUptoRow, standIns := [], harness := (true, "e2c5580badd6482e6271221792ff9237fe3d4238d051c2fb3c260ed7716437cf"), looks := false }, kinds := [], alts := [], laidByText := true, laidKinds := [.data, .data, .data], laidTests := true, laidLooks := .later }
def KeyringNewerUptoCardSaid : Prop := Claim7.holds Tryd.pinned (.plain (OpenSpec.upto keyringNewerSpec)) keyringNewerUptoCard

/-- THE SECOND FORM's CARD OF 'kinkeeplaw31.KeyringOrders'. -/
def keyringOrdersUptoCard : Claim7 := { stood := { row := keyringOrdersUptoRow, standIns := [], harness := (true, "e2c5580badd6482e6271221792ff9237fe3d4238d051c2fb3c260ed7716437cf"), looks := false }, kinds := [], alts := [], laidByText := true, laidKinds := [.data, .data, .data], laidTests := true, laidLooks := .later }
def KeyringOrdersUptoCardSaid : Prop := Claim7.holds Tryd.pinned (.plain (OpenSpec.upto keyringOrdersSpec)) keyringOrdersUptoCard

/-- THE SECOND FORM's CARD OF 'kinkeeplaw31.KeyringAny'. -/
def keyringAnyUptoCard : Claim7 := { stood := { row := keyringAnyUptoRow, standIns := [], harness := (true, "e2c5580badd6482e6271221792ff9237fe3d4238d051c2fb3c260ed7716437cf"), looks := false }, kinds := [], alts := [], laidByText := true, laidKinds := [.data, .data, .data], laidTests := true, laidLooks := .later }
def KeyringAnyUptoCardSaid : Prop := Claim7.holds Tryd.pinned (.plain (OpenSpec.upto keyringAnySpec)) keyringAnyUptoCard
end Rows
end Go.Proofs.YthikoaamigiceaaDoor
