/-
  DERIVED. GIVEN WITH THE SEED: THE CARDS: each row of YthikoaamigiceaaGreatDoorRows.lean that lists a variable, with what it lists TIED to the program's text (the seventh form; the later family's looks); each row that meets fmt, with fmt's text TOLD by the authors' own Lean function (tested against real Go, not proved from fmt's source: count such statements apart). THE CARD IS WHAT COUNTS. Prove the row's statement (the work); the ties are given (YthikoaamigiceaaGreatDoorTie.lean); close each card by the builder's one call (the guide's Derived/Test/ToyasCard.lean, 'card_holds'). Laid BY PROGRAM, IN A SANDBOX (cutbox-door.mjs). By AI agents, Wed Nov 11 2026. No macro, syntax, notation, axiom, sorry.
-/
import Derived.Test.YthikoaamigiceaaGreatDoorRows
import GoSem.ClaimSeven
namespace Go.Proofs.YthikoaamigiceaaGreatDoor
namespace Rows

/-- THE TIED CARD OF 'kinkeeplaw31.KeyringSeals'. -/
def keyringSealsCard : Claim7 := { stood := { row := keyringSealsRow, standIns := [], harness := (true, "c0b120dbc7da4402e943dc1669c6a521ecc771937b0f7882586a54eeb6bdf9f4"), looks := false }, kinds := [], alts := [], laidByText := true, laidKinds := [.data, .data, .data], laidTests := true, laidLooks := .later }
def KeyringSealsCardSaid : Prop := Claim7.holds Tryz.pinned (.plain (OpenSpec.ofChange keyringSealsSpec)) keyringSealsCard

/-- THE TIED CARD OF 'kinkeeplaw31.KeyringRecover'. -/
def keyringRecoverCard : Claim7 := { stood := { row := keyringRecoverRow, standIns := [], harness := (true, "c0b120dbc7da4402e943dc1669c6a521ecc771937b0f7882586a54eeb6bdf9f4"), looks := false }, kinds := [], alts := [], laidByText := true, laidKinds := [.data, .data, .data], laidTests := true, laidLooks := .later }
def KeyringRecoverCardSaid : Prop := Claim7.holds Tryz.pinned (.plain (OpenSpec.ofChange keyringRecoverSpec)) keyringRecoverCard

/-- THE TIED CARD OF 'kinkeeplaw31.KeyringIndex'. -/
def keyringIndexCard : Claim7 := { stood := { row := keyringIndexRow, standIns := [], harness := (true, "c0b120dbc7da4402e943dc1669c6a521ecc771937b0f7882586a54eeb6bdf9f4"), looks := false }, kinds := [], alts := [], laidByText := true, laidKinds := [.data, .data, .data], laidTests := true, laidLooks := .later }
def KeyringIndexCardSaid : Prop := Claim7.holds Tryz.pinned (.plain (OpenSpec.ofChange keyringIndexSpec)) keyringIndexCard

/-- THE TIED CARD OF 'kinkeeplaw31.KeyringDecode'. -/
def keyringDecodeCard : Claim7 := { stood := { row := keyringDecodeRow, standIns := [], harness := (true, "c0b120dbc7da4402e943dc1669c6a521ecc771937b0f7882586a54eeb6bdf9f4"), looks := false }, kinds := [], alts := [], laidByText := true, laidKinds := [.data, .data, .data], laidTests := true, laidLooks := .later }
def KeyringDecodeCardSaid : Prop := Claim7.holds Tryz.pinned (.plain (OpenSpec.ofChange keyringDecodeSpec)) keyringDecodeCard

/-- THE TIED CARD OF 'kinkeeplaw31.KeyringOpen'. -/
def keyringOpenCard : Claim7 := { stood := { row := keyringOpenRow, standIns := [], harness := (true, "c0b120dbc7da4402e943dc1669c6a521ecc771937b0f7882586a54eeb6bdf9f4"), looks := false }, kinds := [], alts := [], laidByText := true, laidKinds := [.data, .data, .data], laidTests := true, laidLooks := .later }
def KeyringOpenCardSaid : Prop := Claim7.holds Tryz.pinned (.plain (OpenSpec.ofChange keyringOpenSpec)) keyringOpenCard

/-- THE TIED CARD OF 'kinkeeplaw31.KeyringOpens'. -/
def keyringOpensCard : Claim7 := { stood := { row := keyringOpensRow, standIns := [], harness := (true, "c0b120dbc7da4402e943dc1669c6a521ecc771937b0f7882586a54eeb6bdf9f4"), looks := false }, kinds := [], alts := [], laidByText := true, laidKinds := [.data, .data, .data], laidTests := true, laidLooks := .later }
def KeyringOpensCardSaid : Prop := Claim7.holds Tryz.pinned (.plain (OpenSpec.ofChange keyringOpensSpec)) keyringOpensCard

/-- THE TIED CARD OF 'kinkeeplaw31.KeyringRefuses'. -/
def keyringRefusesCard : Claim7 := { stood := { row := keyringRefusesRow, standIns := [], harness := (true, "c0b120dbc7da4402e943dc1669c6a521ecc771937b0f7882586a54eeb6bdf9f4"), looks := false }, kinds := [], alts := [], laidByText := true, laidKinds := [.data, .data, .data], laidTests := true, laidLooks := .later }
def KeyringRefusesCardSaid : Prop := Claim7.holds Tryz.pinned (.plain (OpenSpec.ofChange keyringRefusesSpec)) keyringRefusesCard

/-- THE SECOND FORM's CARD OF 'kinkeeplaw31.KeyringSeals'. -/
def keyringSealsUptoCard : Claim7 := { stood := { row := keyringSealsUptoRow, standIns := [], harness := (true, "c0b120dbc7da4402e943dc1669c6a521ecc771937b0f7882586a54eeb6bdf9f4"), looks := false }, kinds := [], alts := [], laidByText := true, laidKinds := [.data, .data, .data], laidTests := true, laidLooks := .later }
def KeyringSealsUptoCardSaid : Prop := Claim7.holds Tryz.pinned (.plain (OpenSpec.upto keyringSealsSpec)) keyringSealsUptoCard

/-- THE SECOND FORM's CARD OF 'kinkeeplaw31.KeyringRecover'. -/
def keyringRecoverUptoCard : Claim7 := { stood := { row := keyringRecoverUptoRow, standIns := [], harness := (true, "c0b120dbc7da4402e943dc1669c6a521ecc771937b0f7882586a54eeb6bdf9f4"), looks := false }, kinds := [], alts := [], laidByText := true, laidKinds := [.data, .data, .data], laidTests := true, laidLooks := .later }
def KeyringRecoverUptoCardSaid : Prop := Claim7.holds Tryz.pinned (.plain (OpenSpec.upto keyringRecoverSpec)) keyringRecoverUptoCard

/-- THE SECOND FORM's CARD OF 'kinkeeplaw31.KeyringIndex'. -/
def keyringIndexUptoCard : Claim7 := { stood := { row := keyringIndexUptoRow, standIns := [], harness := (true, "c0b120dbc7da4402e943dc1669c6a521ecc771937b0f7882586a54eeb6bdf9f4"), looks := false }, kinds := [], alts := [], laidByText := true, laidKinds := [.data, .data, .data], laidTests := true, laidLooks := .later }
def KeyringIndexUptoCardSaid : Prop := Claim7.holds Tryz.pinned (.plain (OpenSpec.upto keyringIndexSpec)) keyringIndexUptoCard

/-- THE SECOND FORM's CARD OF 'kinkeeplaw31.KeyringDecode'. -/
def keyringDecodeUptoCard : Claim7 := { stood := { row := keyringDecodeUptoRow, standIns := [], harness := (true, "c0b120dbc7da4402e943dc1669c6a521ecc771937b0f7882586a54eeb6bdf9f4"), looks := false }, kinds := [], alts := [], laidByText := true, laidKinds := [.data, .data, .data], laidTests := true, laidLooks := .later }
def KeyringDecodeUptoCardSaid : Prop := Claim7.holds Tryz.pinned (.plain (OpenSpec.upto keyringDecodeSpec)) keyringDecodeUptoCard

/-- THE SECOND FORM's CARD OF 'kinkeeplaw31.KeyringOpen'. -/
def keyringOpenUptoCard : Claim7 := { stood := { row := keyringOpenUptoRow, standIns := [], harness := (true, "c0b120dbc7da4402e943dc1669c6a521ecc771937b0f7882586a54eeb6bdf9f4"), looks := false }, kinds := [], alts := [], laidByText := true, laidKinds := [.data, .data, .data], laidTests := true, laidLooks := .later }
def KeyringOpenUptoCardSaid : Prop := Claim7.holds Tryz.pinned (.plain (OpenSpec.upto keyringOpenSpec)) keyringOpenUptoCard

/-- THE SECOND FORM's CARD OF 'kinkeeplaw31.KeyringOpens'. -/
def keyringOpensUptoCard : Claim7 := { stood := { row := keyringOpensUptoRow, standIns := [], harness := (true, "c0b120dbc7da4402e943dc1669c6a521ecc771937b0f7882586a54eeb6bdf9f4"), looks := false }, kinds := [], alts := [], laidByText := true, laidKinds := [.data, .data, .data], laidTests := true, laidLooks := .later }
def KeyringOpensUptoCardSaid : Prop := Claim7.holds Tryz.pinned (.plain (OpenSpec.upto keyringOpensSpec)) keyringOpensUptoCard

/-- THE SECOND FORM's CARD OF 'kinkeeplaw31.KeyringRefuses'. -/
def keyringRefusesUptoCard : Claim7 := { stood := { row := keyringRefusesUptoRow, standIns := [], harness := (true, "c0b120dbc7da4402e943dc1669c6a521ecc771937b0f7882586a54eeb6bdf9f4"), looks := false }, kinds := [], alts := [], laidByText := true, laidKinds := [.data, .data, .data], laidTests := true, laidLooks := .later }
def KeyringRefusesUptoCardSaid : Prop := Claim7.holds Tryz.pinned (.plain (OpenSpec.upto keyringRefusesSpec)) keyringRefusesUptoCard
end Rows
end Go.Proofs.YthikoaamigiceaaGreatDoor
