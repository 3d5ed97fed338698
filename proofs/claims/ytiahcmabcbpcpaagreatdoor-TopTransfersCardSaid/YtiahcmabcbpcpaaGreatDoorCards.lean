/-
  DERIVED. GIVEN WITH THE SEED: THE CARDS: each row of YtiahcmabcbpcpaaGreatDoorRows.lean that lists a variable, with what it lists TIED to the program's text (the seventh form; the later family's looks); each row that meets fmt, with fmt's text TOLD by the authors' own Lean function (tested against real Go, not proved from fmt's source: count such statements apart). THE CARD IS WHAT COUNTS. Prove the row's statement (the work); the ties are given (YtiahcmabcbpcpaaGreatDoorTie.lean); close each card by the builder's one call (the guide's Derived/Test/ToyasCard.lean, 'card_holds'). Laid BY PROGRAM, IN A SANDBOX (cutbox-door.mjs). By AI agents, Wed Nov 11 2026. No macro, syntax, notation, axiom, sorry.
-/
import Derived.Test.YtiahcmabcbpcpaaGreatDoorRows
import GoSem.ClaimSeven
namespace Go.Proofs.YtiahcmabcbpcpaaGreatDoor
namespace Rows

/-- THE TIED CARD OF 'kinkeeptop.TopTransfers'. -/
def topTransfersCard : Claim7 := { stood := { row := topTransfersRow, standIns := [], harness := (true, "05e94ed16a80ebe8e2e3182c4f83a72bedab5ec8886932af1b0ca51af4f61339"), looks := false }, kinds := [], alts := [], laidByText := true, laidKinds := [.data, .data, .data, .data, .data, .pinned], laidTests := true, laidLooks := .later }
def TopTransfersCardSaid : Prop := Claim7.holds Tryz.pinned (.plain (OpenSpec.ofChange topTransfersSpec)) topTransfersCard

/-- THE SECOND FORM's CARD OF 'kinkeeptop.TopTransfers'. -/
def topTransfersUptoCard : Claim7 := { stood := { row := topTransfersUptoRow, standIns := [], harness := (true, "05e94ed16a80ebe8e2e3182c4f83a72bedab5ec8886932af1b0ca51af4f61339"), looks := false }, kinds := [], alts := [], laidByText := true, laidKinds := [.data, .data, .data, .data, .data, .pinned], laidTests := true, laidLooks := .later }
def TopTransfersUptoCardSaid : Prop := Claim7.holds Tryz.pinned (.plain (OpenSpec.upto topTransfersSpec)) topTransfersUptoCard
end Rows
end Go.Proofs.YtiahcmabcbpcpaaGreatDoor
