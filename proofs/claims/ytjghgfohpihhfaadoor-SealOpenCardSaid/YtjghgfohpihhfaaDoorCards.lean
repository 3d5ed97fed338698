/-
  DERIVED. GIVEN WITH THE SEED: THE CARDS: each row of YtjghgfohpihhfaaDoorRows.lean that lists a variable, with what it lists TIED to the program's text (the seventh form; the later family's looks); each row that meets fmt, with fmt's text TOLD by the authors' own Lean function (tested against real Go, not proved from fmt's source: count such statements apart). THE CARD IS WHAT COUNTS. Prove the row's statement (the work); the ties are given (YtjghgfohpihhfaaDoorTie.lean); close each card by the builder's one call (the guide's Derived/Test/ToyasCard.lean, 'card_holds'). Laid BY PROGRAM, IN A SANDBOX (cutbox-door.mjs). By AI agents, Wed Nov 11 2026. No macro, syntax, notation, axiom, sorry.
-/
import Derived.Test.YtjghgfohpihhfaaDoorRows
import GoSem.ClaimSeven
namespace Go.Proofs.YtjghgfohpihhfaaDoor
namespace Rows

/-- THE TIED CARD OF 'kinkeeplaw11.SealClass'. -/
def sealClassCard : Claim7 := { stood := { row := sealClassRow, standIns := [], harness := (true, "1431966289a954d8e65e503d9140fcdf90861731e7238051e5bf33fb62229337"), looks := false }, kinds := [], alts := [], laidByText := true, laidKinds := [.data, .data, .data], laidTests := true, laidLooks := .later }
def SealClassCardSaid : Prop := Claim7.holds Tryd.pinned (.plain (OpenSpec.ofChange sealClassSpec)) sealClassCard

/-- THE TIED CARD OF 'kinkeeplaw11.SealBody'. -/
def sealBodyCard : Claim7 := { stood := { row := sealBodyRow, standIns := [], harness := (true, "1431966289a954d8e65e503d9140fcdf90861731e7238051e5bf33fb62229337"), looks := false }, kinds := [], alts := [], laidByText := true, laidKinds := [.data, .data, .data], laidTests := true, laidLooks := .later }
def SealBodyCardSaid : Prop := Claim7.holds Tryd.pinned (.plain (OpenSpec.ofChange sealBodySpec)) sealBodyCard

/-- THE TIED CARD OF 'kinkeeplaw11.SealContent'. -/
def sealContentCard : Claim7 := { stood := { row := sealContentRow, standIns := [], harness := (true, "1431966289a954d8e65e503d9140fcdf90861731e7238051e5bf33fb62229337"), looks := false }, kinds := [], alts := [], laidByText := true, laidKinds := [.data, .data, .data], laidTests := true, laidLooks := .later }
def SealContentCardSaid : Prop := Claim7.holds Tryd.pinned (.plain (OpenSpec.ofChange sealContentSpec)) sealContentCard

/-- THE TIED CARD OF 'kinkeeplaw11.SealNames'. -/
def sealNamesCard : Claim7 := { stood := { row := sealNamesRow, standIns := [], harness := (true, "1431966289a954d8e65e503d9140fcdf90861731e7238051e5bf33fb62229337"), looks := false }, kinds := [], alts := [], laidByText := true, laidKinds := [.data, .data, .data], laidTests := true, laidLooks := .later }
def SealNamesCardSaid : Prop := Claim7.holds Tryd.pinned (.plain (OpenSpec.ofChange sealNamesSpec)) sealNamesCard

/-- THE TIED CARD OF 'kinkeeplaw11.SealSeals'. -/
def sealSealsCard : Claim7 := { stood := { row := sealSealsRow, standIns := [], harness := (true, "1431966289a954d8e65e503d9140fcdf90861731e7238051e5bf33fb62229337"), looks := false }, kinds := [], alts := [], laidByText := true, laidKinds := [.data, .data, .data], laidTests := true, laidLooks := .later }
def SealSealsCardSaid : Prop := Claim7.holds Tryd.pinned (.plain (OpenSpec.ofChange sealSealsSpec)) sealSealsCard

/-- THE TIED CARD OF 'kinkeeplaw11.SealOpens'. -/
def sealOpensCard : Claim7 := { stood := { row := sealOpensRow, standIns := [], harness := (true, "1431966289a954d8e65e503d9140fcdf90861731e7238051e5bf33fb62229337"), looks := false }, kinds := [], alts := [], laidByText := true, laidKinds := [.data, .data, .data], laidTests := true, laidLooks := .later }
def SealOpensCardSaid : Prop := Claim7.holds Tryd.pinned (.plain (OpenSpec.ofChange sealOpensSpec)) sealOpensCard

/-- THE TIED CARD OF 'kinkeeplaw11.SealRefuses'. -/
def sealRefusesCard : Claim7 := { stood := { row := sealRefusesRow, standIns := [], harness := (true, "1431966289a954d8e65e503d9140fcdf90861731e7238051e5bf33fb62229337"), looks := false }, kinds := [], alts := [], laidByText := true, laidKinds := [.data, .data, .data], laidTests := true, laidLooks := .later }
def SealRefusesCardSaid : Prop := Claim7.holds Tryd.pinned (.plain (OpenSpec.ofChange sealRefusesSpec)) sealRefusesCard

/-- THE TIED CARD OF 'kinkeeplaw11.SealOpen'. -/
def sealOpenCard : Claim7 := { stood := { row := sealOpenRow, standIns := [], harness := (true, "1431966289a954d8e65e503d9140fcdf90861731e7238051e5bf33fb62229337"), looks := false }, kinds := [], alts := [], laidByText := true, laidKinds := [.data, .data, .data], laidTests := true, laidLooks := .later }
def SealOpenCardSaid : Prop := Claim7.holds Tryd.pinned (.plain (OpenSpec.ofChange sealOpenSpec)) sealOpenCard

/-- THE TIED CARD OF 'kinkeeplaw11.SealWiths'. -/
def sealWithsCard : Claim7 := { stood := { row := sealWithsRow, standIns := [], harness := (true, "1431966289a954d8e65e503d9140fcdf90861731e7238051e5bf33fb62229337"), looks := false }, kinds := [], alts := [], laidByText := true, laidKinds := [.data, .data, .data], laidTests := true, laidLooks := .later }
def SealWithsCardSaid : Prop := Claim7.holds Tryd.pinned (.plain (OpenSpec.ofChange sealWithsSpec)) sealWithsCard

/-- THE TIED CARD OF 'kinkeeplaw11.SealSecret'. -/
def sealSecretCard : Claim7 := { stood := { row := sealSecretRow, standIns := [], harness := (true, "1431966289a954d8e65e503d9140fcdf90861731e7238051e5bf33fb62229337"), looks := false }, kinds := [], alts := [], laidByText := true, laidKinds := [.data, .data, .data], laidTests := true, laidLooks := .later }
def SealSecretCardSaid : Prop := Claim7.holds Tryd.pinned (.plain (OpenSpec.ofChange sealSecretSpec)) sealSecretCard

/-- THE TIED CARD OF 'kinkeeplaw11.SealClasses'. -/
def sealClassesCard : Claim7 := { stood := { row := sealClassesRow, standIns := [], harness := (true, "1431966289a954d8e65e503d9140fcdf90861731e7238051e5bf33fb62229337"), looks := false }, kinds := [], alts := [], laidByText := true, laidKinds := [.data, .data, .data], laidTests := true, laidLooks := .later }
def SealClassesCardSaid : Prop := Claim7.holds Tryd.pinned (.plain (OpenSpec.ofChange sealClassesSpec)) sealClassesCard

/-- THE SECOND FORM's CARD OF 'kinkeeplaw11.SealClass'. -/
def sealClassUptoCard : Claim7 := { stood := { row := sealClassUptoRow, standIns := [], harness := (true, "1431966289a954d8e65e503d9140fcdf90861731e7238051e5bf33fb62229337"), looks := false }, kinds := [], alts := [], laidByText := true, laidKinds := [.data, .data, .data], laidTests := true, laidLooks := .later }
def SealClassUptoCardSaid : Prop := Claim7.holds Tryd.pinned (.plain (OpenSpec.upto sealClassSpec)) sealClassUptoCard

/-- THE SECOND FORM's CARD OF 'kinkeeplaw11.SealBody'. -/
def sealBodyUptoCard : Claim7 := { stood := { row := sealBodyUptoRow, standIns := [], harness := (true, "1431966289a954d8e65e503d9140fcdf90861731e7238051e5bf33fb62229337"), looks := false }, kinds := [], alts := [], laidByText := true, laidKinds := [.data, .data, .data], laidTests := true, laidLooks := .later }
def SealBodyUptoCardSaid : Prop := Claim7.holds Tryd.pinned (.plain (OpenSpec.upto sealBodySpec)) sealBodyUptoCard

/-- THE SECOND FORM's CARD OF 'kinkeeplaw11.SealContent'. -/
def sealContentUptoCard : Claim7 := { stood := { row := sealContentUptoRow, standIns := [], harness := (true, "1431966289a954d8e65e503d9140fcdf90861731e7238051e5bf33fb62229337"), looks := false }, kinds := [], alts := [], laidByText := true, laidKinds := [.data, .data, .data], laidTests := true, laidLooks := .later }
def SealContentUptoCardSaid : Prop := Claim7.holds Tryd.pinned (.plain (OpenSpec.upto sealContentSpec)) sealContentUptoCard

/-- THE SECOND FORM's CARD OF 'kinkeeplaw11.SealNames'. -/
def sealNamesUptoCard : Claim7 := { stood := { row := sealNamesUptoRow, standIns := [], harness := (true, "1431966289a954d8e65e503d9140fcdf90861731e7238051e5bf33fb62229337"), looks := false }, kinds := [], alts := [], laidByText := true, laidKinds := [.data, .data, .data], laidTests := true, laidLooks := .later }
def SealNamesUptoCardSaid : Prop := Claim7.holds Tryd.pinned (.plain (OpenSpec.upto sealNamesSpec)) sealNamesUptoCard

/-- THE SECOND FORM's CARD OF 'kinkeeplaw11.SealSeals'. -/
def sealSealsUptoCard : Claim7 := { stood := { row := sealSealsUptoRow, standIns := [], harness := (true, "1431966289a954d8e65e503d9140fcdf90861731e7238051e5bf33fb62229337"), looks := false }, kinds := [], alts := [], laidByText := true, laidKinds := [.data, .data, .data], laidTests := true, laidLooks := .later }
def SealSealsUptoCardSaid : Prop := Claim7.holds Tryd.pinned (.plain (OpenSpec.upto sealSealsSpec)) sealSealsUptoCard

/-- THE SECOND FORM's CARD OF 'kinkeeplaw11.SealOpens'. -/
def sealOpensUptoCard : Claim7 := { stood := { row := sealOpensUptoRow, standIns := [], harness := (true, "1431966289a954d8e65e503d9140fcdf90861731e7238051e5bf33fb62229337"), looks := false }, kinds := [], alts := [], laidByText := true, laidKinds := [.data, .data, .data], laidTests := true, laidLooks := .later }
def SealOpensUptoCardSaid : Prop := Claim7.holds Tryd.pinned (.plain (OpenSpec.upto sealOpensSpec)) sealOpensUptoCard

/-- THE SECOND FORM's CARD OF 'kinkeeplaw11.SealRefuses'. -/
def sealRefusesUptoCard : Claim7 := { stood := { row := sealRefusesUptoRow, standIns := [], harness := (true, "1431966289a954d8e65e503d9140fcdf90861731e7238051e5bf33fb62229337"), looks := false }, kinds := [], alts := [], laidByText := true, laidKinds := [.data, .data, .data], laidTests := true, laidLooks := .later }
def SealRefusesUptoCardSaid : Prop := Claim7.holds Tryd.pinned (.plain (OpenSpec.upto sealRefusesSpec)) sealRefusesUptoCard

/-- THE SECOND FORM's CARD OF 'kinkeeplaw11.SealOpen'. -/
def sealOpenUptoCard : Claim7 := { stood := { row := sealOpenUptoRow, standIns := [], harness := (true, "1431966289a954d8e65e503d9140fcdf90861731e7238051e5bf33fb62229337"), looks := false }, kinds := [], alts := [], laidByText := true, laidKinds := [.data, .data, .data], laidTests := true, laidLooks := .later }
def SealOpenUptoCardSaid : Prop := Claim7.holds Tryd.pinned (.plain (OpenSpec.upto sealOpenSpec)) sealOpenUptoCard

/-- THE SECOND FORM's CARD OF 'kinkeeplaw11.SealWiths'. -/
def sealWithsUptoCard : Claim7 := { stood := { row := sealWithsUptoRow, standIns := [], harness := (true, "1431966289a954d8e65e503d9140fcdf90861731e7238051e5bf33fb62229337"), looks := false }, kinds := [], alts := [], laidByText := true, laidKinds := [.data, .data, .data], laidTests := true, laidLooks := .later }
def SealWithsUptoCardSaid : Prop := Claim7.holds Tryd.pinned (.plain (OpenSpec.upto sealWithsSpec)) sealWithsUptoCard

/-- THE SECOND FORM's CARD OF 'kinkeeplaw11.SealSecret'. -/
def sealSecretUptoCard : Claim7 := { stood := { row := sealSecretUptoRow, standIns := [], harness := (true, "1431966289a954d8e65e503d9140fcdf90861731e7238051e5bf33fb62229337"), looks := false }, kinds := [], alts := [], laidByText := true, laidKinds := [.data, .data, .data], laidTests := true, laidLooks := .later }
def SealSecretUptoCardSaid : Prop := Claim7.holds Tryd.pinned (.plain (OpenSpec.upto sealSecretSpec)) sealSecretUptoCard

/-- THE SECOND FORM's CARD OF 'kinkeeplaw11.SealClasses'. -/
def sealClassesUptoCard : Claim7 := { stood := { row := sealClassesUptoRow, standIns := [], harness := (true, "1431966289a954d8e65e503d9140fcdf90861731e7238051e5bf33fb62229337"), looks := false }, kinds := [], alts := [], laidByText := true, laidKinds := [.data, .data, .data], laidTests := true, laidLooks := .later }
def SealClassesUptoCardSaid : Prop := Claim7.holds Tryd.pinned (.plain (OpenSpec.upto sealClassesSpec)) sealClassesUptoCard
end Rows
end Go.Proofs.YtjghgfohpihhfaaDoor
