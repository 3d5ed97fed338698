/-
  DERIVED. GIVEN WITH THE SEED: THE CARDS: each row of YtdfmjgbnbfncmaaDoorRows.lean that lists a variable, with what it lists TIED to the program's text (the seventh form; the later family's looks); each row that meets fmt, with fmt's text TOLD by the authors' own Lean function (tested against real Go, not proved from fmt's source: count such statements apart). THE CARD IS WHAT COUNTS. Prove the row's statement (the work); the ties are given (YtdfmjgbnbfncmaaDoorTie.lean); close each card by the builder's one call (the guide's Derived/Test/ToyasCard.lean, 'card_holds'). Laid BY PROGRAM, IN A SANDBOX (cutbox-door.mjs). By AI agents, Wed Nov 11 2026. No macro, syntax, notation, axiom, sorry.
-/
import Derived.Test.YtdfmjgbnbfncmaaDoorRows
import GoSem.ClaimSeven
namespace Go.Proofs.YtdfmjgbnbfncmaaDoor
namespace Rows

/-- THE TIED CARD OF 'kinkeeplaw21.CalendarLengths'. -/
def calendarLengthsCard : Claim7 := { stood := { row := calendarLengthsRow, standIns := [], harness := (true, "5044cad848b89f8dc89b6ec5e090b257a201bec4966330e6e0f0baf22dbe2d1a"), looks := false }, kinds := [], alts := [], laidByText := true, laidKinds := [.data, .data, .data, .data, .pinned], laidTests := true, laidLooks := .later }
def CalendarLengthsCardSaid : Prop := Claim7.holds Tryd.pinned (.plain (OpenSpec.ofChange calendarLengthsSpec)) calendarLengthsCard

/-- THE TIED CARD OF 'kinkeeplaw21.CalendarDate'. -/
def calendarDateCard : Claim7 := { stood := { row := calendarDateRow, standIns := [], harness := (true, "5044cad848b89f8dc89b6ec5e090b257a201bec4966330e6e0f0baf22dbe2d1a"), looks := false }, kinds := [], alts := [], laidByText := true, laidKinds := [.data, .data, .data, .data, .pinned], laidTests := true, laidLooks := .later }
def CalendarDateCardSaid : Prop := Claim7.holds Tryd.pinned (.plain (OpenSpec.ofChange calendarDateSpec)) calendarDateCard

/-- THE TIED CARD OF 'kinkeeplaw21.CalendarDay'. -/
def calendarDayCard : Claim7 := { stood := { row := calendarDayRow, standIns := [], harness := (true, "5044cad848b89f8dc89b6ec5e090b257a201bec4966330e6e0f0baf22dbe2d1a"), looks := false }, kinds := [], alts := [], laidByText := true, laidKinds := [.data, .data, .data, .data, .pinned], laidTests := true, laidLooks := .later }
def CalendarDayCardSaid : Prop := Claim7.holds Tryd.pinned (.plain (OpenSpec.ofChange calendarDaySpec)) calendarDayCard

/-- THE TIED CARD OF 'kinkeeplaw21.CalendarInverts'. -/
def calendarInvertsCard : Claim7 := { stood := { row := calendarInvertsRow, standIns := [], harness := (true, "5044cad848b89f8dc89b6ec5e090b257a201bec4966330e6e0f0baf22dbe2d1a"), looks := false }, kinds := [], alts := [], laidByText := true, laidKinds := [.data, .data, .data, .data, .pinned], laidTests := true, laidLooks := .later }
def CalendarInvertsCardSaid : Prop := Claim7.holds Tryd.pinned (.plain (OpenSpec.ofChange calendarInvertsSpec)) calendarInvertsCard

/-- THE TIED CARD OF 'kinkeeplaw21.CalendarNext'. -/
def calendarNextCard : Claim7 := { stood := { row := calendarNextRow, standIns := [], harness := (true, "5044cad848b89f8dc89b6ec5e090b257a201bec4966330e6e0f0baf22dbe2d1a"), looks := false }, kinds := [], alts := [], laidByText := true, laidKinds := [.data, .data, .data, .data, .pinned], laidTests := true, laidLooks := .later }
def CalendarNextCardSaid : Prop := Claim7.holds Tryd.pinned (.plain (OpenSpec.ofChange calendarNextSpec)) calendarNextCard

/-- THE TIED CARD OF 'kinkeeplaw21.CalendarMonths'. -/
def calendarMonthsCard : Claim7 := { stood := { row := calendarMonthsRow, standIns := [], harness := (true, "5044cad848b89f8dc89b6ec5e090b257a201bec4966330e6e0f0baf22dbe2d1a"), looks := false }, kinds := [], alts := [], laidByText := true, laidKinds := [.data, .data, .data, .data, .pinned], laidTests := true, laidLooks := .later }
def CalendarMonthsCardSaid : Prop := Claim7.holds Tryd.pinned (.plain (OpenSpec.ofChange calendarMonthsSpec)) calendarMonthsCard

/-- THE TIED CARD OF 'kinkeeplaw21.CalendarMoves'. -/
def calendarMovesCard : Claim7 := { stood := { row := calendarMovesRow, standIns := [], harness := (true, "5044cad848b89f8dc89b6ec5e090b257a201bec4966330e6e0f0baf22dbe2d1a"), looks := false }, kinds := [], alts := [], laidByText := true, laidKinds := [.data, .data, .data, .data, .pinned], laidTests := true, laidLooks := .later }
def CalendarMovesCardSaid : Prop := Claim7.holds Tryd.pinned (.plain (OpenSpec.ofChange calendarMovesSpec)) calendarMovesCard

/-- THE TIED CARD OF 'kinkeeplaw21.CalendarText'. -/
def calendarTextCard : Claim7 := { stood := { row := calendarTextRow, standIns := [], harness := (true, "5044cad848b89f8dc89b6ec5e090b257a201bec4966330e6e0f0baf22dbe2d1a"), looks := false }, kinds := [], alts := [], laidByText := true, laidKinds := [.data, .data, .data, .data, .pinned], laidTests := true, laidLooks := .later }
def CalendarTextCardSaid : Prop := Claim7.holds Tryd.pinned (.plain (OpenSpec.ofChange calendarTextSpec)) calendarTextCard

/-- THE TIED CARD OF 'kinkeeplaw21.CalendarNumbers'. -/
def calendarNumbersCard : Claim7 := { stood := { row := calendarNumbersRow, standIns := [], harness := (true, "5044cad848b89f8dc89b6ec5e090b257a201bec4966330e6e0f0baf22dbe2d1a"), looks := false }, kinds := [], alts := [], laidByText := true, laidKinds := [.data, .data, .data, .data, .pinned], laidTests := true, laidLooks := .later }
def CalendarNumbersCardSaid : Prop := Claim7.holds Tryd.pinned (.plain (OpenSpec.ofChange calendarNumbersSpec)) calendarNumbersCard

/-- THE SECOND FORM's CARD OF 'kinkeeplaw21.CalendarLengths'. -/
def calendarLengthsUptoCard : Claim7 := { stood := { row := calendarLengthsUptoRow, standIns := [], harness := (true, "5044cad848b89f8dc89b6ec5e090b257a201bec4966330e6e0f0baf22dbe2d1a"), looks := false }, kinds := [], alts := [], laidByText := true, laidKinds := [.data, .data, .data, .data, .pinned], laidTests := true, laidLooks := .later }
def CalendarLengthsUptoCardSaid : Prop := Claim7.holds Tryd.pinned (.plain (OpenSpec.upto calendarLengthsSpec)) calendarLengthsUptoCard

/-- THE SECOND FORM's CARD OF 'kinkeeplaw21.CalendarDate'. -/
def calendarDateUptoCard : Claim7 := { stood := { row := calendarDateUptoRow, standIns := [], harness := (true, "5044cad848b89f8dc89b6ec5e090b257a201bec4966330e6e0f0baf22dbe2d1a"), looks := false }, kinds := [], alts := [], laidByText := true, laidKinds := [.data, .data, .data, .data, .pinned], laidTests := true, laidLooks := .later }
def CalendarDateUptoCardSaid : Prop := Claim7.holds Tryd.pinned (.plain (OpenSpec.upto calendarDateSpec)) calendarDateUptoCard

/-- THE SECOND FORM's CARD OF 'kinkeeplaw21.CalendarDay'. -/
def calendarDayUptoCard : Claim7 := { stood := { row := calendarDayUptoRow, standIns := [], harness := (true, "5044cad848b89f8dc89b6ec5e090b257a201bec4966330e6e0f0baf22dbe2d1a"), looks := false }, kinds := [], alts := [], laidByText := true, laidKinds := [.data, .data, .data, .data, .pinned], laidTests := true, laidLooks := .later }
def CalendarDayUptoCardSaid : Prop := Claim7.holds Tryd.pinned (.plain (OpenSpec.upto calendarDaySpec)) calendarDayUptoCard

/-- THE SECOND FORM's CARD OF 'kinkeeplaw21.CalendarInverts'. -/
def calendarInvertsUptoCard : Claim7 := { stood := { row := calendarInvertsUptoRow, standIns := [], harness := (true, "5044cad848b89f8dc89b6ec5e090b257a201bec4966330e6e0f0baf22dbe2d1a"), looks := false }, kinds := [], alts := [], laidByText := true, laidKinds := [.data, .data, .data, .data, .pinned], laidTests := true, laidLooks := .later }
def CalendarInvertsUptoCardSaid : Prop := Claim7.holds Tryd.pinned (.plain (OpenSpec.upto calendarInvertsSpec)) calendarInvertsUptoCard

/-- THE SECOND FORM's CARD OF 'kinkeeplaw21.CalendarNext'. -/
def calendarNextUptoCard : Claim7 := { stood := { row := calendarNextUptoRow, standIns := [], harness := (true, "5044cad848b89f8dc89b6ec5e090b257a201bec4966330e6e0f0baf22dbe2d1a"), looks := false }, kinds := [], alts := [], laidByText := true, laidKinds := [.data, .data, .data, .data, .pinned], laidTests := true, laidLooks := .later }
def CalendarNextUptoCardSaid : Prop := Claim7.holds Tryd.pinned (.plain (OpenSpec.upto calendarNextSpec)) calendarNextUptoCard

/-- THE SECOND FORM's CARD OF 'kinkeeplaw21.CalendarMonths'. -/
def calendarMonthsUptoCard : Claim7 := { stood := { row := calendarMonthsUptoRow, standIns := [], harness := (true, "5044cad848b89f8dc89b6ec5e090b257a201bec4966330e6e0f0baf22dbe2d1a"), looks := false }, kinds := [], alts := [], laidByText := true, laidKinds := [.data, .data, .data, .data, .pinned], laidTests := true, laidLooks := .later }
def CalendarMonthsUptoCardSaid : Prop := Claim7.holds Tryd.pinned (.plain (OpenSpec.upto calendarMonthsSpec)) calendarMonthsUptoCard

/-- THE SECOND FORM's CARD OF 'kinkeeplaw21.CalendarMoves'. -/
def calendarMovesUptoCard : Claim7 := { stood := { row := calendarMovesUptoRow, standIns := [], harness := (true, "5044cad848b89f8dc89b6ec5e090b257a201bec4966330e6e0f0baf22dbe2d1a"), looks := false }, kinds := [], alts := [], laidByText := true, laidKinds := [.data, .data, .data, .data, .pinned], laidTests := true, laidLooks := .later }
def CalendarMovesUptoCardSaid : Prop := Claim7.holds Tryd.pinned (.plain (OpenSpec.upto calendarMovesSpec)) calendarMovesUptoCard

/-- THE SECOND FORM's CARD OF 'kinkeeplaw21.CalendarText'. -/
def calendarTextUptoCard : Claim7 := { stood := { row := calendarTextUptoRow, standIns := [], harness := (true, "5044cad848b89f8dc89b6ec5e090b257a201bec4966330e6e0f0baf22dbe2d1a"), looks := false }, kinds := [], alts := [], laidByText := true, laidKinds := [.data, .data, .data, .data, .pinned], laidTests := true, laidLooks := .later }
def CalendarTextUptoCardSaid : Prop := Claim7.holds Tryd.pinned (.plain (OpenSpec.upto calendarTextSpec)) calendarTextUptoCard

/-- THE SECOND FORM's CARD OF 'kinkeeplaw21.CalendarNumbers'. -/
def calendarNumbersUptoCard : Claim7 := { stood := { row := calendarNumbersUptoRow, standIns := [], harness := (true, "5044cad848b89f8dc89b6ec5e090b257a201bec4966330e6e0f0baf22dbe2d1a"), looks := false }, kinds := [], alts := [], laidByText := true, laidKinds := [.data, .data, .data, .data, .pinned], laidTests := true, laidLooks := .later }
def CalendarNumbersUptoCardSaid : Prop := Claim7.holds Tryd.pinned (.plain (OpenSpec.upto calendarNumbersSpec)) calendarNumbersUptoCard
end Rows
end Go.Proofs.YtdfmjgbnbfncmaaDoor
