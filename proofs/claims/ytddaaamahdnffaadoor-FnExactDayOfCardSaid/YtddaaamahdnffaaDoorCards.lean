/-
  DERIVED. GIVEN WITH THE SEED: THE CARDS: each row of YtddaaamahdnffaaDoorRows.lean that lists a variable, with what it lists TIED to the program's text (the seventh form; the later family's looks); each row that meets fmt, with fmt's text TOLD by the authors' own Lean function (tested against real Go, not proved from fmt's source: count such statements apart). THE CARD IS WHAT COUNTS. Prove the row's statement (the work); the ties are given (YtddaaamahdnffaaDoorTie.lean); close each card by the builder's one call (the guide's Derived/Test/ToyasCard.lean, 'card_holds'). Laid BY PROGRAM, IN A SANDBOX (cutbox-door.mjs). By AI agents, Wed Nov 11 2026. No macro, syntax, notation, axiom, sorry.
-/
import Derived.Test.YtddaaamahdnffaaDoorRows
import GoSem.ClaimSeven
namespace Go.Proofs.YtddaaamahdnffaaDoor
namespace Rows

/-- THE TIED CARD OF 'laws.FnExactDayOf'. -/
def fnExactDayOfCard : Claim7 := { stood := { row := fnExactDayOfRow, standIns := [], harness := (true, "dd6d9544211ad9a10f666e5b38d74402dfe8860206e2294f6099ac8c0292a314"), looks := false }, kinds := [], alts := [], laidByText := true, laidKinds := [.data], laidTests := true, laidLooks := .later }
def FnExactDayOfCardSaid : Prop := Claim7.holds Tryd.pinned (.plain (OpenSpec.ofChange fnExactDayOfSpec)) fnExactDayOfCard

/-- THE TIED CARD OF 'laws.FnExactAddMonths'. -/
def fnExactAddMonthsCard : Claim7 := { stood := { row := fnExactAddMonthsRow, standIns := [], harness := (true, "dd6d9544211ad9a10f666e5b38d74402dfe8860206e2294f6099ac8c0292a314"), looks := false }, kinds := [], alts := [], laidByText := true, laidKinds := [.data], laidTests := true, laidLooks := .later }
def FnExactAddMonthsCardSaid : Prop := Claim7.holds Tryd.pinned (.plain (OpenSpec.ofChange fnExactAddMonthsSpec)) fnExactAddMonthsCard

/-- THE TIED CARD OF 'laws.FnValidDate'. -/
def fnValidDateCard : Claim7 := { stood := { row := fnValidDateRow, standIns := [], harness := (true, "dd6d9544211ad9a10f666e5b38d74402dfe8860206e2294f6099ac8c0292a314"), looks := false }, kinds := [], alts := [], laidByText := true, laidKinds := [.data], laidTests := true, laidLooks := .later }
def FnValidDateCardSaid : Prop := Claim7.holds Tryd.pinned (.plain (OpenSpec.ofChange fnValidDateSpec)) fnValidDateCard

/-- THE TIED CARD OF 'laws.FnDateOf'. -/
def fnDateOfCard : Claim7 := { stood := { row := fnDateOfRow, standIns := [], harness := (true, "dd6d9544211ad9a10f666e5b38d74402dfe8860206e2294f6099ac8c0292a314"), looks := false }, kinds := [], alts := [], laidByText := true, laidKinds := [.data], laidTests := true, laidLooks := .later }
def FnDateOfCardSaid : Prop := Claim7.holds Tryd.pinned (.plain (OpenSpec.ofChange fnDateOfSpec)) fnDateOfCard

/-- THE TIED CARD OF 'laws.FnDayOf'. -/
def fnDayOfCard : Claim7 := { stood := { row := fnDayOfRow, standIns := [], harness := (true, "dd6d9544211ad9a10f666e5b38d74402dfe8860206e2294f6099ac8c0292a314"), looks := false }, kinds := [], alts := [], laidByText := true, laidKinds := [.data], laidTests := true, laidLooks := .later }
def FnDayOfCardSaid : Prop := Claim7.holds Tryd.pinned (.plain (OpenSpec.ofChange fnDayOfSpec)) fnDayOfCard

/-- THE TIED CARD OF 'laws.FnAddMonthsBack'. -/
def fnAddMonthsBackCard : Claim7 := { stood := { row := fnAddMonthsBackRow, standIns := [], harness := (true, "dd6d9544211ad9a10f666e5b38d74402dfe8860206e2294f6099ac8c0292a314"), looks := false }, kinds := [], alts := [], laidByText := true, laidKinds := [.data], laidTests := true, laidLooks := .later }
def FnAddMonthsBackCardSaid : Prop := Claim7.holds Tryd.pinned (.plain (OpenSpec.ofChange fnAddMonthsBackSpec)) fnAddMonthsBackCard

/-- THE TIED CARD OF 'laws.FnAddMonthsOrder'. -/
def fnAddMonthsOrderCard : Claim7 := { stood := { row := fnAddMonthsOrderRow, standIns := [], harness := (true, "dd6d9544211ad9a10f666e5b38d74402dfe8860206e2294f6099ac8c0292a314"), looks := false }, kinds := [], alts := [], laidByText := true, laidKinds := [.data], laidTests := true, laidLooks := .later }
def FnAddMonthsOrderCardSaid : Prop := Claim7.holds Tryd.pinned (.plain (OpenSpec.ofChange fnAddMonthsOrderSpec)) fnAddMonthsOrderCard

/-- THE TIED CARD OF 'laws.FnAddMonths'. -/
def fnAddMonthsCard : Claim7 := { stood := { row := fnAddMonthsRow, standIns := [], harness := (true, "dd6d9544211ad9a10f666e5b38d74402dfe8860206e2294f6099ac8c0292a314"), looks := false }, kinds := [], alts := [], laidByText := true, laidKinds := [.data], laidTests := true, laidLooks := .later }
def FnAddMonthsCardSaid : Prop := Claim7.holds Tryd.pinned (.plain (OpenSpec.ofChange fnAddMonthsSpec)) fnAddMonthsCard

/-- THE TIED CARD OF 'laws.FnAddMonthsYear'. -/
def fnAddMonthsYearCard : Claim7 := { stood := { row := fnAddMonthsYearRow, standIns := [], harness := (true, "dd6d9544211ad9a10f666e5b38d74402dfe8860206e2294f6099ac8c0292a314"), looks := false }, kinds := [], alts := [], laidByText := true, laidKinds := [.data], laidTests := true, laidLooks := .later }
def FnAddMonthsYearCardSaid : Prop := Claim7.holds Tryd.pinned (.plain (OpenSpec.ofChange fnAddMonthsYearSpec)) fnAddMonthsYearCard

/-- THE SECOND FORM's CARD OF 'laws.FnExactDayOf'. -/
def fnExactDayOfUptoCard : Claim7 := { stood := { row := fnExactDayOfUptoRow, standIns := [], harness := (true, "dd6d9544211ad9a10f666e5b38d74402dfe8860206e2294f6099ac8c0292a314"), looks := false }, kinds := [], alts := [], laidByText := true, laidKinds := [.data], laidTests := true, laidLooks := .later }
def FnExactDayOfUptoCardSaid : Prop := Claim7.holds Tryd.pinned (.plain (OpenSpec.upto fnExactDayOfSpec)) fnExactDayOfUptoCard

/-- THE SECOND FORM's CARD OF 'laws.FnExactAddMonths'. -/
def fnExactAddMonthsUptoCard : Claim7 := { stood := { row := fnExactAddMonthsUptoRow, standIns := [], harness := (true, "dd6d9544211ad9a10f666e5b38d74402dfe8860206e2294f6099ac8c0292a314"), looks := false }, kinds := [], alts := [], laidByText := true, laidKinds := [.data], laidTests := true, laidLooks := .later }
def FnExactAddMonthsUptoCardSaid : Prop := Claim7.holds Tryd.pinned (.plain (OpenSpec.upto fnExactAddMonthsSpec)) fnExactAddMonthsUptoCard

/-- THE SECOND FORM's CARD OF 'laws.FnValidDate'. -/
def fnValidDateUptoCard : Claim7 := { stood := { row := fnValidDateUptoRow, standIns := [], harness := (true, "dd6d9544211ad9a10f666e5b38d74402dfe8860206e2294f6099ac8c0292a314"), looks := false }, kinds := [], alts := [], laidByText := true, laidKinds := [.data], laidTests := true, laidLooks := .later }
def FnValidDateUptoCardSaid : Prop := Claim7.holds Tryd.pinned (.plain (OpenSpec.upto fnValidDateSpec)) fnValidDateUptoCard

/-- THE SECOND FORM's CARD OF 'laws.FnDateOf'. -/
def fnDateOfUptoCard : Claim7 := { stood := { row := fnDateOfUptoRow, standIns := [], harness := (true, "dd6d9544211ad9a10f666e5b38d74402dfe8860206e2294f6099ac8c0292a314"), looks := false }, kinds := [], alts := [], laidByText := true, laidKinds := [.data], laidTests := true, laidLooks := .later }
def FnDateOfUptoCardSaid : Prop := Claim7.holds Tryd.pinned (.plain (OpenSpec.upto fnDateOfSpec)) fnDateOfUptoCard

/-- THE SECOND FORM's CARD OF 'laws.FnDayOf'. -/
def fnDayOfUptoCard : Claim7 := { stood := { row := fnDayOfUptoRow, standIns := [], harness := (true, "dd6d9544211ad9a10f666e5b38d74402dfe8860206e2294f6099ac8c0292a314"), looks := false }, kinds := [], alts := [], laidByText := true, laidKinds := [.data], laidTests := true, laidLooks := .later }
def FnDayOfUptoCardSaid : Prop := Claim7.holds Tryd.pinned (.plain (OpenSpec.upto fnDayOfSpec)) fnDayOfUptoCard

/-- THE SECOND FORM's CARD OF 'laws.FnAddMonthsBack'. -/
def fnAddMonthsBackUptoCard : Claim7 := { stood := { row := fnAddMonthsBackUptoRow, standIns := [], harness := (true, "dd6d9544211ad9a10f666e5b38d74402dfe8860206e2294f6099ac8c0292a314"), looks := false }, kinds := [], alts := [], laidByText := true, laidKinds := [.data], laidTests := true, laidLooks := .later }
def FnAddMonthsBackUptoCardSaid : Prop := Claim7.holds Tryd.pinned (.plain (OpenSpec.upto fnAddMonthsBackSpec)) fnAddMonthsBackUptoCard

/-- THE SECOND FORM's CARD OF 'laws.FnAddMonthsOrder'. -/
def fnAddMonthsOrderUptoCard : Claim7 := { stood := { row := fnAddMonthsOrderUptoRow, standIns := [], harness := (true, "dd6d9544211ad9a10f666e5b38d74402dfe8860206e2294f6099ac8c0292a314"), looks := false }, kinds := [], alts := [], laidByText := true, laidKinds := [.data], laidTests := true, laidLooks := .later }
def FnAddMonthsOrderUptoCardSaid : Prop := Claim7.holds Tryd.pinned (.plain (OpenSpec.upto fnAddMonthsOrderSpec)) fnAddMonthsOrderUptoCard

/-- THE SECOND FORM's CARD OF 'laws.FnAddMonths'. -/
def fnAddMonthsUptoCard : Claim7 := { stood := { row := fnAddMonthsUptoRow, standIns := [], harness := (true, "dd6d9544211ad9a10f666e5b38d74402dfe8860206e2294f6099ac8c0292a314"), looks := false }, kinds := [], alts := [], laidByText := true, laidKinds := [.data], laidTests := true, laidLooks := .later }
def FnAddMonthsUptoCardSaid : Prop := Claim7.holds Tryd.pinned (.plain (OpenSpec.upto fnAddMonthsSpec)) fnAddMonthsUptoCard

/-- THE SECOND FORM's CARD OF 'laws.FnAddMonthsYear'. -/
def fnAddMonthsYearUptoCard : Claim7 := { stood := { row := fnAddMonthsYearUptoRow, standIns := [], harness := (true, "dd6d9544211ad9a10f666e5b38d74402dfe8860206e2294f6099ac8c0292a314"), looks := false }, kinds := [], alts := [], laidByText := true, laidKinds := [.data], laidTests := true, laidLooks := .later }
def FnAddMonthsYearUptoCardSaid : Prop := Claim7.holds Tryd.pinned (.plain (OpenSpec.upto fnAddMonthsYearSpec)) fnAddMonthsYearUptoCard
end Rows
end Go.Proofs.YtddaaamahdnffaaDoor
