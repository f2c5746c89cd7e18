/-
  DERIVED. GIVEN WITH THE SEED: THE CARDS: each row of YtnjiechfjnjjcaaDoorRows.lean that lists a variable, with what it lists TIED to the program's text (the seventh form; the later family's looks); each row that meets fmt, with fmt's text TOLD by the authors' own Lean function (tested against real Go, not proved from fmt's source: count such statements apart). THE CARD IS WHAT COUNTS. Prove the row's statement (the work); the ties are given (YtnjiechfjnjjcaaDoorTie.lean); close each card by the builder's one call (the guide's Derived/Test/ToyasCard.lean, 'card_holds'). Laid BY PROGRAM, IN A SANDBOX (cutbox-door.mjs). By AI agents, Wed Nov 11 2026. No macro, syntax, notation, axiom, sorry.
-/
import Derived.Test.YtnjiechfjnjjcaaDoorRows
import GoSem.ClaimSeven
namespace Go.Proofs.YtnjiechfjnjjcaaDoor
namespace Rows

/-- THE TIED CARD OF 'laws.FnExactValidBond'. -/
def fnExactValidBondCard : Claim7 := { stood := { row := fnExactValidBondRow, standIns := [], harness := (true, "76d7dd6d23e6f7b6853972508d8f29a2b022382ecd9f11c3fcf21fba48996921"), looks := false }, kinds := [], alts := [], laidByText := true, laidKinds := [.data], laidTests := true, laidLooks := .later }
def FnExactValidBondCardSaid : Prop := Claim7.holds Tryd.pinned (.plain (OpenSpec.ofChange fnExactValidBondSpec)) fnExactValidBondCard

/-- THE TIED CARD OF 'laws.FnExactScheduleOf'. -/
def fnExactScheduleOfCard : Claim7 := { stood := { row := fnExactScheduleOfRow, standIns := [], harness := (true, "76d7dd6d23e6f7b6853972508d8f29a2b022382ecd9f11c3fcf21fba48996921"), looks := false }, kinds := [], alts := [], laidByText := true, laidKinds := [.data], laidTests := true, laidLooks := .later }
def FnExactScheduleOfCardSaid : Prop := Claim7.holds Tryd.pinned (.plain (OpenSpec.ofChange fnExactScheduleOfSpec)) fnExactScheduleOfCard

/-- THE TIED CARD OF 'laws.FnScheduleOf'. -/
def fnScheduleOfCard : Claim7 := { stood := { row := fnScheduleOfRow, standIns := [], harness := (true, "76d7dd6d23e6f7b6853972508d8f29a2b022382ecd9f11c3fcf21fba48996921"), looks := false }, kinds := [], alts := [], laidByText := true, laidKinds := [.data], laidTests := true, laidLooks := .later }
def FnScheduleOfCardSaid : Prop := Claim7.holds Tryd.pinned (.plain (OpenSpec.ofChange fnScheduleOfSpec)) fnScheduleOfCard

/-- THE TIED CARD OF 'laws.FnScheduleOfEnd'. -/
def fnScheduleOfEndCard : Claim7 := { stood := { row := fnScheduleOfEndRow, standIns := [], harness := (true, "76d7dd6d23e6f7b6853972508d8f29a2b022382ecd9f11c3fcf21fba48996921"), looks := false }, kinds := [], alts := [], laidByText := true, laidKinds := [.data], laidTests := true, laidLooks := .later }
def FnScheduleOfEndCardSaid : Prop := Claim7.holds Tryd.pinned (.plain (OpenSpec.ofChange fnScheduleOfEndSpec)) fnScheduleOfEndCard

/-- THE TIED CARD OF 'laws.FnScheduleOfFiner'. -/
def fnScheduleOfFinerCard : Claim7 := { stood := { row := fnScheduleOfFinerRow, standIns := [], harness := (true, "76d7dd6d23e6f7b6853972508d8f29a2b022382ecd9f11c3fcf21fba48996921"), looks := false }, kinds := [], alts := [], laidByText := true, laidKinds := [.data], laidTests := true, laidLooks := .later }
def FnScheduleOfFinerCardSaid : Prop := Claim7.holds Tryd.pinned (.plain (OpenSpec.ofChange fnScheduleOfFinerSpec)) fnScheduleOfFinerCard

/-- THE TIED CARD OF 'laws.FnScheduleOfWhole'. -/
def fnScheduleOfWholeCard : Claim7 := { stood := { row := fnScheduleOfWholeRow, standIns := [], harness := (true, "76d7dd6d23e6f7b6853972508d8f29a2b022382ecd9f11c3fcf21fba48996921"), looks := false }, kinds := [], alts := [], laidByText := true, laidKinds := [.data], laidTests := true, laidLooks := .later }
def FnScheduleOfWholeCardSaid : Prop := Claim7.holds Tryd.pinned (.plain (OpenSpec.ofChange fnScheduleOfWholeSpec)) fnScheduleOfWholeCard

/-- THE SECOND FORM's CARD OF 'laws.FnExactValidBond'. -/
def fnExactValidBondUptoCard : Claim7 := { stood := { row := fnExactValidBondUptoRow, standIns := [], harness := (true, "76d7dd6d23e6f7b6853972508d8f29a2b022382ecd9f11c3fcf21fba48996921"), looks := false }, kinds := [], alts := [], laidByText := true, laidKinds := [.data], laidTests := true, laidLooks := .later }
def FnExactValidBondUptoCardSaid : Prop := Claim7.holds Tryd.pinned (.plain (OpenSpec.upto fnExactValidBondSpec)) fnExactValidBondUptoCard

/-- THE SECOND FORM's CARD OF 'laws.FnExactScheduleOf'. -/
def fnExactScheduleOfUptoCard : Claim7 := { stood := { row := fnExactScheduleOfUptoRow, standIns := [], harness := (true, "76d7dd6d23e6f7b6853972508d8f29a2b022382ecd9f11c3fcf21fba48996921"), looks := false }, kinds := [], alts := [], laidByText := true, laidKinds := [.data], laidTests := true, laidLooks := .later }
def FnExactScheduleOfUptoCardSaid : Prop := Claim7.holds Tryd.pinned (.plain (OpenSpec.upto fnExactScheduleOfSpec)) fnExactScheduleOfUptoCard

/-- THE SECOND FORM's CARD OF 'laws.FnScheduleOf'. -/
def fnScheduleOfUptoCard : Claim7 := { stood := { row := fnScheduleOfUptoRow, standIns := [], harness := (true, "76d7dd6d23e6f7b6853972508d8f29a2b022382ecd9f11c3fcf21fba48996921"), looks := false }, kinds := [], alts := [], laidByText := true, laidKinds := [.data], laidTests := true, laidLooks := .later }
def FnScheduleOfUptoCardSaid : Prop := Claim7.holds Tryd.pinned (.plain (OpenSpec.upto fnScheduleOfSpec)) fnScheduleOfUptoCard

/-- THE SECOND FORM's CARD OF 'laws.FnScheduleOfEnd'. -/
def fnScheduleOfEndUptoCard : Claim7 := { stood := { row := fnScheduleOfEndUptoRow, standIns := [], harness := (true, "76d7dd6d23e6f7b6853972508d8f29a2b022382ecd9f11c3fcf21fba48996921"), looks := false }, kinds := [], alts := [], laidByText := true, laidKinds := [.data], laidTests := true, laidLooks := .later }
def FnScheduleOfEndUptoCardSaid : Prop := Claim7.holds Tryd.pinned (.plain (OpenSpec.upto fnScheduleOfEndSpec)) fnScheduleOfEndUptoCard

/-- THE SECOND FORM's CARD OF 'laws.FnScheduleOfFiner'. -/
def fnScheduleOfFinerUptoCard : Claim7 := { stood := { row := fnScheduleOfFinerUptoRow, standIns := [], harness := (true, "76d7dd6d23e6f7b6853972508d8f29a2b022382ecd9f11c3fcf21fba48996921"), looks := false }, kinds := [], alts := [], laidByText := true, laidKinds := [.data], laidTests := true, laidLooks := .later }
def FnScheduleOfFinerUptoCardSaid : Prop := Claim7.holds Tryd.pinned (.plain (OpenSpec.upto fnScheduleOfFinerSpec)) fnScheduleOfFinerUptoCard

/-- THE SECOND FORM's CARD OF 'laws.FnScheduleOfWhole'. -/
def fnScheduleOfWholeUptoCard : Claim7 := { stood := { row := fnScheduleOfWholeUptoRow, standIns := [], harness := (true, "76d7dd6d23e6f7b6853972508d8f29a2b022382ecd9f11c3fcf21fba48996921"), looks := false }, kinds := [], alts := [], laidByText := true, laidKinds := [.data], laidTests := true, laidLooks := .later }
def FnScheduleOfWholeUptoCardSaid : Prop := Claim7.holds Tryd.pinned (.plain (OpenSpec.upto fnScheduleOfWholeSpec)) fnScheduleOfWholeUptoCard
end Rows
end Go.Proofs.YtnjiechfjnjjcaaDoor
