/-
  DERIVED. GIVEN WITH THE SEED: THE CARDS: each row of YtoidghdgebdfaaaDoorRows.lean that lists a variable, with what it lists TIED to the program's text (the seventh form; the later family's looks); each row that meets fmt, with fmt's text TOLD by the authors' own Lean function (tested against real Go, not proved from fmt's source: count such statements apart). THE CARD IS WHAT COUNTS. Prove the row's statement (the work); the ties are given (YtoidghdgebdfaaaDoorTie.lean); close each card by the builder's one call (the guide's Derived/Test/ToyasCard.lean, 'card_holds'). Laid BY PROGRAM, IN A SANDBOX (cutbox-door.mjs). By AI agents, Wed Nov 11 2026. No macro, syntax, notation, axiom, sorry.
-/
import Derived.Test.YtoidghdgebdfaaaDoorRows
import GoSem.ClaimSeven
namespace Go.Proofs.YtoidghdgebdfaaaDoor
namespace Rows

/-- THE TIED CARD OF 'laws.FnExactTotalOf'. -/
def fnExactTotalOfCard : Claim7 := { stood := { row := fnExactTotalOfRow, standIns := [], harness := (true, "39401908144d2ad43ab2848d96672daab856cee24a29ac1c0448e39a12c68c69"), looks := false }, kinds := [], alts := [], laidByText := true, laidKinds := [.data], laidTests := true, laidLooks := .later }
def FnExactTotalOfCardSaid : Prop := Claim7.holds Tryd.pinned (.plain (OpenSpec.ofChange fnExactTotalOfSpec)) fnExactTotalOfCard

/-- THE TIED CARD OF 'laws.FnValidBond'. -/
def fnValidBondCard : Claim7 := { stood := { row := fnValidBondRow, standIns := [], harness := (true, "39401908144d2ad43ab2848d96672daab856cee24a29ac1c0448e39a12c68c69"), looks := false }, kinds := [], alts := [], laidByText := true, laidKinds := [.data], laidTests := true, laidLooks := .later }
def FnValidBondCardSaid : Prop := Claim7.holds Tryd.pinned (.plain (OpenSpec.ofChange fnValidBondSpec)) fnValidBondCard

/-- THE TIED CARD OF 'laws.FnExactNextFlow'. -/
def fnExactNextFlowCard : Claim7 := { stood := { row := fnExactNextFlowRow, standIns := [], harness := (true, "39401908144d2ad43ab2848d96672daab856cee24a29ac1c0448e39a12c68c69"), looks := false }, kinds := [], alts := [], laidByText := true, laidKinds := [.data], laidTests := true, laidLooks := .later }
def FnExactNextFlowCardSaid : Prop := Claim7.holds Tryd.pinned (.plain (OpenSpec.ofChange fnExactNextFlowSpec)) fnExactNextFlowCard

/-- THE TIED CARD OF 'laws.FnExactFlowsOf'. -/
def fnExactFlowsOfCard : Claim7 := { stood := { row := fnExactFlowsOfRow, standIns := [], harness := (true, "39401908144d2ad43ab2848d96672daab856cee24a29ac1c0448e39a12c68c69"), looks := false }, kinds := [], alts := [], laidByText := true, laidKinds := [.data], laidTests := true, laidLooks := .later }
def FnExactFlowsOfCardSaid : Prop := Claim7.holds Tryd.pinned (.plain (OpenSpec.ofChange fnExactFlowsOfSpec)) fnExactFlowsOfCard

/-- THE TIED CARD OF 'laws.FnFlowsOf'. -/
def fnFlowsOfCard : Claim7 := { stood := { row := fnFlowsOfRow, standIns := [], harness := (true, "39401908144d2ad43ab2848d96672daab856cee24a29ac1c0448e39a12c68c69"), looks := false }, kinds := [], alts := [], laidByText := true, laidKinds := [.data], laidTests := true, laidLooks := .later }
def FnFlowsOfCardSaid : Prop := Claim7.holds Tryd.pinned (.plain (OpenSpec.ofChange fnFlowsOfSpec)) fnFlowsOfCard

/-- THE TIED CARD OF 'laws.FnFlowsOfEqual'. -/
def fnFlowsOfEqualCard : Claim7 := { stood := { row := fnFlowsOfEqualRow, standIns := [], harness := (true, "39401908144d2ad43ab2848d96672daab856cee24a29ac1c0448e39a12c68c69"), looks := false }, kinds := [], alts := [], laidByText := true, laidKinds := [.data], laidTests := true, laidLooks := .later }
def FnFlowsOfEqualCardSaid : Prop := Claim7.holds Tryd.pinned (.plain (OpenSpec.ofChange fnFlowsOfEqualSpec)) fnFlowsOfEqualCard

/-- THE TIED CARD OF 'laws.FnTotalOf'. -/
def fnTotalOfCard : Claim7 := { stood := { row := fnTotalOfRow, standIns := [], harness := (true, "39401908144d2ad43ab2848d96672daab856cee24a29ac1c0448e39a12c68c69"), looks := false }, kinds := [], alts := [], laidByText := true, laidKinds := [.data], laidTests := true, laidLooks := .later }
def FnTotalOfCardSaid : Prop := Claim7.holds Tryd.pinned (.plain (OpenSpec.ofChange fnTotalOfSpec)) fnTotalOfCard

/-- THE TIED CARD OF 'laws.FnExactFlowsAfter'. -/
def fnExactFlowsAfterCard : Claim7 := { stood := { row := fnExactFlowsAfterRow, standIns := [], harness := (true, "39401908144d2ad43ab2848d96672daab856cee24a29ac1c0448e39a12c68c69"), looks := false }, kinds := [], alts := [], laidByText := true, laidKinds := [.data], laidTests := true, laidLooks := .later }
def FnExactFlowsAfterCardSaid : Prop := Claim7.holds Tryd.pinned (.plain (OpenSpec.ofChange fnExactFlowsAfterSpec)) fnExactFlowsAfterCard

/-- THE TIED CARD OF 'laws.FnFlowsOfRate'. -/
def fnFlowsOfRateCard : Claim7 := { stood := { row := fnFlowsOfRateRow, standIns := [], harness := (true, "39401908144d2ad43ab2848d96672daab856cee24a29ac1c0448e39a12c68c69"), looks := false }, kinds := [], alts := [], laidByText := true, laidKinds := [.data], laidTests := true, laidLooks := .later }
def FnFlowsOfRateCardSaid : Prop := Claim7.holds Tryd.pinned (.plain (OpenSpec.ofChange fnFlowsOfRateSpec)) fnFlowsOfRateCard

/-- THE TIED CARD OF 'laws.FnExactLifeOf'. -/
def fnExactLifeOfCard : Claim7 := { stood := { row := fnExactLifeOfRow, standIns := [], harness := (true, "39401908144d2ad43ab2848d96672daab856cee24a29ac1c0448e39a12c68c69"), looks := false }, kinds := [], alts := [], laidByText := true, laidKinds := [.data], laidTests := true, laidLooks := .later }
def FnExactLifeOfCardSaid : Prop := Claim7.holds Tryd.pinned (.plain (OpenSpec.ofChange fnExactLifeOfSpec)) fnExactLifeOfCard

/-- THE SECOND FORM's CARD OF 'laws.FnExactTotalOf'. -/
def fnExactTotalOfUptoCard : Claim7 := { stood := { row := fnExactTotalOfUptoRow, standIns := [], harness := (true, "39401908144d2ad43ab2848d96672daab856cee24a29ac1c0448e39a12c68c69"), looks := false }, kinds := [], alts := [], laidByText := true, laidKinds := [.data], laidTests := true, laidLooks := .later }
def FnExactTotalOfUptoCardSaid : Prop := Claim7.holds Tryd.pinned (.plain (OpenSpec.upto fnExactTotalOfSpec)) fnExactTotalOfUptoCard

/-- THE SECOND FORM's CARD OF 'laws.FnValidBond'. -/
def fnValidBondUptoCard : Claim7 := { stood := { row := fnValidBondUptoRow, standIns := [], harness := (true, "39401908144d2ad43ab2848d96672daab856cee24a29ac1c0448e39a12c68c69"), looks := false }, kinds := [], alts := [], laidByText := true, laidKinds := [.data], laidTests := true, laidLooks := .later }
def FnValidBondUptoCardSaid : Prop := Claim7.holds Tryd.pinned (.plain (OpenSpec.upto fnValidBondSpec)) fnValidBondUptoCard

/-- THE SECOND FORM's CARD OF 'laws.FnExactNextFlow'. -/
def fnExactNextFlowUptoCard : Claim7 := { stood := { row := fnExactNextFlowUptoRow, standIns := [], harness := (true, "39401908144d2ad43ab2848d96672daab856cee24a29ac1c0448e39a12c68c69"), looks := false }, kinds := [], alts := [], laidByText := true, laidKinds := [.data], laidTests := true, laidLooks := .later }
def FnExactNextFlowUptoCardSaid : Prop := Claim7.holds Tryd.pinned (.plain (OpenSpec.upto fnExactNextFlowSpec)) fnExactNextFlowUptoCard

/-- THE SECOND FORM's CARD OF 'laws.FnExactFlowsOf'. -/
def fnExactFlowsOfUptoCard : Claim7 := { stood := { row := fnExactFlowsOfUptoRow, standIns := [], harness := (true, "39401908144d2ad43ab2848d96672daab856cee24a29ac1c0448e39a12c68c69"), looks := false }, kinds := [], alts := [], laidByText := true, laidKinds := [.data], laidTests := true, laidLooks := .later }
def FnExactFlowsOfUptoCardSaid : Prop := Claim7.holds Tryd.pinned (.plain (OpenSpec.upto fnExactFlowsOfSpec)) fnExactFlowsOfUptoCard

/-- THE SECOND FORM's CARD OF 'laws.FnFlowsOf'. -/
def fnFlowsOfUptoCard : Claim7 := { stood := { row := fnFlowsOfUptoRow, standIns := [], harness := (true, "39401908144d2ad43ab2848d96672daab856cee24a29ac1c0448e39a12c68c69"), looks := false }, kinds := [], alts := [], laidByText := true, laidKinds := [.data], laidTests := true, laidLooks := .later }
def FnFlowsOfUptoCardSaid : Prop := Claim7.holds Tryd.pinned (.plain (OpenSpec.upto fnFlowsOfSpec)) fnFlowsOfUptoCard

/-- THE SECOND FORM's CARD OF 'laws.FnFlowsOfEqual'. -/
def fnFlowsOfEqualUptoCard : Claim7 := { stood := { row := fnFlowsOfEqualUptoRow, standIns := [], harness := (true, "39401908144d2ad43ab2848d96672daab856cee24a29ac1c0448e39a12c68c69"), looks := false }, kinds := [], alts := [], laidByText := true, laidKinds := [.data], laidTests := true, laidLooks := .later }
def FnFlowsOfEqualUptoCardSaid : Prop := Claim7.holds Tryd.pinned (.plain (OpenSpec.upto fnFlowsOfEqualSpec)) fnFlowsOfEqualUptoCard

/-- THE SECOND FORM's CARD OF 'laws.FnTotalOf'. -/
def fnTotalOfUptoCard : Claim7 := { stood := { row := fnTotalOfUptoRow, standIns := [], harness := (true, "39401908144d2ad43ab2848d96672daab856cee24a29ac1c0448e39a12c68c69"), looks := false }, kinds := [], alts := [], laidByText := true, laidKinds := [.data], laidTests := true, laidLooks := .later }
def FnTotalOfUptoCardSaid : Prop := Claim7.holds Tryd.pinned (.plain (OpenSpec.upto fnTotalOfSpec)) fnTotalOfUptoCard

/-- THE SECOND FORM's CARD OF 'laws.FnExactFlowsAfter'. -/
def fnExactFlowsAfterUptoCard : Claim7 := { stood := { row := fnExactFlowsAfterUptoRow, standIns := [], harness := (true, "39401908144d2ad43ab2848d96672daab856cee24a29ac1c0448e39a12c68c69"), looks := false }, kinds := [], alts := [], laidByText := true, laidKinds := [.data], laidTests := true, laidLooks := .later }
def FnExactFlowsAfterUptoCardSaid : Prop := Claim7.holds Tryd.pinned (.plain (OpenSpec.upto fnExactFlowsAfterSpec)) fnExactFlowsAfterUptoCard

/-- THE SECOND FORM's CARD OF 'laws.FnFlowsOfRate'. -/
def fnFlowsOfRateUptoCard : Claim7 := { stood := { row := fnFlowsOfRateUptoRow, standIns := [], harness := (true, "39401908144d2ad43ab2848d96672daab856cee24a29ac1c0448e39a12c68c69"), looks := false }, kinds := [], alts := [], laidByText := true, laidKinds := [.data], laidTests := true, laidLooks := .later }
def FnFlowsOfRateUptoCardSaid : Prop := Claim7.holds Tryd.pinned (.plain (OpenSpec.upto fnFlowsOfRateSpec)) fnFlowsOfRateUptoCard

/-- THE SECOND FORM's CARD OF 'laws.FnExactLifeOf'. -/
def fnExactLifeOfUptoCard : Claim7 := { stood := { row := fnExactLifeOfUptoRow, standIns := [], harness := (true, "39401908144d2ad43ab2848d96672daab856cee24a29ac1c0448e39a12c68c69"), looks := false }, kinds := [], alts := [], laidByText := true, laidKinds := [.data], laidTests := true, laidLooks := .later }
def FnExactLifeOfUptoCardSaid : Prop := Claim7.holds Tryd.pinned (.plain (OpenSpec.upto fnExactLifeOfSpec)) fnExactLifeOfUptoCard
end Rows
end Go.Proofs.YtoidghdgebdfaaaDoor
