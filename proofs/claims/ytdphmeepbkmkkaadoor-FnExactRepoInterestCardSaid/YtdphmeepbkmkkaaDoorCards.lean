/-
  DERIVED. GIVEN WITH THE SEED: THE CARDS: each row of YtdphmeepbkmkkaaDoorRows.lean that lists a variable, with what it lists TIED to the program's text (the seventh form; the later family's looks); each row that meets fmt, with fmt's text TOLD by the authors' own Lean function (tested against real Go, not proved from fmt's source: count such statements apart). THE CARD IS WHAT COUNTS. Prove the row's statement (the work); the ties are given (YtdphmeepbkmkkaaDoorTie.lean); close each card by the builder's one call (the guide's Derived/Test/ToyasCard.lean, 'card_holds'). Laid BY PROGRAM, IN A SANDBOX (cutbox-door.mjs). By AI agents, Wed Nov 11 2026. No macro, syntax, notation, axiom, sorry.
-/
import Derived.Test.YtdphmeepbkmkkaaDoorRows
import GoSem.ClaimSeven
namespace Go.Proofs.YtdphmeepbkmkkaaDoor
namespace Rows

/-- THE TIED CARD OF 'laws.FnExactYearPart'. -/
def fnExactYearPartCard : Claim7 := { stood := { row := fnExactYearPartRow, standIns := [], harness := (true, "8bfe11f494fe536eb27fd3f1b33fd75dbb4ecf68e87ee4857baa4ace1a1d8d3b"), looks := false }, kinds := [], alts := [], laidByText := true, laidKinds := [.data], laidTests := true, laidLooks := .later }
def FnExactYearPartCardSaid : Prop := Claim7.holds Tryd.pinned (.plain (OpenSpec.ofChange fnExactYearPartSpec)) fnExactYearPartCard

/-- THE TIED CARD OF 'laws.FnExactInterestOf'. -/
def fnExactInterestOfCard : Claim7 := { stood := { row := fnExactInterestOfRow, standIns := [], harness := (true, "8bfe11f494fe536eb27fd3f1b33fd75dbb4ecf68e87ee4857baa4ace1a1d8d3b"), looks := false }, kinds := [], alts := [], laidByText := true, laidKinds := [.data], laidTests := true, laidLooks := .later }
def FnExactInterestOfCardSaid : Prop := Claim7.holds Tryd.pinned (.plain (OpenSpec.ofChange fnExactInterestOfSpec)) fnExactInterestOfCard

/-- THE TIED CARD OF 'laws.FnYearPartSum'. -/
def fnYearPartSumCard : Claim7 := { stood := { row := fnYearPartSumRow, standIns := [], harness := (true, "8bfe11f494fe536eb27fd3f1b33fd75dbb4ecf68e87ee4857baa4ace1a1d8d3b"), looks := false }, kinds := [], alts := [], laidByText := true, laidKinds := [.data], laidTests := true, laidLooks := .later }
def FnYearPartSumCardSaid : Prop := Claim7.holds Tryd.pinned (.plain (OpenSpec.ofChange fnYearPartSumSpec)) fnYearPartSumCard

/-- THE TIED CARD OF 'laws.FnExactRepoInterest'. -/
def fnExactRepoInterestCard : Claim7 := { stood := { row := fnExactRepoInterestRow, standIns := [], harness := (true, "8bfe11f494fe536eb27fd3f1b33fd75dbb4ecf68e87ee4857baa4ace1a1d8d3b"), looks := false }, kinds := [], alts := [], laidByText := true, laidKinds := [.data], laidTests := true, laidLooks := .later }
def FnExactRepoInterestCardSaid : Prop := Claim7.holds Tryd.pinned (.plain (OpenSpec.ofChange fnExactRepoInterestSpec)) fnExactRepoInterestCard

/-- THE TIED CARD OF 'laws.FnYearPartYear'. -/
def fnYearPartYearCard : Claim7 := { stood := { row := fnYearPartYearRow, standIns := [], harness := (true, "8bfe11f494fe536eb27fd3f1b33fd75dbb4ecf68e87ee4857baa4ace1a1d8d3b"), looks := false }, kinds := [], alts := [], laidByText := true, laidKinds := [.data], laidTests := true, laidLooks := .later }
def FnYearPartYearCardSaid : Prop := Claim7.holds Tryd.pinned (.plain (OpenSpec.ofChange fnYearPartYearSpec)) fnYearPartYearCard

/-- THE TIED CARD OF 'laws.FnYearPart'. -/
def fnYearPartCard : Claim7 := { stood := { row := fnYearPartRow, standIns := [], harness := (true, "8bfe11f494fe536eb27fd3f1b33fd75dbb4ecf68e87ee4857baa4ace1a1d8d3b"), looks := false }, kinds := [], alts := [], laidByText := true, laidKinds := [.data], laidTests := true, laidLooks := .later }
def FnYearPartCardSaid : Prop := Claim7.holds Tryd.pinned (.plain (OpenSpec.ofChange fnYearPartSpec)) fnYearPartCard

/-- THE TIED CARD OF 'laws.FnYearPartMoney'. -/
def fnYearPartMoneyCard : Claim7 := { stood := { row := fnYearPartMoneyRow, standIns := [], harness := (true, "8bfe11f494fe536eb27fd3f1b33fd75dbb4ecf68e87ee4857baa4ace1a1d8d3b"), looks := false }, kinds := [], alts := [], laidByText := true, laidKinds := [.data], laidTests := true, laidLooks := .later }
def FnYearPartMoneyCardSaid : Prop := Claim7.holds Tryd.pinned (.plain (OpenSpec.ofChange fnYearPartMoneySpec)) fnYearPartMoneyCard

/-- THE TIED CARD OF 'laws.FnInterestOf'. -/
def fnInterestOfCard : Claim7 := { stood := { row := fnInterestOfRow, standIns := [], harness := (true, "8bfe11f494fe536eb27fd3f1b33fd75dbb4ecf68e87ee4857baa4ace1a1d8d3b"), looks := false }, kinds := [], alts := [], laidByText := true, laidKinds := [.data], laidTests := true, laidLooks := .later }
def FnInterestOfCardSaid : Prop := Claim7.holds Tryd.pinned (.plain (OpenSpec.ofChange fnInterestOfSpec)) fnInterestOfCard

/-- THE TIED CARD OF 'laws.FnInterestOfDouble'. -/
def fnInterestOfDoubleCard : Claim7 := { stood := { row := fnInterestOfDoubleRow, standIns := [], harness := (true, "8bfe11f494fe536eb27fd3f1b33fd75dbb4ecf68e87ee4857baa4ace1a1d8d3b"), looks := false }, kinds := [], alts := [], laidByText := true, laidKinds := [.data], laidTests := true, laidLooks := .later }
def FnInterestOfDoubleCardSaid : Prop := Claim7.holds Tryd.pinned (.plain (OpenSpec.ofChange fnInterestOfDoubleSpec)) fnInterestOfDoubleCard

/-- THE TIED CARD OF 'laws.FnExactRollRepo'. -/
def fnExactRollRepoCard : Claim7 := { stood := { row := fnExactRollRepoRow, standIns := [], harness := (true, "8bfe11f494fe536eb27fd3f1b33fd75dbb4ecf68e87ee4857baa4ace1a1d8d3b"), looks := false }, kinds := [], alts := [], laidByText := true, laidKinds := [.data], laidTests := true, laidLooks := .later }
def FnExactRollRepoCardSaid : Prop := Claim7.holds Tryd.pinned (.plain (OpenSpec.ofChange fnExactRollRepoSpec)) fnExactRollRepoCard

/-- THE TIED CARD OF 'laws.FnRepoInterest'. -/
def fnRepoInterestCard : Claim7 := { stood := { row := fnRepoInterestRow, standIns := [], harness := (true, "8bfe11f494fe536eb27fd3f1b33fd75dbb4ecf68e87ee4857baa4ace1a1d8d3b"), looks := false }, kinds := [], alts := [], laidByText := true, laidKinds := [.data], laidTests := true, laidLooks := .later }
def FnRepoInterestCardSaid : Prop := Claim7.holds Tryd.pinned (.plain (OpenSpec.ofChange fnRepoInterestSpec)) fnRepoInterestCard

/-- THE TIED CARD OF 'laws.FnRollRepo'. -/
def fnRollRepoCard : Claim7 := { stood := { row := fnRollRepoRow, standIns := [], harness := (true, "8bfe11f494fe536eb27fd3f1b33fd75dbb4ecf68e87ee4857baa4ace1a1d8d3b"), looks := false }, kinds := [], alts := [], laidByText := true, laidKinds := [.data], laidTests := true, laidLooks := .later }
def FnRollRepoCardSaid : Prop := Claim7.holds Tryd.pinned (.plain (OpenSpec.ofChange fnRollRepoSpec)) fnRollRepoCard

/-- THE SECOND FORM's CARD OF 'laws.FnExactYearPart'. -/
def fnExactYearPartUptoCard : Claim7 := { stood := { row := fnExactYearPartUptoRow, standIns := [], harness := (true, "8bfe11f494fe536eb27fd3f1b33fd75dbb4ecf68e87ee4857baa4ace1a1d8d3b"), looks := false }, kinds := [], alts := [], laidByText := true, laidKinds := [.data], laidTests := true, laidLooks := .later }
def FnExactYearPartUptoCardSaid : Prop := Claim7.holds Tryd.pinned (.plain (OpenSpec.upto fnExactYearPartSpec)) fnExactYearPartUptoCard

/-- THE SECOND FORM's CARD OF 'laws.FnExactInterestOf'. -/
def fnExactInterestOfUptoCard : Claim7 := { stood := { row := fnExactInterestOfUptoRow, standIns := [], harness := (true, "8bfe11f494fe536eb27fd3f1b33fd75dbb4ecf68e87ee4857baa4ace1a1d8d3b"), looks := false }, kinds := [], alts := [], laidByText := true, laidKinds := [.data], laidTests := true, laidLooks := .later }
def FnExactInterestOfUptoCardSaid : Prop := Claim7.holds Tryd.pinned (.plain (OpenSpec.upto fnExactInterestOfSpec)) fnExactInterestOfUptoCard

/-- THE SECOND FORM's CARD OF 'laws.FnYearPartSum'. -/
def fnYearPartSumUptoCard : Claim7 := { stood := { row := fnYearPartSumUptoRow, standIns := [], harness := (true, "8bfe11f494fe536eb27fd3f1b33fd75dbb4ecf68e87ee4857baa4ace1a1d8d3b"), looks := false }, kinds := [], alts := [], laidByText := true, laidKinds := [.data], laidTests := true, laidLooks := .later }
def FnYearPartSumUptoCardSaid : Prop := Claim7.holds Tryd.pinned (.plain (OpenSpec.upto fnYearPartSumSpec)) fnYearPartSumUptoCard

/-- THE SECOND FORM's CARD OF 'laws.FnExactRepoInterest'. -/
def fnExactRepoInterestUptoCard : Claim7 := { stood := { row := fnExactRepoInterestUptoRow, standIns := [], harness := (true, "8bfe11f494fe536eb27fd3f1b33fd75dbb4ecf68e87ee4857baa4ace1a1d8d3b"), looks := false }, kinds := [], alts := [], laidByText := true, laidKinds := [.data], laidTests := true, laidLooks := .later }
def FnExactRepoInterestUptoCardSaid : Prop := Claim7.holds Tryd.pinned (.plain (OpenSpec.upto fnExactRepoInterestSpec)) fnExactRepoInterestUptoCard

/-- THE SECOND FORM's CARD OF 'laws.FnYearPartYear'. -/
def fnYearPartYearUptoCard : Claim7 := { stood := { row := fnYearPartYearUptoRow, standIns := [], harness := (true, "8bfe11f494fe536eb27fd3f1b33fd75dbb4ecf68e87ee4857baa4ace1a1d8d3b"), looks := false }, kinds := [], alts := [], laidByText := true, laidKinds := [.data], laidTests := true, laidLooks := .later }
def FnYearPartYearUptoCardSaid : Prop := Claim7.holds Tryd.pinned (.plain (OpenSpec.upto fnYearPartYearSpec)) fnYearPartYearUptoCard

/-- THE SECOND FORM's CARD OF 'laws.FnYearPart'. -/
def fnYearPartUptoCard : Claim7 := { stood := { row := fnYearPartUptoRow, standIns := [], harness := (true, "8bfe11f494fe536eb27fd3f1b33fd75dbb4ecf68e87ee4857baa4ace1a1d8d3b"), looks := false }, kinds := [], alts := [], laidByText := true, laidKinds := [.data], laidTests := true, laidLooks := .later }
def FnYearPartUptoCardSaid : Prop := Claim7.holds Tryd.pinned (.plain (OpenSpec.upto fnYearPartSpec)) fnYearPartUptoCard

/-- THE SECOND FORM's CARD OF 'laws.FnYearPartMoney'. -/
def fnYearPartMoneyUptoCard : Claim7 := { stood := { row := fnYearPartMoneyUptoRow, standIns := [], harness := (true, "8bfe11f494fe536eb27fd3f1b33fd75dbb4ecf68e87ee4857baa4ace1a1d8d3b"), looks := false }, kinds := [], alts := [], laidByText := true, laidKinds := [.data], laidTests := true, laidLooks := .later }
def FnYearPartMoneyUptoCardSaid : Prop := Claim7.holds Tryd.pinned (.plain (OpenSpec.upto fnYearPartMoneySpec)) fnYearPartMoneyUptoCard

/-- THE SECOND FORM's CARD OF 'laws.FnInterestOf'. -/
def fnInterestOfUptoCard : Claim7 := { stood := { row := fnInterestOfUptoRow, standIns := [], harness := (true, "8bfe11f494fe536eb27fd3f1b33fd75dbb4ecf68e87ee4857baa4ace1a1d8d3b"), looks := false }, kinds := [], alts := [], laidByText := true, laidKinds := [.data], laidTests := true, laidLooks := .later }
def FnInterestOfUptoCardSaid : Prop := Claim7.holds Tryd.pinned (.plain (OpenSpec.upto fnInterestOfSpec)) fnInterestOfUptoCard

/-- THE SECOND FORM's CARD OF 'laws.FnInterestOfDouble'. -/
def fnInterestOfDoubleUptoCard : Claim7 := { stood := { row := fnInterestOfDoubleUptoRow, standIns := [], harness := (true, "8bfe11f494fe536eb27fd3f1b33fd75dbb4ecf68e87ee4857baa4ace1a1d8d3b"), looks := false }, kinds := [], alts := [], laidByText := true, laidKinds := [.data], laidTests := true, laidLooks := .later }
def FnInterestOfDoubleUptoCardSaid : Prop := Claim7.holds Tryd.pinned (.plain (OpenSpec.upto fnInterestOfDoubleSpec)) fnInterestOfDoubleUptoCard

/-- THE SECOND FORM's CARD OF 'laws.FnExactRollRepo'. -/
def fnExactRollRepoUptoCard : Claim7 := { stood := { row := fnExactRollRepoUptoRow, standIns := [], harness := (true, "8bfe11f494fe536eb27fd3f1b33fd75dbb4ecf68e87ee4857baa4ace1a1d8d3b"), looks := false }, kinds := [], alts := [], laidByText := true, laidKinds := [.data], laidTests := true, laidLooks := .later }
def FnExactRollRepoUptoCardSaid : Prop := Claim7.holds Tryd.pinned (.plain (OpenSpec.upto fnExactRollRepoSpec)) fnExactRollRepoUptoCard

/-- THE SECOND FORM's CARD OF 'laws.FnRepoInterest'. -/
def fnRepoInterestUptoCard : Claim7 := { stood := { row := fnRepoInterestUptoRow, standIns := [], harness := (true, "8bfe11f494fe536eb27fd3f1b33fd75dbb4ecf68e87ee4857baa4ace1a1d8d3b"), looks := false }, kinds := [], alts := [], laidByText := true, laidKinds := [.data], laidTests := true, laidLooks := .later }
def FnRepoInterestUptoCardSaid : Prop := Claim7.holds Tryd.pinned (.plain (OpenSpec.upto fnRepoInterestSpec)) fnRepoInterestUptoCard

/-- THE SECOND FORM's CARD OF 'laws.FnRollRepo'. -/
def fnRollRepoUptoCard : Claim7 := { stood := { row := fnRollRepoUptoRow, standIns := [], harness := (true, "8bfe11f494fe536eb27fd3f1b33fd75dbb4ecf68e87ee4857baa4ace1a1d8d3b"), looks := false }, kinds := [], alts := [], laidByText := true, laidKinds := [.data], laidTests := true, laidLooks := .later }
def FnRollRepoUptoCardSaid : Prop := Claim7.holds Tryd.pinned (.plain (OpenSpec.upto fnRollRepoSpec)) fnRollRepoUptoCard
end Rows
end Go.Proofs.YtdphmeepbkmkkaaDoor
