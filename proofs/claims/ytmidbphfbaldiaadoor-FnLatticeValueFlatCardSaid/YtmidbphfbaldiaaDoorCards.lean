/-
  DERIVED. GIVEN WITH THE SEED: THE CARDS: each row of YtmidbphfbaldiaaDoorRows.lean that lists a variable, with what it lists TIED to the program's text (the seventh form; the later family's looks); each row that meets fmt, with fmt's text TOLD by the authors' own Lean function (tested against real Go, not proved from fmt's source: count such statements apart). THE CARD IS WHAT COUNTS. Prove the row's statement (the work); the ties are given (YtmidbphfbaldiaaDoorTie.lean); close each card by the builder's one call (the guide's Derived/Test/ToyasCard.lean, 'card_holds'). Laid BY PROGRAM, IN A SANDBOX (cutbox-door.mjs). By AI agents, Wed Nov 11 2026. No macro, syntax, notation, axiom, sorry.
-/
import Derived.Test.YtmidbphfbaldiaaDoorRows
import GoSem.ClaimSeven
namespace Go.Proofs.YtmidbphfbaldiaaDoor
namespace Rows

/-- THE TIED CARD OF 'laws.FnLatticeValueFlat'. -/
def fnLatticeValueFlatCard : Claim7 := { stood := { row := fnLatticeValueFlatRow, standIns := [], harness := (true, "ce2d1261ece6b68828acca16f1dd6a4289b0622632b36918237e7db8b8c74732"), looks := true }, kinds := [], alts := [], laidByText := true, laidKinds := [.sentinel], laidTests := true, laidLooks := .later }
def FnLatticeValueFlatCardSaid : Prop := Claim7.holds Tryd.pinned (.plain (OpenSpec.ofChange fnLatticeValueFlatSpec)) fnLatticeValueFlatCard

/-- THE SECOND FORM's CARD OF 'laws.FnLatticeValueFlat'. -/
def fnLatticeValueFlatUptoCard : Claim7 := { stood := { row := fnLatticeValueFlatUptoRow, standIns := [], harness := (true, "ce2d1261ece6b68828acca16f1dd6a4289b0622632b36918237e7db8b8c74732"), looks := true }, kinds := [], alts := [], laidByText := true, laidKinds := [.sentinel], laidTests := true, laidLooks := .later }
def FnLatticeValueFlatUptoCardSaid : Prop := Claim7.holds Tryd.pinned (.plain (OpenSpec.upto fnLatticeValueFlatSpec)) fnLatticeValueFlatUptoCard
end Rows
end Go.Proofs.YtmidbphfbaldiaaDoor
