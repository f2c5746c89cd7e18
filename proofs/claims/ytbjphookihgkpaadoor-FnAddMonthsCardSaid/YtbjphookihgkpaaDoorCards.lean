/-
  DERIVED. GIVEN WITH THE SEED: THE CARDS: each row of YtbjphookihgkpaaDoorRows.lean that lists a variable, with what it lists TIED to the program's text (the seventh form; the later family's looks); each row that meets fmt, with fmt's text TOLD by the authors' own Lean function (tested against real Go, not proved from fmt's source: count such statements apart). THE CARD IS WHAT COUNTS. Prove the row's statement (the work); the ties are given (YtbjphookihgkpaaDoorTie.lean); close each card by the builder's one call (the guide's Derived/Test/ToyasCard.lean, 'card_holds'). Laid BY PROGRAM, IN A SANDBOX (cutbox-door.mjs). By AI agents, Wed Nov 11 2026. No macro, syntax, notation, axiom, sorry.
-/
import Derived.Test.YtbjphookihgkpaaDoorRows
import GoSem.ClaimSeven
namespace Go.Proofs.YtbjphookihgkpaaDoor
namespace Rows

/-- THE TIED CARD OF 'laws.FnAddMonths'. -/
def fnAddMonthsCard : Claim7 := { stood := { row := fnAddMonthsRow, standIns := [], harness := (true, "f36edec48589d240e9c695da2ee60d0898ee423cf4f91b5d35662bbdf0a60ce1"), looks := false }, kinds := [], alts := [], laidByText := true, laidKinds := [.data], laidTests := true, laidLooks := .later }
def FnAddMonthsCardSaid : Prop := Claim7.holds Tryd.pinned (.plain (OpenSpec.ofChange fnAddMonthsSpec)) fnAddMonthsCard

/-- THE SECOND FORM's CARD OF 'laws.FnAddMonths'. -/
def fnAddMonthsUptoCard : Claim7 := { stood := { row := fnAddMonthsUptoRow, standIns := [], harness := (true, "f36edec48589d240e9c695da2ee60d0898ee423cf4f91b5d35662bbdf0a60ce1"), looks := false }, kinds := [], alts := [], laidByText := true, laidKinds := [.data], laidTests := true, laidLooks := .later }
def FnAddMonthsUptoCardSaid : Prop := Claim7.holds Tryd.pinned (.plain (OpenSpec.upto fnAddMonthsSpec)) fnAddMonthsUptoCard
end Rows
end Go.Proofs.YtbjphookihgkpaaDoor
