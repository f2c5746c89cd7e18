/-
  DERIVED. GIVEN WITH THE SEED: THE CARDS: each row of YtiplcndacmicoaaDoorRows.lean that lists a variable, with what it lists TIED to the program's text (the seventh form; the later family's looks); each row that meets fmt, with fmt's text TOLD by the authors' own Lean function (tested against real Go, not proved from fmt's source: count such statements apart). THE CARD IS WHAT COUNTS. Prove the row's statement (the work); the ties are given (YtiplcndacmicoaaDoorTie.lean); close each card by the builder's one call (the guide's Derived/Test/ToyasCard.lean, 'card_holds'). Laid BY PROGRAM, IN A SANDBOX (cutbox-door.mjs). By AI agents, Wed Nov 11 2026. No macro, syntax, notation, axiom, sorry.
-/
import Derived.Test.YtiplcndacmicoaaDoorRows
import GoSem.ClaimSeven
namespace Go.Proofs.YtiplcndacmicoaaDoor
namespace Rows

/-- THE TIED CARD OF 'laws.FnExactRollRepo'. -/
def fnExactRollRepoCard : Claim7 := { stood := { row := fnExactRollRepoRow, standIns := [], harness := (true, "be797c590672796911d71f9b016016f91560a612047f63e67f4bcce9196031f2"), looks := false }, kinds := [], alts := [], laidByText := true, laidKinds := [.data], laidTests := true, laidLooks := .later }
def FnExactRollRepoCardSaid : Prop := Claim7.holds Tryd.pinned (.plain (OpenSpec.ofChange fnExactRollRepoSpec)) fnExactRollRepoCard

/-- THE TIED CARD OF 'laws.FnRepoInterest'. -/
def fnRepoInterestCard : Claim7 := { stood := { row := fnRepoInterestRow, standIns := [], harness := (true, "be797c590672796911d71f9b016016f91560a612047f63e67f4bcce9196031f2"), looks := false }, kinds := [], alts := [], laidByText := true, laidKinds := [.data], laidTests := true, laidLooks := .later }
def FnRepoInterestCardSaid : Prop := Claim7.holds Tryd.pinned (.plain (OpenSpec.ofChange fnRepoInterestSpec)) fnRepoInterestCard

/-- THE TIED CARD OF 'laws.FnRollRepo'. -/
def fnRollRepoCard : Claim7 := { stood := { row := fnRollRepoRow, standIns := [], harness := (true, "be797c590672796911d71f9b016016f91560a612047f63e67f4bcce9196031f2"), looks := false }, kinds := [], alts := [], laidByText := true, laidKinds := [.data], laidTests := true, laidLooks := .later }
def FnRollRepoCardSaid : Prop := Claim7.holds Tryd.pinned (.plain (OpenSpec.ofChange fnRollRepoSpec)) fnRollRepoCard

/-- THE SECOND FORM's CARD OF 'laws.FnExactRollRepo'. -/
def fnExactRollRepoUptoCard : Claim7 := { stood := { row := fnExactRollRepoUptoRow, standIns := [], harness := (true, "be797c590672796911d71f9b016016f91560a612047f63e67f4bcce9196031f2"), looks := false }, kinds := [], alts := [], laidByText := true, laidKinds := [.data], laidTests := true, laidLooks := .later }
def FnExactRollRepoUptoCardSaid : Prop := Claim7.holds Tryd.pinned (.plain (OpenSpec.upto fnExactRollRepoSpec)) fnExactRollRepoUptoCard

/-- THE SECOND FORM's CARD OF 'laws.FnRepoInterest'. -/
def fnRepoInterestUptoCard : Claim7 := { stood := { row := fnRepoInterestUptoRow, standIns := [], harness := (true, "be797c590672796911d71f9b016016f91560a612047f63e67f4bcce9196031f2"), looks := false }, kinds := [], alts := [], laidByText := true, laidKinds := [.data], laidTests := true, laidLooks := .later }
def FnRepoInterestUptoCardSaid : Prop := Claim7.holds Tryd.pinned (.plain (OpenSpec.upto fnRepoInterestSpec)) fnRepoInterestUptoCard

/-- THE SECOND FORM's CARD OF 'laws.FnRollRepo'. -/
def fnRollRepoUptoCard : Claim7 := { stood := { row := fnRollRepoUptoRow, standIns := [], harness := (true, "be797c590672796911d71f9b016016f91560a612047f63e67f4bcce9196031f2"), looks := false }, kinds := [], alts := [], laidByText := true, laidKinds := [.data], laidTests := true, laidLooks := .later }
def FnRollRepoUptoCardSaid : Prop := Claim7.holds Tryd.pinned (.plain (OpenSpec.upto fnRollRepoSpec)) fnRollRepoUptoCard
end Rows
end Go.Proofs.YtiplcndacmicoaaDoor
