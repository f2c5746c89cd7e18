/-
  DERIVED. GIVEN WITH THE SEED: THE CARDS: each row of YtblnakfkhaibnaaDoorRows.lean that lists a variable, with what it lists TIED to the program's text (the seventh form; the later family's looks); each row that meets fmt, with fmt's text TOLD by the authors' own Lean function (tested against real Go, not proved from fmt's source: count such statements apart). THE CARD IS WHAT COUNTS. Prove the row's statement (the work); the ties are given (YtblnakfkhaibnaaDoorTie.lean); close each card by the builder's one call (the guide's Derived/Test/ToyasCard.lean, 'card_holds'). Laid BY PROGRAM, IN A SANDBOX (cutbox-door.mjs). By AI agents, Wed Nov 11 2026. No macro, syntax, notation, axiom, sorry.
-/
import Derived.Test.YtblnakfkhaibnaaDoorRows
import GoSem.ClaimSeven
namespace Go.Proofs.YtblnakfkhaibnaaDoor
namespace Rows

/-- THE TIED CARD OF 'laws.FnExactLatticeValue'. -/
def fnExactLatticeValueCard : Claim7 := { stood := { row := fnExactLatticeValueRow, standIns := [], harness := (true, "9d4c7c9e4fa7ef0a8d2ffb069c26073eb3addc81275398832dd51ba1233ef3dd"), looks := false }, kinds := [], alts := [], laidByText := true, laidKinds := [.sentinel], laidTests := true, laidLooks := .later }
def FnExactLatticeValueCardSaid : Prop := Claim7.holds Tryd.pinned (.plain (OpenSpec.ofChange fnExactLatticeValueSpec)) fnExactLatticeValueCard

/-- THE TIED CARD OF 'laws.FnExactCallWorth'. -/
def fnExactCallWorthCard : Claim7 := { stood := { row := fnExactCallWorthRow, standIns := [], harness := (true, "9d4c7c9e4fa7ef0a8d2ffb069c26073eb3addc81275398832dd51ba1233ef3dd"), looks := false }, kinds := [], alts := [], laidByText := true, laidKinds := [.sentinel], laidTests := true, laidLooks := .later }
def FnExactCallWorthCardSaid : Prop := Claim7.holds Tryd.pinned (.plain (OpenSpec.ofChange fnExactCallWorthSpec)) fnExactCallWorthCard

/-- THE TIED CARD OF 'laws.FnLatticeValue'. -/
def fnLatticeValueCard : Claim7 := { stood := { row := fnLatticeValueRow, standIns := [], harness := (true, "9d4c7c9e4fa7ef0a8d2ffb069c26073eb3addc81275398832dd51ba1233ef3dd"), looks := false }, kinds := [], alts := [], laidByText := true, laidKinds := [.sentinel], laidTests := true, laidLooks := .later }
def FnLatticeValueCardSaid : Prop := Claim7.holds Tryd.pinned (.plain (OpenSpec.ofChange fnLatticeValueSpec)) fnLatticeValueCard

/-- THE TIED CARD OF 'laws.FnLatticeValueMore'. -/
def fnLatticeValueMoreCard : Claim7 := { stood := { row := fnLatticeValueMoreRow, standIns := [], harness := (true, "9d4c7c9e4fa7ef0a8d2ffb069c26073eb3addc81275398832dd51ba1233ef3dd"), looks := false }, kinds := [], alts := [], laidByText := true, laidKinds := [.sentinel], laidTests := true, laidLooks := .later }
def FnLatticeValueMoreCardSaid : Prop := Claim7.holds Tryd.pinned (.plain (OpenSpec.ofChange fnLatticeValueMoreSpec)) fnLatticeValueMoreCard

/-- THE TIED CARD OF 'laws.FnLatticeValueRate'. -/
def fnLatticeValueRateCard : Claim7 := { stood := { row := fnLatticeValueRateRow, standIns := [], harness := (true, "9d4c7c9e4fa7ef0a8d2ffb069c26073eb3addc81275398832dd51ba1233ef3dd"), looks := false }, kinds := [], alts := [], laidByText := true, laidKinds := [.sentinel], laidTests := true, laidLooks := .later }
def FnLatticeValueRateCardSaid : Prop := Claim7.holds Tryd.pinned (.plain (OpenSpec.ofChange fnLatticeValueRateSpec)) fnLatticeValueRateCard

/-- THE TIED CARD OF 'laws.FnCallWorth'. -/
def fnCallWorthCard : Claim7 := { stood := { row := fnCallWorthRow, standIns := [], harness := (true, "9d4c7c9e4fa7ef0a8d2ffb069c26073eb3addc81275398832dd51ba1233ef3dd"), looks := false }, kinds := [], alts := [], laidByText := true, laidKinds := [.sentinel], laidTests := true, laidLooks := .later }
def FnCallWorthCardSaid : Prop := Claim7.holds Tryd.pinned (.plain (OpenSpec.ofChange fnCallWorthSpec)) fnCallWorthCard

/-- THE SECOND FORM's CARD OF 'laws.FnExactLatticeValue'. -/
def fnExactLatticeValueUptoCard : Claim7 := { stood := { row := fnExactLatticeValueUptoRow, standIns := [], harness := (true, "9d4c7c9e4fa7ef0a8d2ffb069c26073eb3addc81275398832dd51ba1233ef3dd"), looks := false }, kinds := [], alts := [], laidByText := true, laidKinds := [.sentinel], laidTests := true, laidLooks := .later }
def FnExactLatticeValueUptoCardSaid : Prop := Claim7.holds Tryd.pinned (.plain (OpenSpec.upto fnExactLatticeValueSpec)) fnExactLatticeValueUptoCard

/-- THE SECOND FORM's CARD OF 'laws.FnExactCallWorth'. -/
def fnExactCallWorthUptoCard : Claim7 := { stood := { row := fnExactCallWorthUptoRow, standIns := [], harness := (true, "9d4c7c9e4fa7ef0a8d2ffb069c26073eb3addc81275398832dd51ba1233ef3dd"), looks := false }, kinds := [], alts := [], laidByText := true, laidKinds := [.sentinel], laidTests := true, laidLooks := .later }
def FnExactCallWorthUptoCardSaid : Prop := Claim7.holds Tryd.pinned (.plain (OpenSpec.upto fnExactCallWorthSpec)) fnExactCallWorthUptoCard

/-- THE SECOND FORM's CARD OF 'laws.FnLatticeValue'. -/
def fnLatticeValueUptoCard : Claim7 := { stood := { row := fnLatticeValueUptoRow, standIns := [], harness := (true, "9d4c7c9e4fa7ef0a8d2ffb069c26073eb3addc81275398832dd51ba1233ef3dd"), looks := false }, kinds := [], alts := [], laidByText := true, laidKinds := [.sentinel], laidTests := true, laidLooks := .later }
def FnLatticeValueUptoCardSaid : Prop := Claim7.holds Tryd.pinned (.plain (OpenSpec.upto fnLatticeValueSpec)) fnLatticeValueUptoCard

/-- THE SECOND FORM's CARD OF 'laws.FnLatticeValueMore'. -/
def fnLatticeValueMoreUptoCard : Claim7 := { stood := { row := fnLatticeValueMoreUptoRow, standIns := [], harness := (true, "9d4c7c9e4fa7ef0a8d2ffb069c26073eb3addc81275398832dd51ba1233ef3dd"), looks := false }, kinds := [], alts := [], laidByText := true, laidKinds := [.sentinel], laidTests := true, laidLooks := .later }
def FnLatticeValueMoreUptoCardSaid : Prop := Claim7.holds Tryd.pinned (.plain (OpenSpec.upto fnLatticeValueMoreSpec)) fnLatticeValueMoreUptoCard

/-- THE SECOND FORM's CARD OF 'laws.FnLatticeValueRate'. -/
def fnLatticeValueRateUptoCard : Claim7 := { stood := { row := fnLatticeValueRateUptoRow, standIns := [], harness := (true, "9d4c7c9e4fa7ef0a8d2ffb069c26073eb3addc81275398832dd51ba1233ef3dd"), looks := false }, kinds := [], alts := [], laidByText := true, laidKinds := [.sentinel], laidTests := true, laidLooks := .later }
def FnLatticeValueRateUptoCardSaid : Prop := Claim7.holds Tryd.pinned (.plain (OpenSpec.upto fnLatticeValueRateSpec)) fnLatticeValueRateUptoCard

/-- THE SECOND FORM's CARD OF 'laws.FnCallWorth'. -/
def fnCallWorthUptoCard : Claim7 := { stood := { row := fnCallWorthUptoRow, standIns := [], harness := (true, "9d4c7c9e4fa7ef0a8d2ffb069c26073eb3addc81275398832dd51ba1233ef3dd"), looks := false }, kinds := [], alts := [], laidByText := true, laidKinds := [.sentinel], laidTests := true, laidLooks := .later }
def FnCallWorthUptoCardSaid : Prop := Claim7.holds Tryd.pinned (.plain (OpenSpec.upto fnCallWorthSpec)) fnCallWorthUptoCard
end Rows
end Go.Proofs.YtblnakfkhaibnaaDoor
