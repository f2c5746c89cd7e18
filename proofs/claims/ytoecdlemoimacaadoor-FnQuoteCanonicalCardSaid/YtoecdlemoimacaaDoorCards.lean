/-
  DERIVED. GIVEN WITH THE SEED: THE CARDS: each row of YtoecdlemoimacaaDoorRows.lean that lists a variable, with what it lists TIED to the program's text (the seventh form; the later family's looks); each row that meets fmt, with fmt's text TOLD by the authors' own Lean function (tested against real Go, not proved from fmt's source: count such statements apart). THE CARD IS WHAT COUNTS. Prove the row's statement (the work); the ties are given (YtoecdlemoimacaaDoorTie.lean); close each card by the builder's one call (the guide's Derived/Test/ToyasCard.lean, 'card_holds'). Laid BY PROGRAM, IN A SANDBOX (cutbox-door.mjs). By AI agents, Wed Nov 11 2026. No macro, syntax, notation, axiom, sorry.
-/
import Derived.Test.YtoecdlemoimacaaDoorRows
import GoSem.ClaimSeven
namespace Go.Proofs.YtoecdlemoimacaaDoor
namespace Rows

/-- THE TIED CARD OF 'laws.FnExactParseQuote'. -/
def fnExactParseQuoteCard : Claim7 := { stood := { row := fnExactParseQuoteRow, standIns := [], harness := (true, "72232197f3e2b311adde081b9a940d894abb26424c48b7ed6b4ab260a00f4042"), looks := true }, kinds := [], alts := [], laidByText := true, laidKinds := [.data, .data, .data, .sentinel, .sentinel], laidTests := true, laidLooks := .later }
def FnExactParseQuoteCardSaid : Prop := Claim7.holds Tryd.pinned (.plain (OpenSpec.ofChange fnExactParseQuoteSpec)) fnExactParseQuoteCard

/-- THE TIED CARD OF 'laws.FnQuoteRoundTrip'. -/
def fnQuoteRoundTripCard : Claim7 := { stood := { row := fnQuoteRoundTripRow, standIns := [], harness := (true, "72232197f3e2b311adde081b9a940d894abb26424c48b7ed6b4ab260a00f4042"), looks := true }, kinds := [], alts := [], laidByText := true, laidKinds := [.data, .data, .data, .sentinel, .sentinel], laidTests := true, laidLooks := .later }
def FnQuoteRoundTripCardSaid : Prop := Claim7.holds Tryd.pinned (.plain (OpenSpec.ofChange fnQuoteRoundTripSpec)) fnQuoteRoundTripCard

/-- THE TIED CARD OF 'laws.FnQuoteCanonical'. -/
def fnQuoteCanonicalCard : Claim7 := { stood := { row := fnQuoteCanonicalRow, standIns := [], harness := (true, "72232197f3e2b311adde081b9a940d894abb26424c48b7ed6b4ab260a00f4042"), looks := true }, kinds := [], alts := [], laidByText := true, laidKinds := [.data, .data, .data, .sentinel, .sentinel], laidTests := true, laidLooks := .later }
def FnQuoteCanonicalCardSaid : Prop := Claim7.holds Tryd.pinned (.plain (OpenSpec.ofChange fnQuoteCanonicalSpec)) fnQuoteCanonicalCard

/-- THE TIED CARD OF 'laws.FnExactFormatQuote'. -/
def fnExactFormatQuoteCard : Claim7 := { stood := { row := fnExactFormatQuoteRow, standIns := [], harness := (true, "72232197f3e2b311adde081b9a940d894abb26424c48b7ed6b4ab260a00f4042"), looks := true }, kinds := [], alts := [], laidByText := true, laidKinds := [.data, .data, .data], laidTests := true, laidLooks := .later }
def FnExactFormatQuoteCardSaid : Prop := Claim7.holds Tryd.pinned (.plain (OpenSpec.ofChange fnExactFormatQuoteSpec)) fnExactFormatQuoteCard

/-- THE TIED CARD OF 'laws.FnExactFormatDate'. -/
def fnExactFormatDateCard : Claim7 := { stood := { row := fnExactFormatDateRow, standIns := [], harness := (true, "72232197f3e2b311adde081b9a940d894abb26424c48b7ed6b4ab260a00f4042"), looks := true }, kinds := [], alts := [], laidByText := true, laidKinds := [.data, .data, .data, .data], laidTests := true, laidLooks := .later }
def FnExactFormatDateCardSaid : Prop := Claim7.holds Tryd.pinned (.plain (OpenSpec.ofChange fnExactFormatDateSpec)) fnExactFormatDateCard

/-- THE TIED CARD OF 'laws.FnExactParseDate'. -/
def fnExactParseDateCard : Claim7 := { stood := { row := fnExactParseDateRow, standIns := [], harness := (true, "72232197f3e2b311adde081b9a940d894abb26424c48b7ed6b4ab260a00f4042"), looks := true }, kinds := [], alts := [], laidByText := true, laidKinds := [.data, .data, .data, .data], laidTests := true, laidLooks := .later }
def FnExactParseDateCardSaid : Prop := Claim7.holds Tryd.pinned (.plain (OpenSpec.ofChange fnExactParseDateSpec)) fnExactParseDateCard

/-- THE SECOND FORM's CARD OF 'laws.FnExactParseQuote'. -/
def fnExactParseQuoteUptoCard : Claim7 := { stood := { row := fnExactParseQuoteUptoRow, standIns := [], harness := (true, "72232197f3e2b311adde081b9a940d894abb26424c48b7ed6b4ab260a00f4042"), looks := true }, kinds := [], alts := [], laidByText := true, laidKinds := [.data, .data, .data, .sentinel, .sentinel], laidTests := true, laidLooks := .later }
def FnExactParseQuoteUptoCardSaid : Prop := Claim7.holds Tryd.pinned (.plain (OpenSpec.upto fnExactParseQuoteSpec)) fnExactParseQuoteUptoCard

/-- THE SECOND FORM's CARD OF 'laws.FnQuoteRoundTrip'. -/
def fnQuoteRoundTripUptoCard : Claim7 := { stood := { row := fnQuoteRoundTripUptoRow, standIns := [], harness := (true, "72232197f3e2b311adde081b9a940d894abb26424c48b7ed6b4ab260a00f4042"), looks := true }, kinds := [], alts := [], laidByText := true, laidKinds := [.data, .data, .data, .sentinel, .sentinel], laidTests := true, laidLooks := .later }
def FnQuoteRoundTripUptoCardSaid : Prop := Claim7.holds Tryd.pinned (.plain (OpenSpec.upto fnQuoteRoundTripSpec)) fnQuoteRoundTripUptoCard

/-- THE SECOND FORM's CARD OF 'laws.FnQuoteCanonical'. -/
def fnQuoteCanonicalUptoCard : Claim7 := { stood := { row := fnQuoteCanonicalUptoRow, standIns := [], harness := (true, "72232197f3e2b311adde081b9a940d894abb26424c48b7ed6b4ab260a00f4042"), looks := true }, kinds := [], alts := [], laidByText := true, laidKinds := [.data, .data, .data, .sentinel, .sentinel], laidTests := true, laidLooks := .later }
def FnQuoteCanonicalUptoCardSaid : Prop := Claim7.holds Tryd.pinned (.plain (OpenSpec.upto fnQuoteCanonicalSpec)) fnQuoteCanonicalUptoCard

/-- THE SECOND FORM's CARD OF 'laws.FnExactFormatQuote'. -/
def fnExactFormatQuoteUptoCard : Claim7 := { stood := { row := fnExactFormatQuoteUptoRow, standIns := [], harness := (true, "72232197f3e2b311adde081b9a940d894abb26424c48b7ed6b4ab260a00f4042"), looks := true }, kinds := [], alts := [], laidByText := true, laidKinds := [.data, .data, .data], laidTests := true, laidLooks := .later }
def FnExactFormatQuoteUptoCardSaid : Prop := Claim7.holds Tryd.pinned (.plain (OpenSpec.upto fnExactFormatQuoteSpec)) fnExactFormatQuoteUptoCard

/-- THE SECOND FORM's CARD OF 'laws.FnExactFormatDate'. -/
def fnExactFormatDateUptoCard : Claim7 := { stood := { row := fnExactFormatDateUptoRow, standIns := [], harness := (true, "72232197f3e2b311adde081b9a940d894abb26424c48b7ed6b4ab260a00f4042"), looks := true }, kinds := [], alts := [], laidByText := true, laidKinds := [.data, .data, .data, .data], laidTests := true, laidLooks := .later }
def FnExactFormatDateUptoCardSaid : Prop := Claim7.holds Tryd.pinned (.plain (OpenSpec.upto fnExactFormatDateSpec)) fnExactFormatDateUptoCard

/-- THE SECOND FORM's CARD OF 'laws.FnExactParseDate'. -/
def fnExactParseDateUptoCard : Claim7 := { stood := { row := fnExactParseDateUptoRow, standIns := [], harness := (true, "72232197f3e2b311adde081b9a940d894abb26424c48b7ed6b4ab260a00f4042"), looks := true }, kinds := [], alts := [], laidByText := true, laidKinds := [.data, .data, .data, .data], laidTests := true, laidLooks := .later }
def FnExactParseDateUptoCardSaid : Prop := Claim7.holds Tryd.pinned (.plain (OpenSpec.upto fnExactParseDateSpec)) fnExactParseDateUptoCard
end Rows
end Go.Proofs.YtoecdlemoimacaaDoor
