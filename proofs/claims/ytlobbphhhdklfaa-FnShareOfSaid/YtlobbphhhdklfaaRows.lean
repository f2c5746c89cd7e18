/-
  No cell of these rows narrows 'for every input' (looked for: loops, veiled, ifaces, maps, wideKeys, modest, calm, conditions, laid).
  DERIVED. THE GIVEN ROWS OF THIS SEAT. 6 by the template 'for every input the law returns true; each argument reads behind the call as it read before'; 0 by the template 'total and deterministic' (their statements: YtlobbphhhdklfaaTotals.lean).
  GIVEN WITH THE SEED: the statements are not yours to turn. If you find one false, say at which input.
  Laid BY PROGRAM, IN A SANDBOX (cutbox-rows.mjs): the forced cells as the released guide's own fill.sh prints them over the translation 5fc034fb08fec7ed… (all of the seat's roots in one cut). By AI agents, Wed Nov 11 2026. No macro, syntax, notation, axiom, sorry.
-/
import Derived.Test.YtlobbphhhdklfaaChecked
import GoSem.Claim
import GoSem.ClaimJoined
import GoSem.ClaimMapViews
import Derived.JoinedTies
import Derived.KernelRfl
namespace Go.Proofs.Ytlobbphhhdklfaa
/- THE CELL 'sum', in the pinned program and in every row, IS THE sha256 OF THE DUMP (.gsa) THAT YtlobbphhhdklfaaProg.lean LOADS. Nothing in Lean hashes anything: it is a label: what it is worth is what the hold of that sum in a sandbox is worth. -/
noncomputable def Try.pinned : Pinned := { name := "ytlobbphhhdklfaa", sum := "5fc034fb08fec7edf39e06ecadfbc75e1dbd866c31735b116eb3b6670f63de87", checked := Try.checked }
namespace Rows
def none {H : Type} : Left H := { results := [], args := [] }

/-- 'laws.FnExactQuoteCents': WHATEVER THE INPUT: true; the input reads as it did. -/
def fnExactQuoteCentsSpec : ChangeSpec := { name := "fnExactQuoteCents", fn := fun _ => fun
  | [d] => { results := [.lit (.bool true)], args := [d] }
  | _ => none }
def fnExactQuoteCentsRow : OpenClaim := { program := "ytlobbphhhdklfaa", sum := "5fc034fb08fec7edf39e06ecadfbc75e1dbd866c31735b116eb3b6670f63de87", func := "loop.example/bonddesk/laws.FnExactQuoteCents", spec := "fnExactQuoteCents", apart := false }
def FnExactQuoteCentsSaid : Prop := fnExactQuoteCentsRow.holds Try.pinned (OpenSpec.ofChange fnExactQuoteCentsSpec)

/-- ITS FALSE NEIGHBOUR: 'it returns false'. Refute it at one input. -/
def fnExactQuoteCentsWrong : ChangeSpec := { name := "fnExactQuoteCents", fn := fun _ => fun
  | [d] => { results := [.lit (.bool false)], args := [d] }
  | _ => none }
def FnExactQuoteCentsWrongFalsely : Prop := fnExactQuoteCentsRow.holds Try.pinned (OpenSpec.ofChange fnExactQuoteCentsWrong)

/-- 'laws.FnQuoteOrder': WHATEVER THE INPUT: true; the input reads as it did. -/
def fnQuoteOrderSpec : ChangeSpec := { name := "fnQuoteOrder", fn := fun _ => fun
  | [d] => { results := [.lit (.bool true)], args := [d] }
  | _ => none }
def fnQuoteOrderRow : OpenClaim := { program := "ytlobbphhhdklfaa", sum := "5fc034fb08fec7edf39e06ecadfbc75e1dbd866c31735b116eb3b6670f63de87", func := "loop.example/bonddesk/laws.FnQuoteOrder", spec := "fnQuoteOrder", apart := false }
def FnQuoteOrderSaid : Prop := fnQuoteOrderRow.holds Try.pinned (OpenSpec.ofChange fnQuoteOrderSpec)

/-- ITS FALSE NEIGHBOUR: 'it returns false'. Refute it at one input. -/
def fnQuoteOrderWrong : ChangeSpec := { name := "fnQuoteOrder", fn := fun _ => fun
  | [d] => { results := [.lit (.bool false)], args := [d] }
  | _ => none }
def FnQuoteOrderWrongFalsely : Prop := fnQuoteOrderRow.holds Try.pinned (OpenSpec.ofChange fnQuoteOrderWrong)

/-- 'laws.FnQuoteCents': WHATEVER THE INPUT: true; the input reads as it did. -/
def fnQuoteCentsSpec : ChangeSpec := { name := "fnQuoteCents", fn := fun _ => fun
  | [d] => { results := [.lit (.bool true)], args := [d] }
  | _ => none }
def fnQuoteCentsRow : OpenClaim := { program := "ytlobbphhhdklfaa", sum := "5fc034fb08fec7edf39e06ecadfbc75e1dbd866c31735b116eb3b6670f63de87", func := "loop.example/bonddesk/laws.FnQuoteCents", spec := "fnQuoteCents", apart := false }
def FnQuoteCentsSaid : Prop := fnQuoteCentsRow.holds Try.pinned (OpenSpec.ofChange fnQuoteCentsSpec)

/-- ITS FALSE NEIGHBOUR: 'it returns false'. Refute it at one input. -/
def fnQuoteCentsWrong : ChangeSpec := { name := "fnQuoteCents", fn := fun _ => fun
  | [d] => { results := [.lit (.bool false)], args := [d] }
  | _ => none }
def FnQuoteCentsWrongFalsely : Prop := fnQuoteCentsRow.holds Try.pinned (OpenSpec.ofChange fnQuoteCentsWrong)

/-- 'laws.FnShareOf': WHATEVER THE INPUT: true; the input reads as it did. -/
def fnShareOfSpec : ChangeSpec := { name := "fnShareOf", fn := fun _ => fun
  | [d] => { results := [.lit (.bool true)], args := [d] }
  | _ => none }
def fnShareOfRow : OpenClaim := { program := "ytlobbphhhdklfaa", sum := "5fc034fb08fec7edf39e06ecadfbc75e1dbd866c31735b116eb3b6670f63de87", func := "loop.example/bonddesk/laws.FnShareOf", spec := "fnShareOf", apart := false }
def FnShareOfSaid : Prop := fnShareOfRow.holds Try.pinned (OpenSpec.ofChange fnShareOfSpec)

/-- ITS FALSE NEIGHBOUR: 'it returns false'. Refute it at one input. -/
def fnShareOfWrong : ChangeSpec := { name := "fnShareOf", fn := fun _ => fun
  | [d] => { results := [.lit (.bool false)], args := [d] }
  | _ => none }
def FnShareOfWrongFalsely : Prop := fnShareOfRow.holds Try.pinned (OpenSpec.ofChange fnShareOfWrong)

/-- 'laws.FnCompareRatio': WHATEVER THE INPUT: true; the input reads as it did. -/
def fnCompareRatioSpec : ChangeSpec := { name := "fnCompareRatio", fn := fun _ => fun
  | [d] => { results := [.lit (.bool true)], args := [d] }
  | _ => none }
def fnCompareRatioRow : OpenClaim := { program := "ytlobbphhhdklfaa", sum := "5fc034fb08fec7edf39e06ecadfbc75e1dbd866c31735b116eb3b6670f63de87", func := "loop.example/bonddesk/laws.FnCompareRatio", spec := "fnCompareRatio", apart := false }
def FnCompareRatioSaid : Prop := fnCompareRatioRow.holds Try.pinned (OpenSpec.ofChange fnCompareRatioSpec)

/-- ITS FALSE NEIGHBOUR: 'it returns false'. Refute it at one input. -/
def fnCompareRatioWrong : ChangeSpec := { name := "fnCompareRatio", fn := fun _ => fun
  | [d] => { results := [.lit (.bool false)], args := [d] }
  | _ => none }
def FnCompareRatioWrongFalsely : Prop := fnCompareRatioRow.holds Try.pinned (OpenSpec.ofChange fnCompareRatioWrong)

/-- 'laws.FnCompareRatioAdd': WHATEVER THE INPUT: true; the input reads as it did. -/
def fnCompareRatioAddSpec : ChangeSpec := { name := "fnCompareRatioAdd", fn := fun _ => fun
  | [d] => { results := [.lit (.bool true)], args := [d] }
  | _ => none }
def fnCompareRatioAddRow : OpenClaim := { program := "ytlobbphhhdklfaa", sum := "5fc034fb08fec7edf39e06ecadfbc75e1dbd866c31735b116eb3b6670f63de87", func := "loop.example/bonddesk/laws.FnCompareRatioAdd", spec := "fnCompareRatioAdd", apart := false }
def FnCompareRatioAddSaid : Prop := fnCompareRatioAddRow.holds Try.pinned (OpenSpec.ofChange fnCompareRatioAddSpec)

/-- ITS FALSE NEIGHBOUR: 'it returns false'. Refute it at one input. -/
def fnCompareRatioAddWrong : ChangeSpec := { name := "fnCompareRatioAdd", fn := fun _ => fun
  | [d] => { results := [.lit (.bool false)], args := [d] }
  | _ => none }
def FnCompareRatioAddWrongFalsely : Prop := fnCompareRatioAddRow.holds Try.pinned (OpenSpec.ofChange fnCompareRatioAddWrong)

/- THE SECOND FORM. 'bulk': how many values and letters a reading holds, each counted each time it is reached (what is shared counts as often as it is met; a slice's spare places count too). A statement '..UptoSaid' is the law's where the arguments, and the package variables that the reading takes, are together of bulk at most 1048576: NARROWER than '..Said'. Prove '..Said' where nothing that the law and all that it calls make is longer than what came in: it says more and counts as full. Else prove '..UptoSaid'. A law counts once. -/
mutual
def uptoBulk {H : Type} : DataW H → Nat
  | .lit (.string bytes) => bytes.length + 1
  | .lit _ => 1
  | .nil => 1
  | .ptr d => uptoBulk d + 1
  | .slice elems spare => uptoBulkAll elems + uptoBulkAll spare + 1
  | .agg parts => uptoBulkAll parts + 1
  | .iface _ d => uptoBulk d + 1
  | .map entries => uptoBulkEntries entries + 1
  | .held _ => 1
def uptoBulkAll {H : Type} : List (DataW H) → Nat
  | [] => 0
  | d :: r => uptoBulk d + uptoBulkAll r
def uptoBulkEntries {H : Type} : List (Lit × DataW H) → Nat
  | [] => 0
  | x :: r => uptoBulkEntry x + uptoBulkEntries r
def uptoBulkEntry {H : Type} : Lit × DataW H → Nat
  | (.string bytes, d) => bytes.length + uptoBulk d + 1
  | (_, d) => uptoBulk d + 1
 end
def uptoSmall : (H : Type) → List (DataW H) → Bool := fun _ ds => decide (uptoBulkAll ds ≤ 1048576)
def OpenSpec.upto (s : _root_.Go.ChangeSpec) : _root_.Go.OpenSpec := { _root_.Go.OpenSpec.ofChange s with cond := some uptoSmall }

/-- 'laws.FnExactQuoteCents', WHERE WHAT IT READS IS OF BULK AT MOST 1048576: true; the input reads as it did. -/
def fnExactQuoteCentsUptoRow : OpenClaim := { program := "ytlobbphhhdklfaa", sum := "5fc034fb08fec7edf39e06ecadfbc75e1dbd866c31735b116eb3b6670f63de87", func := "loop.example/bonddesk/laws.FnExactQuoteCents", spec := "fnExactQuoteCents", apart := false, narrowed := true }
def FnExactQuoteCentsUptoSaid : Prop := fnExactQuoteCentsUptoRow.holds Try.pinned (OpenSpec.upto fnExactQuoteCentsSpec)

/-- 'laws.FnQuoteOrder', WHERE WHAT IT READS IS OF BULK AT MOST 1048576: true; the input reads as it did. -/
def fnQuoteOrderUptoRow : OpenClaim := { program := "ytlobbphhhdklfaa", sum := "5fc034fb08fec7edf39e06ecadfbc75e1dbd866c31735b116eb3b6670f63de87", func := "loop.example/bonddesk/laws.FnQuoteOrder", spec := "fnQuoteOrder", apart := false, narrowed := true }
def FnQuoteOrderUptoSaid : Prop := fnQuoteOrderUptoRow.holds Try.pinned (OpenSpec.upto fnQuoteOrderSpec)

/-- 'laws.FnQuoteCents', WHERE WHAT IT READS IS OF BULK AT MOST 1048576: true; the input reads as it did. -/
def fnQuoteCentsUptoRow : OpenClaim := { program := "ytlobbphhhdklfaa", sum := "5fc034fb08fec7edf39e06ecadfbc75e1dbd866c31735b116eb3b6670f63de87", func := "loop.example/bonddesk/laws.FnQuoteCents", spec := "fnQuoteCents", apart := false, narrowed := true }
def FnQuoteCentsUptoSaid : Prop := fnQuoteCentsUptoRow.holds Try.pinned (OpenSpec.upto fnQuoteCentsSpec)

/-- 'laws.FnShareOf', WHERE WHAT IT READS IS OF BULK AT MOST 1048576: true; the input reads as it did. -/
def fnShareOfUptoRow : OpenClaim := { program := "ytlobbphhhdklfaa", sum := "5fc034fb08fec7edf39e06ecadfbc75e1dbd866c31735b116eb3b6670f63de87", func := "loop.example/bonddesk/laws.FnShareOf", spec := "fnShareOf", apart := false, narrowed := true }
def FnShareOfUptoSaid : Prop := fnShareOfUptoRow.holds Try.pinned (OpenSpec.upto fnShareOfSpec)

/-- 'laws.FnCompareRatio', WHERE WHAT IT READS IS OF BULK AT MOST 1048576: true; the input reads as it did. -/
def fnCompareRatioUptoRow : OpenClaim := { program := "ytlobbphhhdklfaa", sum := "5fc034fb08fec7edf39e06ecadfbc75e1dbd866c31735b116eb3b6670f63de87", func := "loop.example/bonddesk/laws.FnCompareRatio", spec := "fnCompareRatio", apart := false, narrowed := true }
def FnCompareRatioUptoSaid : Prop := fnCompareRatioUptoRow.holds Try.pinned (OpenSpec.upto fnCompareRatioSpec)

/-- 'laws.FnCompareRatioAdd', WHERE WHAT IT READS IS OF BULK AT MOST 1048576: true; the input reads as it did. -/
def fnCompareRatioAddUptoRow : OpenClaim := { program := "ytlobbphhhdklfaa", sum := "5fc034fb08fec7edf39e06ecadfbc75e1dbd866c31735b116eb3b6670f63de87", func := "loop.example/bonddesk/laws.FnCompareRatioAdd", spec := "fnCompareRatioAdd", apart := false, narrowed := true }
def FnCompareRatioAddUptoSaid : Prop := fnCompareRatioAddUptoRow.holds Try.pinned (OpenSpec.upto fnCompareRatioAddSpec)

end Rows
end Go.Proofs.Ytlobbphhhdklfaa
