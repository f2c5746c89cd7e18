/-
  NARROWER THAN 'FOR EVERY INPUT', by the rows' own cells (each row's printed sentence says how): FnExactDayOf: laid · FnExactAddMonths: laid · FnValidDate: laid · FnDateOf: laid · FnDayOf: laid · FnAddMonthsBack: laid · FnAddMonthsOrder: laid · FnAddMonths: laid · FnAddMonthsYear: laid.
  DERIVED. THE GIVEN ROWS OF THIS SEAT. 9 by the template 'for every input the law returns true; each argument reads behind the call as it read before'; 0 by the template 'total and deterministic' (their statements: YtddaaamahdnffaaDoorTotals.lean).
  GIVEN WITH THE SEED: the statements are not yours to turn. If you find one false, say at which input.
  Laid BY PROGRAM, IN A SANDBOX (cutbox-rows.mjs): the forced cells as the released guide's own fill.sh prints them over the translation de2b7734f5cd316e… (all of the seat's roots in one cut). By AI agents, Wed Nov 11 2026. No macro, syntax, notation, axiom, sorry.
-/
import Derived.Test.YtddaaamahdnffaaDoorChecked
import GoSem.Claim
import GoSem.ClaimJoined
import GoSem.ClaimMapViews
import Derived.JoinedTies
import Derived.KernelRfl
namespace Go.Proofs.YtddaaamahdnffaaDoor
/- THE CELL 'sum', in the pinned program and in every row, IS THE sha256 OF THE DUMP (.gsa) THAT YtddaaamahdnffaaDoorProg.lean LOADS. Nothing in Lean hashes anything: it is a label: what it is worth is what the hold of that sum in a sandbox is worth. -/
noncomputable def Tryd.pinned : Pinned := { name := "ytddaaamahdnffaadoor", sum := "de2b7734f5cd316e454a8f7c2b9ef9d0b3adea39c116956c8419af351666bdda", checked := Tryd.checked }
namespace Rows
def none {H : Type} : Left H := { results := [], args := [] }

/- WHAT THE LISTED PACKAGE-LEVEL VARIABLES READ AS WHEN THE CALL BEGINS. Each datum BY PROGRAM (the guide's laid-datum.mjs) off the statement by which the dump's own 'gosem.cut.vars' lays the variable. In a bare row this is a premise. The card (YtddaaamahdnffaaDoorCards.lean) ties it to the program's text. -/
def laid_loop_example_bonddesk_impl_monthDays {H : Type} : DataW H := .agg [.lit (.int .i64 31), .lit (.int .i64 28), .lit (.int .i64 31), .lit (.int .i64 30), .lit (.int .i64 31), .lit (.int .i64 30), .lit (.int .i64 31), .lit (.int .i64 31), .lit (.int .i64 30), .lit (.int .i64 31), .lit (.int .i64 30), .lit (.int .i64 31)]

/-- 'laws.FnExactDayOf': WHATEVER THE INPUT: true; the input reads as it did. -/
def fnExactDayOfSpec : ChangeSpec := { name := "fnExactDayOf", vars := ["loop.example/bonddesk/impl.monthDays"], fn := fun _ => fun
  | [d, g1] => { results := [.lit (.bool true)], args := [d], vars := [g1] }
  | _ => none }
def fnExactDayOfRow : OpenClaim := { program := "ytddaaamahdnffaadoor", sum := "de2b7734f5cd316e454a8f7c2b9ef9d0b3adea39c116956c8419af351666bdda", func := "loop.example/bonddesk/laws.FnExactDayOf", spec := "fnExactDayOf", named := ["loop.example/bonddesk/impl.monthDays"], apart := false, laid := [("loop.example/bonddesk/impl.monthDays", laid_loop_example_bonddesk_impl_monthDays)] }
def FnExactDayOfSaid : Prop := fnExactDayOfRow.holds Tryd.pinned (OpenSpec.ofChange fnExactDayOfSpec)

/-- ITS FALSE NEIGHBOUR: 'it returns false'. Refute it at one input. -/
def fnExactDayOfWrong : ChangeSpec := { name := "fnExactDayOf", vars := ["loop.example/bonddesk/impl.monthDays"], fn := fun _ => fun
  | [d, g1] => { results := [.lit (.bool false)], args := [d], vars := [g1] }
  | _ => none }
def FnExactDayOfWrongFalsely : Prop := fnExactDayOfRow.holds Tryd.pinned (OpenSpec.ofChange fnExactDayOfWrong)

/-- 'laws.FnExactAddMonths': WHATEVER THE INPUT: true; the input reads as it did. -/
def fnExactAddMonthsSpec : ChangeSpec := { name := "fnExactAddMonths", vars := ["loop.example/bonddesk/impl.monthDays"], fn := fun _ => fun
  | [d1, d2, g1] => { results := [.lit (.bool true)], args := [d1, d2], vars := [g1] }
  | _ => none }
def fnExactAddMonthsRow : OpenClaim := { program := "ytddaaamahdnffaadoor", sum := "de2b7734f5cd316e454a8f7c2b9ef9d0b3adea39c116956c8419af351666bdda", func := "loop.example/bonddesk/laws.FnExactAddMonths", spec := "fnExactAddMonths", named := ["loop.example/bonddesk/impl.monthDays"], apart := false, laid := [("loop.example/bonddesk/impl.monthDays", laid_loop_example_bonddesk_impl_monthDays)] }
def FnExactAddMonthsSaid : Prop := fnExactAddMonthsRow.holds Tryd.pinned (OpenSpec.ofChange fnExactAddMonthsSpec)

/-- ITS FALSE NEIGHBOUR: 'it returns false'. Refute it at one input. -/
def fnExactAddMonthsWrong : ChangeSpec := { name := "fnExactAddMonths", vars := ["loop.example/bonddesk/impl.monthDays"], fn := fun _ => fun
  | [d1, d2, g1] => { results := [.lit (.bool false)], args := [d1, d2], vars := [g1] }
  | _ => none }
def FnExactAddMonthsWrongFalsely : Prop := fnExactAddMonthsRow.holds Tryd.pinned (OpenSpec.ofChange fnExactAddMonthsWrong)

/-- 'laws.FnValidDate': WHATEVER THE INPUT: true; the input reads as it did. -/
def fnValidDateSpec : ChangeSpec := { name := "fnValidDate", vars := ["loop.example/bonddesk/impl.monthDays"], fn := fun _ => fun
  | [d, g1] => { results := [.lit (.bool true)], args := [d], vars := [g1] }
  | _ => none }
def fnValidDateRow : OpenClaim := { program := "ytddaaamahdnffaadoor", sum := "de2b7734f5cd316e454a8f7c2b9ef9d0b3adea39c116956c8419af351666bdda", func := "loop.example/bonddesk/laws.FnValidDate", spec := "fnValidDate", named := ["loop.example/bonddesk/impl.monthDays"], apart := false, laid := [("loop.example/bonddesk/impl.monthDays", laid_loop_example_bonddesk_impl_monthDays)] }
def FnValidDateSaid : Prop := fnValidDateRow.holds Tryd.pinned (OpenSpec.ofChange fnValidDateSpec)

/-- ITS FALSE NEIGHBOUR: 'it returns false'. Refute it at one input. -/
def fnValidDateWrong : ChangeSpec := { name := "fnValidDate", vars := ["loop.example/bonddesk/impl.monthDays"], fn := fun _ => fun
  | [d, g1] => { results := [.lit (.bool false)], args := [d], vars := [g1] }
  | _ => none }
def FnValidDateWrongFalsely : Prop := fnValidDateRow.holds Tryd.pinned (OpenSpec.ofChange fnValidDateWrong)

/-- 'laws.FnDateOf': WHATEVER THE INPUT: true; the input reads as it did. -/
def fnDateOfSpec : ChangeSpec := { name := "fnDateOf", vars := ["loop.example/bonddesk/impl.monthDays"], fn := fun _ => fun
  | [d, g1] => { results := [.lit (.bool true)], args := [d], vars := [g1] }
  | _ => none }
def fnDateOfRow : OpenClaim := { program := "ytddaaamahdnffaadoor", sum := "de2b7734f5cd316e454a8f7c2b9ef9d0b3adea39c116956c8419af351666bdda", func := "loop.example/bonddesk/laws.FnDateOf", spec := "fnDateOf", named := ["loop.example/bonddesk/impl.monthDays"], apart := false, laid := [("loop.example/bonddesk/impl.monthDays", laid_loop_example_bonddesk_impl_monthDays)] }
def FnDateOfSaid : Prop := fnDateOfRow.holds Tryd.pinned (OpenSpec.ofChange fnDateOfSpec)

/-- ITS FALSE NEIGHBOUR: 'it returns false'. Refute it at one input. -/
def fnDateOfWrong : ChangeSpec := { name := "fnDateOf", vars := ["loop.example/bonddesk/impl.monthDays"], fn := fun _ => fun
  | [d, g1] => { results := [.lit (.bool false)], args := [d], vars := [g1] }
  | _ => none }
def FnDateOfWrongFalsely : Prop := fnDateOfRow.holds Tryd.pinned (OpenSpec.ofChange fnDateOfWrong)

/-- 'laws.FnDayOf': WHATEVER THE INPUT: true; the input reads as it did. -/
def fnDayOfSpec : ChangeSpec := { name := "fnDayOf", vars := ["loop.example/bonddesk/impl.monthDays"], fn := fun _ => fun
  | [d, g1] => { results := [.lit (.bool true)], args := [d], vars := [g1] }
  | _ => none }
def fnDayOfRow : OpenClaim := { program := "ytddaaamahdnffaadoor", sum := "de2b7734f5cd316e454a8f7c2b9ef9d0b3adea39c116956c8419af351666bdda", func := "loop.example/bonddesk/laws.FnDayOf", spec := "fnDayOf", named := ["loop.example/bonddesk/impl.monthDays"], apart := false, laid := [("loop.example/bonddesk/impl.monthDays", laid_loop_example_bonddesk_impl_monthDays)] }
def FnDayOfSaid : Prop := fnDayOfRow.holds Tryd.pinned (OpenSpec.ofChange fnDayOfSpec)

/-- ITS FALSE NEIGHBOUR: 'it returns false'. Refute it at one input. -/
def fnDayOfWrong : ChangeSpec := { name := "fnDayOf", vars := ["loop.example/bonddesk/impl.monthDays"], fn := fun _ => fun
  | [d, g1] => { results := [.lit (.bool false)], args := [d], vars := [g1] }
  | _ => none }
def FnDayOfWrongFalsely : Prop := fnDayOfRow.holds Tryd.pinned (OpenSpec.ofChange fnDayOfWrong)

/-- 'laws.FnAddMonthsBack': WHATEVER THE INPUT: true; the input reads as it did. -/
def fnAddMonthsBackSpec : ChangeSpec := { name := "fnAddMonthsBack", vars := ["loop.example/bonddesk/impl.monthDays"], fn := fun _ => fun
  | [d, g1] => { results := [.lit (.bool true)], args := [d], vars := [g1] }
  | _ => none }
def fnAddMonthsBackRow : OpenClaim := { program := "ytddaaamahdnffaadoor", sum := "de2b7734f5cd316e454a8f7c2b9ef9d0b3adea39c116956c8419af351666bdda", func := "loop.example/bonddesk/laws.FnAddMonthsBack", spec := "fnAddMonthsBack", named := ["loop.example/bonddesk/impl.monthDays"], apart := false, laid := [("loop.example/bonddesk/impl.monthDays", laid_loop_example_bonddesk_impl_monthDays)] }
def FnAddMonthsBackSaid : Prop := fnAddMonthsBackRow.holds Tryd.pinned (OpenSpec.ofChange fnAddMonthsBackSpec)

/-- ITS FALSE NEIGHBOUR: 'it returns false'. Refute it at one input. -/
def fnAddMonthsBackWrong : ChangeSpec := { name := "fnAddMonthsBack", vars := ["loop.example/bonddesk/impl.monthDays"], fn := fun _ => fun
  | [d, g1] => { results := [.lit (.bool false)], args := [d], vars := [g1] }
  | _ => none }
def FnAddMonthsBackWrongFalsely : Prop := fnAddMonthsBackRow.holds Tryd.pinned (OpenSpec.ofChange fnAddMonthsBackWrong)

/-- 'laws.FnAddMonthsOrder': WHATEVER THE INPUT: true; the input reads as it did. -/
def fnAddMonthsOrderSpec : ChangeSpec := { name := "fnAddMonthsOrder", vars := ["loop.example/bonddesk/impl.monthDays"], fn := fun _ => fun
  | [d, g1] => { results := [.lit (.bool true)], args := [d], vars := [g1] }
  | _ => none }
def fnAddMonthsOrderRow : OpenClaim := { program := "ytddaaamahdnffaadoor", sum := "de2b7734f5cd316e454a8f7c2b9ef9d0b3adea39c116956c8419af351666bdda", func := "loop.example/bonddesk/laws.FnAddMonthsOrder", spec := "fnAddMonthsOrder", named := ["loop.example/bonddesk/impl.monthDays"], apart := false, laid := [("loop.example/bonddesk/impl.monthDays", laid_loop_example_bonddesk_impl_monthDays)] }
def FnAddMonthsOrderSaid : Prop := fnAddMonthsOrderRow.holds Tryd.pinned (OpenSpec.ofChange fnAddMonthsOrderSpec)

/-- ITS FALSE NEIGHBOUR: 'it returns false'. Refute it at one input. -/
def fnAddMonthsOrderWrong : ChangeSpec := { name := "fnAddMonthsOrder", vars := ["loop.example/bonddesk/impl.monthDays"], fn := fun _ => fun
  | [d, g1] => { results := [.lit (.bool false)], args := [d], vars := [g1] }
  | _ => none }
def FnAddMonthsOrderWrongFalsely : Prop := fnAddMonthsOrderRow.holds Tryd.pinned (OpenSpec.ofChange fnAddMonthsOrderWrong)

/-- 'laws.FnAddMonths': WHATEVER THE INPUT: true; the input reads as it did. -/
def fnAddMonthsSpec : ChangeSpec := { name := "fnAddMonths", vars := ["loop.example/bonddesk/impl.monthDays"], fn := fun _ => fun
  | [d, g1] => { results := [.lit (.bool true)], args := [d], vars := [g1] }
  | _ => none }
def fnAddMonthsRow : OpenClaim := { program := "ytddaaamahdnffaadoor", sum := "de2b7734f5cd316e454a8f7c2b9ef9d0b3adea39c116956c8419af351666bdda", func := "loop.example/bonddesk/laws.FnAddMonths", spec := "fnAddMonths", named := ["loop.example/bonddesk/impl.monthDays"], apart := false, laid := [("loop.example/bonddesk/impl.monthDays", laid_loop_example_bonddesk_impl_monthDays)] }
def FnAddMonthsSaid : Prop := fnAddMonthsRow.holds Tryd.pinned (OpenSpec.ofChange fnAddMonthsSpec)

/-- ITS FALSE NEIGHBOUR: 'it returns false'. Refute it at one input. -/
def fnAddMonthsWrong : ChangeSpec := { name := "fnAddMonths", vars := ["loop.example/bonddesk/impl.monthDays"], fn := fun _ => fun
  | [d, g1] => { results := [.lit (.bool false)], args := [d], vars := [g1] }
  | _ => none }
def FnAddMonthsWrongFalsely : Prop := fnAddMonthsRow.holds Tryd.pinned (OpenSpec.ofChange fnAddMonthsWrong)

/-- 'laws.FnAddMonthsYear': WHATEVER THE INPUT: true; the input reads as it did. -/
def fnAddMonthsYearSpec : ChangeSpec := { name := "fnAddMonthsYear", vars := ["loop.example/bonddesk/impl.monthDays"], fn := fun _ => fun
  | [d, g1] => { results := [.lit (.bool true)], args := [d], vars := [g1] }
  | _ => none }
def fnAddMonthsYearRow : OpenClaim := { program := "ytddaaamahdnffaadoor", sum := "de2b7734f5cd316e454a8f7c2b9ef9d0b3adea39c116956c8419af351666bdda", func := "loop.example/bonddesk/laws.FnAddMonthsYear", spec := "fnAddMonthsYear", named := ["loop.example/bonddesk/impl.monthDays"], apart := false, laid := [("loop.example/bonddesk/impl.monthDays", laid_loop_example_bonddesk_impl_monthDays)] }
def FnAddMonthsYearSaid : Prop := fnAddMonthsYearRow.holds Tryd.pinned (OpenSpec.ofChange fnAddMonthsYearSpec)

/-- ITS FALSE NEIGHBOUR: 'it returns false'. Refute it at one input. -/
def fnAddMonthsYearWrong : ChangeSpec := { name := "fnAddMonthsYear", vars := ["loop.example/bonddesk/impl.monthDays"], fn := fun _ => fun
  | [d, g1] => { results := [.lit (.bool false)], args := [d], vars := [g1] }
  | _ => none }
def FnAddMonthsYearWrongFalsely : Prop := fnAddMonthsYearRow.holds Tryd.pinned (OpenSpec.ofChange fnAddMonthsYearWrong)

/- THE SECOND FORM. 'bulk': how many values and letters a reading holds, each counted each time it is reached (what is shared counts as often as it is met; a slice's spare places count too). A statement '..UptoSaid' is the law's where the arguments, and the package variables that the reading takes, are together of bulk at most 1048576: NARROWER than '..Said'. Prove '..Said' where nothing that the law and all that it calls make is longer than what came in: it says more and counts as full. Else prove '..UptoSaid'. A law counts once. -/
mutual
def uptoBulk {H : Type} : DataW H → Nat
  | .lit (.string bytes) => bytes.length + 1
  | .lit _ => 1
  | .nil => 1
  | .ptr d => uptoBulk d + 1
  | .slice elems spare => uptoBulkAll elems + uptoBulkAll spare + 1
  | .agg parts => uptoBulkAll parts + 1
  | .iface _ d => uptoBulk d + 1
  | .map entries => uptoBulkEntries entries + 1
  | .held _ => 1
def uptoBulkAll {H : Type} : List (DataW H) → Nat
  | [] => 0
  | d :: r => uptoBulk d + uptoBulkAll r
def uptoBulkEntries {H : Type} : List (Lit × DataW H) → Nat
  | [] => 0
  | x :: r => uptoBulkEntry x + uptoBulkEntries r
def uptoBulkEntry {H : Type} : Lit × DataW H → Nat
  | (.string bytes, d) => bytes.length + uptoBulk d + 1
  | (_, d) => uptoBulk d + 1
 end
def uptoSmall : (H : Type) → List (DataW H) → Bool := fun _ ds => decide (uptoBulkAll ds ≤ 1048576)
def OpenSpec.upto (s : _root_.Go.ChangeSpec) : _root_.Go.OpenSpec := { _root_.Go.OpenSpec.ofChange s with cond := some uptoSmall }

/-- 'laws.FnExactDayOf', WHERE WHAT IT READS IS OF BULK AT MOST 1048576: true; the input reads as it did. -/
def fnExactDayOfUptoRow : OpenClaim := { program := "ytddaaamahdnffaadoor", sum := "de2b7734f5cd316e454a8f7c2b9ef9d0b3adea39c116956c8419af351666bdda", func := "loop.example/bonddesk/laws.FnExactDayOf", spec := "fnExactDayOf", named := ["loop.example/bonddesk/impl.monthDays"], apart := false, laid := [("loop.example/bonddesk/impl.monthDays", laid_loop_example_bonddesk_impl_monthDays)], narrowed := true }
def FnExactDayOfUptoSaid : Prop := fnExactDayOfUptoRow.holds Tryd.pinned (OpenSpec.upto fnExactDayOfSpec)

/-- 'laws.FnExactAddMonths', WHERE WHAT IT READS IS OF BULK AT MOST 1048576: true; the input reads as it did. -/
def fnExactAddMonthsUptoRow : OpenClaim := { program := "ytddaaamahdnffaadoor", sum := "de2b7734f5cd316e454a8f7c2b9ef9d0b3adea39c116956c8419af351666bdda", func := "loop.example/bonddesk/laws.FnExactAddMonths", spec := "fnExactAddMonths", named := ["loop.example/bonddesk/impl.monthDays"], apart := false, laid := [("loop.example/bonddesk/impl.monthDays", laid_loop_example_bonddesk_impl_monthDays)], narrowed := true }
def FnExactAddMonthsUptoSaid : Prop := fnExactAddMonthsUptoRow.holds Tryd.pinned (OpenSpec.upto fnExactAddMonthsSpec)

/-- 'laws.FnValidDate', WHERE WHAT IT READS IS OF BULK AT MOST 1048576: true; the input reads as it did. -/
def fnValidDateUptoRow : OpenClaim := { program := "ytddaaamahdnffaadoor", sum := "de2b7734f5cd316e454a8f7c2b9ef9d0b3adea39c116956c8419af351666bdda", func := "loop.example/bonddesk/laws.FnValidDate", spec := "fnValidDate", named := ["loop.example/bonddesk/impl.monthDays"], apart := false, laid := [("loop.example/bonddesk/impl.monthDays", laid_loop_example_bonddesk_impl_monthDays)], narrowed := true }
def FnValidDateUptoSaid : Prop := fnValidDateUptoRow.holds Tryd.pinned (OpenSpec.upto fnValidDateSpec)

/-- 'laws.FnDateOf', WHERE WHAT IT READS IS OF BULK AT MOST 1048576: true; the input reads as it did. -/
def fnDateOfUptoRow : OpenClaim := { program := "ytddaaamahdnffaadoor", sum := "de2b7734f5cd316e454a8f7c2b9ef9d0b3adea39c116956c8419af351666bdda", func := "loop.example/bonddesk/laws.FnDateOf", spec := "fnDateOf", named := ["loop.example/bonddesk/impl.monthDays"], apart := false, laid := [("loop.example/bonddesk/impl.monthDays", laid_loop_example_bonddesk_impl_monthDays)], narrowed := true }
def FnDateOfUptoSaid : Prop := fnDateOfUptoRow.holds Tryd.pinned (OpenSpec.upto fnDateOfSpec)

/-- 'laws.FnDayOf', WHERE WHAT IT READS IS OF BULK AT MOST 1048576: true; the input reads as it did. -/
def fnDayOfUptoRow : OpenClaim := { program := "ytddaaamahdnffaadoor", sum := "de2b7734f5cd316e454a8f7c2b9ef9d0b3adea39c116956c8419af351666bdda", func := "loop.example/bonddesk/laws.FnDayOf", spec := "fnDayOf", named := ["loop.example/bonddesk/impl.monthDays"], apart := false, laid := [("loop.example/bonddesk/impl.monthDays", laid_loop_example_bonddesk_impl_monthDays)], narrowed := true }
def FnDayOfUptoSaid : Prop := fnDayOfUptoRow.holds Tryd.pinned (OpenSpec.upto fnDayOfSpec)

/-- 'laws.FnAddMonthsBack', WHERE WHAT IT READS IS OF BULK AT MOST 1048576: true; the input reads as it did. -/
def fnAddMonthsBackUptoRow : OpenClaim := { program := "ytddaaamahdnffaadoor", sum := "de2b7734f5cd316e454a8f7c2b9ef9d0b3adea39c116956c8419af351666bdda", func := "loop.example/bonddesk/laws.FnAddMonthsBack", spec := "fnAddMonthsBack", named := ["loop.example/bonddesk/impl.monthDays"], apart := false, laid := [("loop.example/bonddesk/impl.monthDays", laid_loop_example_bonddesk_impl_monthDays)], narrowed := true }
def FnAddMonthsBackUptoSaid : Prop := fnAddMonthsBackUptoRow.holds Tryd.pinned (OpenSpec.upto fnAddMonthsBackSpec)

/-- 'laws.FnAddMonthsOrder', WHERE WHAT IT READS IS OF BULK AT MOST 1048576: true; the input reads as it did. -/
def fnAddMonthsOrderUptoRow : OpenClaim := { program := "ytddaaamahdnffaadoor", sum := "de2b7734f5cd316e454a8f7c2b9ef9d0b3adea39c116956c8419af351666bdda", func := "loop.example/bonddesk/laws.FnAddMonthsOrder", spec := "fnAddMonthsOrder", named := ["loop.example/bonddesk/impl.monthDays"], apart := false, laid := [("loop.example/bonddesk/impl.monthDays", laid_loop_example_bonddesk_impl_monthDays)], narrowed := true }
def FnAddMonthsOrderUptoSaid : Prop := fnAddMonthsOrderUptoRow.holds Tryd.pinned (OpenSpec.upto fnAddMonthsOrderSpec)

/-- 'laws.FnAddMonths', WHERE WHAT IT READS IS OF BULK AT MOST 1048576: true; the input reads as it did. -/
def fnAddMonthsUptoRow : OpenClaim := { program := "ytddaaamahdnffaadoor", sum := "de2b7734f5cd316e454a8f7c2b9ef9d0b3adea39c116956c8419af351666bdda", func := "loop.example/bonddesk/laws.FnAddMonths", spec := "fnAddMonths", named := ["loop.example/bonddesk/impl.monthDays"], apart := false, laid := [("loop.example/bonddesk/impl.monthDays", laid_loop_example_bonddesk_impl_monthDays)], narrowed := true }
def FnAddMonthsUptoSaid : Prop := fnAddMonthsUptoRow.holds Tryd.pinned (OpenSpec.upto fnAddMonthsSpec)

/-- 'laws.FnAddMonthsYear', WHERE WHAT IT READS IS OF BULK AT MOST 1048576: true; the input reads as it did. -/
def fnAddMonthsYearUptoRow : OpenClaim := { program := "ytddaaamahdnffaadoor", sum := "de2b7734f5cd316e454a8f7c2b9ef9d0b3adea39c116956c8419af351666bdda", func := "loop.example/bonddesk/laws.FnAddMonthsYear", spec := "fnAddMonthsYear", named := ["loop.example/bonddesk/impl.monthDays"], apart := false, laid := [("loop.example/bonddesk/impl.monthDays", laid_loop_example_bonddesk_impl_monthDays)], narrowed := true }
def FnAddMonthsYearUptoSaid : Prop := fnAddMonthsYearUptoRow.holds Tryd.pinned (OpenSpec.upto fnAddMonthsYearSpec)

end Rows
end Go.Proofs.YtddaaamahdnffaaDoor
