/-
  NARROWER THAN 'FOR EVERY INPUT', by the rows' own cells (each row's printed sentence says how): FnExactTotalOf: laid · FnValidBond: laid · FnExactNextFlow: laid · FnExactFlowsOf: laid · FnFlowsOf: laid · FnFlowsOfEqual: laid · FnTotalOf: laid · FnExactFlowsAfter: laid · FnFlowsOfRate: laid · FnExactLifeOf: laid.
  DERIVED. THE GIVEN ROWS OF THIS SEAT. 10 by the template 'for every input the law returns true; each argument reads behind the call as it read before'; 0 by the template 'total and deterministic' (their statements: YtoidghdgebdfaaaDoorTotals.lean).
  GIVEN WITH THE SEED: the statements are not yours to turn. If you find one false, say at which input.
  Laid BY PROGRAM, IN A SANDBOX (cutbox-rows.mjs): the forced cells as the released guide's own fill.sh prints them over the translation cb8e6bf099883e58… (all of the seat's roots in one cut). By AI agents, Wed Nov 11 2026. No macro, syntax, notation, axiom, sorry.
-/
import Derived.Test.YtoidghdgebdfaaaDoorChecked
import GoSem.Claim
import GoSem.ClaimJoined
import GoSem.ClaimMapViews
import Derived.JoinedTies
import Derived.KernelRfl
namespace Go.Proofs.YtoidghdgebdfaaaDoor
/- THE CELL 'sum', in the pinned program and in every row, IS THE sha256 OF THE DUMP (.gsa) THAT YtoidghdgebdfaaaDoorProg.lean LOADS. Nothing in Lean hashes anything: it is a label: what it is worth is what the hold of that sum in a sandbox is worth. -/
noncomputable def Tryd.pinned : Pinned := { name := "ytoidghdgebdfaaadoor", sum := "cb8e6bf099883e5801997330d94650c35a05bd004e416166d43f93d499f7cfb3", checked := Tryd.checked }
namespace Rows
def none {H : Type} : Left H := { results := [], args := [] }

/- WHAT THE LISTED PACKAGE-LEVEL VARIABLES READ AS WHEN THE CALL BEGINS. Each datum BY PROGRAM (the guide's laid-datum.mjs) off the statement by which the dump's own 'gosem.cut.vars' lays the variable. In a bare row this is a premise. The card (YtoidghdgebdfaaaDoorCards.lean) ties it to the program's text. -/
def laid_loop_example_bonddesk_impl_monthDays {H : Type} : DataW H := .agg [.lit (.int .i64 31), .lit (.int .i64 28), .lit (.int .i64 31), .lit (.int .i64 30), .lit (.int .i64 31), .lit (.int .i64 30), .lit (.int .i64 31), .lit (.int .i64 31), .lit (.int .i64 30), .lit (.int .i64 31), .lit (.int .i64 30), .lit (.int .i64 31)]

/-- 'laws.FnExactTotalOf': WHATEVER THE INPUT: true; the input reads as it did. -/
def fnExactTotalOfSpec : ChangeSpec := { name := "fnExactTotalOf", vars := ["loop.example/bonddesk/impl.monthDays"], fn := fun _ => fun
  | [d, g1] => { results := [.lit (.bool true)], args := [d], vars := [g1] }
  | _ => none }
def fnExactTotalOfRow : OpenClaim := { program := "ytoidghdgebdfaaadoor", sum := "cb8e6bf099883e5801997330d94650c35a05bd004e416166d43f93d499f7cfb3", func := "loop.example/bonddesk/laws.FnExactTotalOf", spec := "fnExactTotalOf", unfollowed := true, recurses := true, named := ["loop.example/bonddesk/impl.monthDays"], apart := false, laid := [("loop.example/bonddesk/impl.monthDays", laid_loop_example_bonddesk_impl_monthDays)] }
def FnExactTotalOfSaid : Prop := fnExactTotalOfRow.holds Tryd.pinned (OpenSpec.ofChange fnExactTotalOfSpec)

/-- ITS FALSE NEIGHBOUR: 'it returns false'. Refute it at one input. -/
def fnExactTotalOfWrong : ChangeSpec := { name := "fnExactTotalOf", vars := ["loop.example/bonddesk/impl.monthDays"], fn := fun _ => fun
  | [d, g1] => { results := [.lit (.bool false)], args := [d], vars := [g1] }
  | _ => none }
def FnExactTotalOfWrongFalsely : Prop := fnExactTotalOfRow.holds Tryd.pinned (OpenSpec.ofChange fnExactTotalOfWrong)

/-- 'laws.FnValidBond': WHATEVER THE INPUT: true; the input reads as it did. -/
def fnValidBondSpec : ChangeSpec := { name := "fnValidBond", vars := ["loop.example/bonddesk/impl.monthDays"], fn := fun _ => fun
  | [d, g1] => { results := [.lit (.bool true)], args := [d], vars := [g1] }
  | _ => none }
def fnValidBondRow : OpenClaim := { program := "ytoidghdgebdfaaadoor", sum := "cb8e6bf099883e5801997330d94650c35a05bd004e416166d43f93d499f7cfb3", func := "loop.example/bonddesk/laws.FnValidBond", spec := "fnValidBond", unfollowed := true, recurses := true, named := ["loop.example/bonddesk/impl.monthDays"], apart := false, laid := [("loop.example/bonddesk/impl.monthDays", laid_loop_example_bonddesk_impl_monthDays)] }
def FnValidBondSaid : Prop := fnValidBondRow.holds Tryd.pinned (OpenSpec.ofChange fnValidBondSpec)

/-- ITS FALSE NEIGHBOUR: 'it returns false'. Refute it at one input. -/
def fnValidBondWrong : ChangeSpec := { name := "fnValidBond", vars := ["loop.example/bonddesk/impl.monthDays"], fn := fun _ => fun
  | [d, g1] => { results := [.lit (.bool false)], args := [d], vars := [g1] }
  | _ => none }
def FnValidBondWrongFalsely : Prop := fnValidBondRow.holds Tryd.pinned (OpenSpec.ofChange fnValidBondWrong)

/-- 'laws.FnExactNextFlow': WHATEVER THE INPUT: true; the input reads as it did. -/
def fnExactNextFlowSpec : ChangeSpec := { name := "fnExactNextFlow", vars := ["loop.example/bonddesk/impl.monthDays"], fn := fun _ => fun
  | [d1, d2, g1] => { results := [.lit (.bool true)], args := [d1, d2], vars := [g1] }
  | _ => none }
def fnExactNextFlowRow : OpenClaim := { program := "ytoidghdgebdfaaadoor", sum := "cb8e6bf099883e5801997330d94650c35a05bd004e416166d43f93d499f7cfb3", func := "loop.example/bonddesk/laws.FnExactNextFlow", spec := "fnExactNextFlow", unfollowed := true, recurses := true, named := ["loop.example/bonddesk/impl.monthDays"], apart := false, laid := [("loop.example/bonddesk/impl.monthDays", laid_loop_example_bonddesk_impl_monthDays)] }
def FnExactNextFlowSaid : Prop := fnExactNextFlowRow.holds Tryd.pinned (OpenSpec.ofChange fnExactNextFlowSpec)

/-- ITS FALSE NEIGHBOUR: 'it returns false'. Refute it at one input. -/
def fnExactNextFlowWrong : ChangeSpec := { name := "fnExactNextFlow", vars := ["loop.example/bonddesk/impl.monthDays"], fn := fun _ => fun
  | [d1, d2, g1] => { results := [.lit (.bool false)], args := [d1, d2], vars := [g1] }
  | _ => none }
def FnExactNextFlowWrongFalsely : Prop := fnExactNextFlowRow.holds Tryd.pinned (OpenSpec.ofChange fnExactNextFlowWrong)

/-- 'laws.FnExactFlowsOf': WHATEVER THE INPUT: true; the input reads as it did. -/
def fnExactFlowsOfSpec : ChangeSpec := { name := "fnExactFlowsOf", vars := ["loop.example/bonddesk/impl.monthDays"], fn := fun _ => fun
  | [d, g1] => { results := [.lit (.bool true)], args := [d], vars := [g1] }
  | _ => none }
def fnExactFlowsOfRow : OpenClaim := { program := "ytoidghdgebdfaaadoor", sum := "cb8e6bf099883e5801997330d94650c35a05bd004e416166d43f93d499f7cfb3", func := "loop.example/bonddesk/laws.FnExactFlowsOf", spec := "fnExactFlowsOf", unfollowed := true, recurses := true, named := ["loop.example/bonddesk/impl.monthDays"], apart := false, laid := [("loop.example/bonddesk/impl.monthDays", laid_loop_example_bonddesk_impl_monthDays)] }
def FnExactFlowsOfSaid : Prop := fnExactFlowsOfRow.holds Tryd.pinned (OpenSpec.ofChange fnExactFlowsOfSpec)

/-- ITS FALSE NEIGHBOUR: 'it returns false'. Refute it at one input. -/
def fnExactFlowsOfWrong : ChangeSpec := { name := "fnExactFlowsOf", vars := ["loop.example/bonddesk/impl.monthDays"], fn := fun _ => fun
  | [d, g1] => { results := [.lit (.bool false)], args := [d], vars := [g1] }
  | _ => none }
def FnExactFlowsOfWrongFalsely : Prop := fnExactFlowsOfRow.holds Tryd.pinned (OpenSpec.ofChange fnExactFlowsOfWrong)

/-- 'laws.FnFlowsOf': WHATEVER THE INPUT: true; the input reads as it did. -/
def fnFlowsOfSpec : ChangeSpec := { name := "fnFlowsOf", vars := ["loop.example/bonddesk/impl.monthDays"], fn := fun _ => fun
  | [d, g1] => { results := [.lit (.bool true)], args := [d], vars := [g1] }
  | _ => none }
def fnFlowsOfRow : OpenClaim := { program := "ytoidghdgebdfaaadoor", sum := "cb8e6bf099883e5801997330d94650c35a05bd004e416166d43f93d499f7cfb3", func := "loop.example/bonddesk/laws.FnFlowsOf", spec := "fnFlowsOf", unfollowed := true, recurses := true, named := ["loop.example/bonddesk/impl.monthDays"], apart := false, laid := [("loop.example/bonddesk/impl.monthDays", laid_loop_example_bonddesk_impl_monthDays)] }
def FnFlowsOfSaid : Prop := fnFlowsOfRow.holds Tryd.pinned (OpenSpec.ofChange fnFlowsOfSpec)

/-- ITS FALSE NEIGHBOUR: 'it returns false'. Refute it at one input. -/
def fnFlowsOfWrong : ChangeSpec := { name := "fnFlowsOf", vars := ["loop.example/bonddesk/impl.monthDays"], fn := fun _ => fun
  | [d, g1] => { results := [.lit (.bool false)], args := [d], vars := [g1] }
  | _ => none }
def FnFlowsOfWrongFalsely : Prop := fnFlowsOfRow.holds Tryd.pinned (OpenSpec.ofChange fnFlowsOfWrong)

/-- 'laws.FnFlowsOfEqual': WHATEVER THE INPUT: true; the input reads as it did. -/
def fnFlowsOfEqualSpec : ChangeSpec := { name := "fnFlowsOfEqual", vars := ["loop.example/bonddesk/impl.monthDays"], fn := fun _ => fun
  | [d, g1] => { results := [.lit (.bool true)], args := [d], vars := [g1] }
  | _ => none }
def fnFlowsOfEqualRow : OpenClaim := { program := "ytoidghdgebdfaaadoor", sum := "cb8e6bf099883e5801997330d94650c35a05bd004e416166d43f93d499f7cfb3", func := "loop.example/bonddesk/laws.FnFlowsOfEqual", spec := "fnFlowsOfEqual", unfollowed := true, recurses := true, named := ["loop.example/bonddesk/impl.monthDays"], apart := false, laid := [("loop.example/bonddesk/impl.monthDays", laid_loop_example_bonddesk_impl_monthDays)] }
def FnFlowsOfEqualSaid : Prop := fnFlowsOfEqualRow.holds Tryd.pinned (OpenSpec.ofChange fnFlowsOfEqualSpec)

/-- ITS FALSE NEIGHBOUR: 'it returns false'. Refute it at one input. -/
def fnFlowsOfEqualWrong : ChangeSpec := { name := "fnFlowsOfEqual", vars := ["loop.example/bonddesk/impl.monthDays"], fn := fun _ => fun
  | [d, g1] => { results := [.lit (.bool false)], args := [d], vars := [g1] }
  | _ => none }
def FnFlowsOfEqualWrongFalsely : Prop := fnFlowsOfEqualRow.holds Tryd.pinned (OpenSpec.ofChange fnFlowsOfEqualWrong)

/-- 'laws.FnTotalOf': WHATEVER THE INPUT: true; the input reads as it did. -/
def fnTotalOfSpec : ChangeSpec := { name := "fnTotalOf", vars := ["loop.example/bonddesk/impl.monthDays"], fn := fun _ => fun
  | [d, g1] => { results := [.lit (.bool true)], args := [d], vars := [g1] }
  | _ => none }
def fnTotalOfRow : OpenClaim := { program := "ytoidghdgebdfaaadoor", sum := "cb8e6bf099883e5801997330d94650c35a05bd004e416166d43f93d499f7cfb3", func := "loop.example/bonddesk/laws.FnTotalOf", spec := "fnTotalOf", unfollowed := true, recurses := true, named := ["loop.example/bonddesk/impl.monthDays"], apart := false, laid := [("loop.example/bonddesk/impl.monthDays", laid_loop_example_bonddesk_impl_monthDays)] }
def FnTotalOfSaid : Prop := fnTotalOfRow.holds Tryd.pinned (OpenSpec.ofChange fnTotalOfSpec)

/-- ITS FALSE NEIGHBOUR: 'it returns false'. Refute it at one input. -/
def fnTotalOfWrong : ChangeSpec := { name := "fnTotalOf", vars := ["loop.example/bonddesk/impl.monthDays"], fn := fun _ => fun
  | [d, g1] => { results := [.lit (.bool false)], args := [d], vars := [g1] }
  | _ => none }
def FnTotalOfWrongFalsely : Prop := fnTotalOfRow.holds Tryd.pinned (OpenSpec.ofChange fnTotalOfWrong)

/-- 'laws.FnExactFlowsAfter': WHATEVER THE INPUT: true; the input reads as it did. -/
def fnExactFlowsAfterSpec : ChangeSpec := { name := "fnExactFlowsAfter", vars := ["loop.example/bonddesk/impl.monthDays"], fn := fun _ => fun
  | [d1, d2, g1] => { results := [.lit (.bool true)], args := [d1, d2], vars := [g1] }
  | _ => none }
def fnExactFlowsAfterRow : OpenClaim := { program := "ytoidghdgebdfaaadoor", sum := "cb8e6bf099883e5801997330d94650c35a05bd004e416166d43f93d499f7cfb3", func := "loop.example/bonddesk/laws.FnExactFlowsAfter", spec := "fnExactFlowsAfter", unfollowed := true, recurses := true, named := ["loop.example/bonddesk/impl.monthDays"], apart := false, laid := [("loop.example/bonddesk/impl.monthDays", laid_loop_example_bonddesk_impl_monthDays)] }
def FnExactFlowsAfterSaid : Prop := fnExactFlowsAfterRow.holds Tryd.pinned (OpenSpec.ofChange fnExactFlowsAfterSpec)

/-- ITS FALSE NEIGHBOUR: 'it returns false'. Refute it at one input. -/
def fnExactFlowsAfterWrong : ChangeSpec := { name := "fnExactFlowsAfter", vars := ["loop.example/bonddesk/impl.monthDays"], fn := fun _ => fun
  | [d1, d2, g1] => { results := [.lit (.bool false)], args := [d1, d2], vars := [g1] }
  | _ => none }
def FnExactFlowsAfterWrongFalsely : Prop := fnExactFlowsAfterRow.holds Tryd.pinned (OpenSpec.ofChange fnExactFlowsAfterWrong)

/-- 'laws.FnFlowsOfRate': WHATEVER THE INPUT: true; the input reads as it did. -/
def fnFlowsOfRateSpec : ChangeSpec := { name := "fnFlowsOfRate", vars := ["loop.example/bonddesk/impl.monthDays"], fn := fun _ => fun
  | [d, g1] => { results := [.lit (.bool true)], args := [d], vars := [g1] }
  | _ => none }
def fnFlowsOfRateRow : OpenClaim := { program := "ytoidghdgebdfaaadoor", sum := "cb8e6bf099883e5801997330d94650c35a05bd004e416166d43f93d499f7cfb3", func := "loop.example/bonddesk/laws.FnFlowsOfRate", spec := "fnFlowsOfRate", unfollowed := true, recurses := true, named := ["loop.example/bonddesk/impl.monthDays"], apart := false, laid := [("loop.example/bonddesk/impl.monthDays", laid_loop_example_bonddesk_impl_monthDays)] }
def FnFlowsOfRateSaid : Prop := fnFlowsOfRateRow.holds Tryd.pinned (OpenSpec.ofChange fnFlowsOfRateSpec)

/-- ITS FALSE NEIGHBOUR: 'it returns false'. Refute it at one input. -/
def fnFlowsOfRateWrong : ChangeSpec := { name := "fnFlowsOfRate", vars := ["loop.example/bonddesk/impl.monthDays"], fn := fun _ => fun
  | [d, g1] => { results := [.lit (.bool false)], args := [d], vars := [g1] }
  | _ => none }
def FnFlowsOfRateWrongFalsely : Prop := fnFlowsOfRateRow.holds Tryd.pinned (OpenSpec.ofChange fnFlowsOfRateWrong)

/-- 'laws.FnExactLifeOf': WHATEVER THE INPUT: true; the input reads as it did. -/
def fnExactLifeOfSpec : ChangeSpec := { name := "fnExactLifeOf", vars := ["loop.example/bonddesk/impl.monthDays"], fn := fun _ => fun
  | [d1, d2, g1] => { results := [.lit (.bool true)], args := [d1, d2], vars := [g1] }
  | _ => none }
def fnExactLifeOfRow : OpenClaim := { program := "ytoidghdgebdfaaadoor", sum := "cb8e6bf099883e5801997330d94650c35a05bd004e416166d43f93d499f7cfb3", func := "loop.example/bonddesk/laws.FnExactLifeOf", spec := "fnExactLifeOf", unfollowed := true, recurses := true, named := ["loop.example/bonddesk/impl.monthDays"], apart := false, laid := [("loop.example/bonddesk/impl.monthDays", laid_loop_example_bonddesk_impl_monthDays)] }
def FnExactLifeOfSaid : Prop := fnExactLifeOfRow.holds Tryd.pinned (OpenSpec.ofChange fnExactLifeOfSpec)

/-- ITS FALSE NEIGHBOUR: 'it returns false'. Refute it at one input. -/
def fnExactLifeOfWrong : ChangeSpec := { name := "fnExactLifeOf", vars := ["loop.example/bonddesk/impl.monthDays"], fn := fun _ => fun
  | [d1, d2, g1] => { results := [.lit (.bool false)], args := [d1, d2], vars := [g1] }
  | _ => none }
def FnExactLifeOfWrongFalsely : Prop := fnExactLifeOfRow.holds Tryd.pinned (OpenSpec.ofChange fnExactLifeOfWrong)

/- THE SECOND FORM. 'bulk': how many values and letters a reading holds, each counted each time it is reached (what is shared counts as often as it is met; a slice's spare places count too). A statement '..UptoSaid' is the law's where the arguments, and the package variables that the reading takes, are together of bulk at most 1048576: NARROWER than '..Said'. Prove '..Said' where nothing that the law and all that it calls make is longer than what came in: it says more and counts as full. Else prove '..UptoSaid'. A law counts once. -/
mutual
def uptoBulk {H : Type} : DataW H → Nat
  | .lit (.string bytes) => bytes.length + 1
  | .lit _ => 1
  | .nil => 1
  | .ptr d => uptoBulk d + 1
  | .slice elems spare => uptoBulkAll elems + uptoBulkAll spare + 1
  | .agg parts => uptoBulkAll parts + 1
  | .iface _ d => uptoBulk d + 1
  | .map entries => uptoBulkEntries entries + 1
  | .held _ => 1
def uptoBulkAll {H : Type} : List (DataW H) → Nat
  | [] => 0
  | d :: r => uptoBulk d + uptoBulkAll r
def uptoBulkEntries {H : Type} : List (Lit × DataW H) → Nat
  | [] => 0
  | x :: r => uptoBulkEntry x + uptoBulkEntries r
def uptoBulkEntry {H : Type} : Lit × DataW H → Nat
  | (.string bytes, d) => bytes.length + uptoBulk d + 1
  | (_, d) => uptoBulk d + 1
 end
def uptoSmall : (H : Type) → List (DataW H) → Bool := fun _ ds => decide (uptoBulkAll ds ≤ 1048576)
def OpenSpec.upto (s : _root_.Go.ChangeSpec) : _root_.Go.OpenSpec := { _root_.Go.OpenSpec.ofChange s with cond := some uptoSmall }

/-- 'laws.FnExactTotalOf', WHERE WHAT IT READS IS OF BULK AT MOST 1048576: true; the input reads as it did. -/
def fnExactTotalOfUptoRow : OpenClaim := { program := "ytoidghdgebdfaaadoor", sum := "cb8e6bf099883e5801997330d94650c35a05bd004e416166d43f93d499f7cfb3", func := "loop.example/bonddesk/laws.FnExactTotalOf", spec := "fnExactTotalOf", unfollowed := true, recurses := true, named := ["loop.example/bonddesk/impl.monthDays"], apart := false, laid := [("loop.example/bonddesk/impl.monthDays", laid_loop_example_bonddesk_impl_monthDays)], narrowed := true }
def FnExactTotalOfUptoSaid : Prop := fnExactTotalOfUptoRow.holds Tryd.pinned (OpenSpec.upto fnExactTotalOfSpec)

/-- 'laws.FnValidBond', WHERE WHAT IT READS IS OF BULK AT MOST 1048576: true; the input reads as it did. -/
def fnValidBondUptoRow : OpenClaim := { program := "ytoidghdgebdfaaadoor", sum := "cb8e6bf099883e5801997330d94650c35a05bd004e416166d43f93d499f7cfb3", func := "loop.example/bonddesk/laws.FnValidBond", spec := "fnValidBond", unfollowed := true, recurses := true, named := ["loop.example/bonddesk/impl.monthDays"], apart := false, laid := [("loop.example/bonddesk/impl.monthDays", laid_loop_example_bonddesk_impl_monthDays)], narrowed := true }
def FnValidBondUptoSaid : Prop := fnValidBondUptoRow.holds Tryd.pinned (OpenSpec.upto fnValidBondSpec)

/-- 'laws.FnExactNextFlow', WHERE WHAT IT READS IS OF BULK AT MOST 1048576: true; the input reads as it did. -/
def fnExactNextFlowUptoRow : OpenClaim := { program := "ytoidghdgebdfaaadoor", sum := "cb8e6bf099883e5801997330d94650c35a05bd004e416166d43f93d499f7cfb3", func := "loop.example/bonddesk/laws.FnExactNextFlow", spec := "fnExactNextFlow", unfollowed := true, recurses := true, named := ["loop.example/bonddesk/impl.monthDays"], apart := false, laid := [("loop.example/bonddesk/impl.monthDays", laid_loop_example_bonddesk_impl_monthDays)], narrowed := true }
def FnExactNextFlowUptoSaid : Prop := fnExactNextFlowUptoRow.holds Tryd.pinned (OpenSpec.upto fnExactNextFlowSpec)

/-- 'laws.FnExactFlowsOf', WHERE WHAT IT READS IS OF BULK AT MOST 1048576: true; the input reads as it did. -/
def fnExactFlowsOfUptoRow : OpenClaim := { program := "ytoidghdgebdfaaadoor", sum := "cb8e6bf099883e5801997330d94650c35a05bd004e416166d43f93d499f7cfb3", func := "loop.example/bonddesk/laws.FnExactFlowsOf", spec := "fnExactFlowsOf", unfollowed := true, recurses := true, named := ["loop.example/bonddesk/impl.monthDays"], apart := false, laid := [("loop.example/bonddesk/impl.monthDays", laid_loop_example_bonddesk_impl_monthDays)], narrowed := true }
def FnExactFlowsOfUptoSaid : Prop := fnExactFlowsOfUptoRow.holds Tryd.pinned (OpenSpec.upto fnExactFlowsOfSpec)

/-- 'laws.FnFlowsOf', WHERE WHAT IT READS IS OF BULK AT MOST 1048576: true; the input reads as it did. -/
def fnFlowsOfUptoRow : OpenClaim := { program := "ytoidghdgebdfaaadoor", sum := "cb8e6bf099883e5801997330d94650c35a05bd004e416166d43f93d499f7cfb3", func := "loop.example/bonddesk/laws.FnFlowsOf", spec := "fnFlowsOf", unfollowed := true, recurses := true, named := ["loop.example/bonddesk/impl.monthDays"], apart := false, laid := [("loop.example/bonddesk/impl.monthDays", laid_loop_example_bonddesk_impl_monthDays)], narrowed := true }
def FnFlowsOfUptoSaid : Prop := fnFlowsOfUptoRow.holds Tryd.pinned (OpenSpec.upto fnFlowsOfSpec)

/-- 'laws.FnFlowsOfEqual', WHERE WHAT IT READS IS OF BULK AT MOST 1048576: true; the input reads as it did. -/
def fnFlowsOfEqualUptoRow : OpenClaim := { program := "ytoidghdgebdfaaadoor", sum := "cb8e6bf099883e5801997330d94650c35a05bd004e416166d43f93d499f7cfb3", func := "loop.example/bonddesk/laws.FnFlowsOfEqual", spec := "fnFlowsOfEqual", unfollowed := true, recurses := true, named := ["loop.example/bonddesk/impl.monthDays"], apart := false, laid := [("loop.example/bonddesk/impl.monthDays", laid_loop_example_bonddesk_impl_monthDays)], narrowed := true }
def FnFlowsOfEqualUptoSaid : Prop := fnFlowsOfEqualUptoRow.holds Tryd.pinned (OpenSpec.upto fnFlowsOfEqualSpec)

/-- 'laws.FnTotalOf', WHERE WHAT IT READS IS OF BULK AT MOST 1048576: true; the input reads as it did. -/
def fnTotalOfUptoRow : OpenClaim := { program := "ytoidghdgebdfaaadoor", sum := "cb8e6bf099883e5801997330d94650c35a05bd004e416166d43f93d499f7cfb3", func := "loop.example/bonddesk/laws.FnTotalOf", spec := "fnTotalOf", unfollowed := true, recurses := true, named := ["loop.example/bonddesk/impl.monthDays"], apart := false, laid := [("loop.example/bonddesk/impl.monthDays", laid_loop_example_bonddesk_impl_monthDays)], narrowed := true }
def FnTotalOfUptoSaid : Prop := fnTotalOfUptoRow.holds Tryd.pinned (OpenSpec.upto fnTotalOfSpec)

/-- 'laws.FnExactFlowsAfter', WHERE WHAT IT READS IS OF BULK AT MOST 1048576: true; the input reads as it did. -/
def fnExactFlowsAfterUptoRow : OpenClaim := { program := "ytoidghdgebdfaaadoor", sum := "cb8e6bf099883e5801997330d94650c35a05bd004e416166d43f93d499f7cfb3", func := "loop.example/bonddesk/laws.FnExactFlowsAfter", spec := "fnExactFlowsAfter", unfollowed := true, recurses := true, named := ["loop.example/bonddesk/impl.monthDays"], apart := false, laid := [("loop.example/bonddesk/impl.monthDays", laid_loop_example_bonddesk_impl_monthDays)], narrowed := true }
def FnExactFlowsAfterUptoSaid : Prop := fnExactFlowsAfterUptoRow.holds Tryd.pinned (OpenSpec.upto fnExactFlowsAfterSpec)

/-- 'laws.FnFlowsOfRate', WHERE WHAT IT READS IS OF BULK AT MOST 1048576: true; the input reads as it did. -/
def fnFlowsOfRateUptoRow : OpenClaim := { program := "ytoidghdgebdfaaadoor", sum := "cb8e6bf099883e5801997330d94650c35a05bd004e416166d43f93d499f7cfb3", func := "loop.example/bonddesk/laws.FnFlowsOfRate", spec := "fnFlowsOfRate", unfollowed := true, recurses := true, named := ["loop.example/bonddesk/impl.monthDays"], apart := false, laid := [("loop.example/bonddesk/impl.monthDays", laid_loop_example_bonddesk_impl_monthDays)], narrowed := true }
def FnFlowsOfRateUptoSaid : Prop := fnFlowsOfRateUptoRow.holds Tryd.pinned (OpenSpec.upto fnFlowsOfRateSpec)

/-- 'laws.FnExactLifeOf', WHERE WHAT IT READS IS OF BULK AT MOST 1048576: true; the input reads as it did. -/
def fnExactLifeOfUptoRow : OpenClaim := { program := "ytoidghdgebdfaaadoor", sum := "cb8e6bf099883e5801997330d94650c35a05bd004e416166d43f93d499f7cfb3", func := "loop.example/bonddesk/laws.FnExactLifeOf", spec := "fnExactLifeOf", unfollowed := true, recurses := true, named := ["loop.example/bonddesk/impl.monthDays"], apart := false, laid := [("loop.example/bonddesk/impl.monthDays", laid_loop_example_bonddesk_impl_monthDays)], narrowed := true }
def FnExactLifeOfUptoSaid : Prop := fnExactLifeOfUptoRow.holds Tryd.pinned (OpenSpec.upto fnExactLifeOfSpec)

end Rows
end Go.Proofs.YtoidghdgebdfaaaDoor
