/-
  NARROWER THAN 'FOR EVERY INPUT', by the rows' own cells (each row's printed sentence says how): FnExactValidBond: laid · FnExactScheduleOf: laid · FnScheduleOf: laid · FnScheduleOfEnd: laid · FnScheduleOfFiner: laid · FnScheduleOfWhole: laid.
  DERIVED. THE GIVEN ROWS OF THIS SEAT. 6 by the template 'for every input the law returns true; each argument reads behind the call as it read before'; 0 by the template 'total and deterministic' (their statements: YtnjiechfjnjjcaaDoorTotals.lean).
  GIVEN WITH THE SEED: the statements are not yours to turn. If you find one false, say at which input.
  Laid BY PROGRAM, IN A SANDBOX (cutbox-rows.mjs): the forced cells as the released guide's own fill.sh prints them over the translation c3230a847f043dc8… (all of the seat's roots in one cut). By AI agents, Wed Nov 11 2026. No macro, syntax, notation, axiom, sorry.
-/
import Derived.Test.YtnjiechfjnjjcaaDoorChecked
import GoSem.Claim
import GoSem.ClaimJoined
import GoSem.ClaimMapViews
import Derived.JoinedTies
import Derived.KernelRfl
namespace Go.Proofs.YtnjiechfjnjjcaaDoor
/- THE CELL 'sum', in the pinned program and in every row, IS THE sha256 OF THE DUMP (.gsa) THAT YtnjiechfjnjjcaaDoorProg.lean LOADS. Nothing in Lean hashes anything: it is a label: what it is worth is what the hold of that sum in a sandbox is worth. -/
noncomputable def Tryd.pinned : Pinned := { name := "ytnjiechfjnjjcaadoor", sum := "c3230a847f043dc841e33fdda753ed314bf4833b8f96c3e33b4d90237e55b1ae", checked := Tryd.checked }
namespace Rows
def none {H : Type} : Left H := { results := [], args := [] }

/- WHAT THE LISTED PACKAGE-LEVEL VARIABLES READ AS WHEN THE CALL BEGINS. Each datum BY PROGRAM (the guide's laid-datum.mjs) off the statement by which the dump's own 'gosem.cut.vars' lays the variable. In a bare row this is a premise. The card (YtnjiechfjnjjcaaDoorCards.lean) ties it to the program's text. -/
def laid_loop_example_bonddesk_impl_monthDays {H : Type} : DataW H := .agg [.lit (.int .i64 31), .lit (.int .i64 28), .lit (.int .i64 31), .lit (.int .i64 30), .lit (.int .i64 31), .lit (.int .i64 30), .lit (.int .i64 31), .lit (.int .i64 31), .lit (.int .i64 30), .lit (.int .i64 31), .lit (.int .i64 30), .lit (.int .i64 31)]

/-- 'laws.FnExactValidBond': WHATEVER THE INPUT: true; the input reads as it did. -/
def fnExactValidBondSpec : ChangeSpec := { name := "fnExactValidBond", vars := ["loop.example/bonddesk/impl.monthDays"], fn := fun _ => fun
  | [d, g1] => { results := [.lit (.bool true)], args := [d], vars := [g1] }
  | _ => none }
def fnExactValidBondRow : OpenClaim := { program := "ytnjiechfjnjjcaadoor", sum := "c3230a847f043dc841e33fdda753ed314bf4833b8f96c3e33b4d90237e55b1ae", func := "loop.example/bonddesk/laws.FnExactValidBond", spec := "fnExactValidBond", unfollowed := true, recurses := true, named := ["loop.example/bonddesk/impl.monthDays"], apart := false, laid := [("loop.example/bonddesk/impl.monthDays", laid_loop_example_bonddesk_impl_monthDays)] }
def FnExactValidBondSaid : Prop := fnExactValidBondRow.holds Tryd.pinned (OpenSpec.ofChange fnExactValidBondSpec)

/-- ITS FALSE NEIGHBOUR: 'it returns false'. Refute it at one input. -/
def fnExactValidBondWrong : ChangeSpec := { name := "fnExactValidBond", vars := ["loop.example/bonddesk/impl.monthDays"], fn := fun _ => fun
  | [d, g1] => { results := [.lit (.bool false)], args := [d], vars := [g1] }
  | _ => none }
def FnExactValidBondWrongFalsely : Prop := fnExactValidBondRow.holds Tryd.pinned (OpenSpec.ofChange fnExactValidBondWrong)

/-- 'laws.FnExactScheduleOf': WHATEVER THE INPUT: true; the input reads as it did. -/
def fnExactScheduleOfSpec : ChangeSpec := { name := "fnExactScheduleOf", vars := ["loop.example/bonddesk/impl.monthDays"], fn := fun _ => fun
  | [d1, d2, d3, g1] => { results := [.lit (.bool true)], args := [d1, d2, d3], vars := [g1] }
  | _ => none }
def fnExactScheduleOfRow : OpenClaim := { program := "ytnjiechfjnjjcaadoor", sum := "c3230a847f043dc841e33fdda753ed314bf4833b8f96c3e33b4d90237e55b1ae", func := "loop.example/bonddesk/laws.FnExactScheduleOf", spec := "fnExactScheduleOf", unfollowed := true, recurses := true, named := ["loop.example/bonddesk/impl.monthDays"], apart := false, laid := [("loop.example/bonddesk/impl.monthDays", laid_loop_example_bonddesk_impl_monthDays)] }
def FnExactScheduleOfSaid : Prop := fnExactScheduleOfRow.holds Tryd.pinned (OpenSpec.ofChange fnExactScheduleOfSpec)

/-- ITS FALSE NEIGHBOUR: 'it returns false'. Refute it at one input. -/
def fnExactScheduleOfWrong : ChangeSpec := { name := "fnExactScheduleOf", vars := ["loop.example/bonddesk/impl.monthDays"], fn := fun _ => fun
  | [d1, d2, d3, g1] => { results := [.lit (.bool false)], args := [d1, d2, d3], vars := [g1] }
  | _ => none }
def FnExactScheduleOfWrongFalsely : Prop := fnExactScheduleOfRow.holds Tryd.pinned (OpenSpec.ofChange fnExactScheduleOfWrong)

/-- 'laws.FnScheduleOf': WHATEVER THE INPUT: true; the input reads as it did. -/
def fnScheduleOfSpec : ChangeSpec := { name := "fnScheduleOf", vars := ["loop.example/bonddesk/impl.monthDays"], fn := fun _ => fun
  | [d, g1] => { results := [.lit (.bool true)], args := [d], vars := [g1] }
  | _ => none }
def fnScheduleOfRow : OpenClaim := { program := "ytnjiechfjnjjcaadoor", sum := "c3230a847f043dc841e33fdda753ed314bf4833b8f96c3e33b4d90237e55b1ae", func := "loop.example/bonddesk/laws.FnScheduleOf", spec := "fnScheduleOf", unfollowed := true, recurses := true, named := ["loop.example/bonddesk/impl.monthDays"], apart := false, laid := [("loop.example/bonddesk/impl.monthDays", laid_loop_example_bonddesk_impl_monthDays)] }
def FnScheduleOfSaid : Prop := fnScheduleOfRow.holds Tryd.pinned (OpenSpec.ofChange fnScheduleOfSpec)

/-- ITS FALSE NEIGHBOUR: 'it returns false'. Refute it at one input. -/
def fnScheduleOfWrong : ChangeSpec := { name := "fnScheduleOf", vars := ["loop.example/bonddesk/impl.monthDays"], fn := fun _ => fun
  | [d, g1] => { results := [.lit (.bool false)], args := [d], vars := [g1] }
  | _ => none }
def FnScheduleOfWrongFalsely : Prop := fnScheduleOfRow.holds Tryd.pinned (OpenSpec.ofChange fnScheduleOfWrong)

/-- 'laws.FnScheduleOfEnd': WHATEVER THE INPUT: true; the input reads as it did. -/
def fnScheduleOfEndSpec : ChangeSpec := { name := "fnScheduleOfEnd", vars := ["loop.example/bonddesk/impl.monthDays"], fn := fun _ => fun
  | [d, g1] => { results := [.lit (.bool true)], args := [d], vars := [g1] }
  | _ => none }
def fnScheduleOfEndRow : OpenClaim := { program := "ytnjiechfjnjjcaadoor", sum := "c3230a847f043dc841e33fdda753ed314bf4833b8f96c3e33b4d90237e55b1ae", func := "loop.example/bonddesk/laws.FnScheduleOfEnd", spec := "fnScheduleOfEnd", unfollowed := true, recurses := true, named := ["loop.example/bonddesk/impl.monthDays"], apart := false, laid := [("loop.example/bonddesk/impl.monthDays", laid_loop_example_bonddesk_impl_monthDays)] }
def FnScheduleOfEndSaid : Prop := fnScheduleOfEndRow.holds Tryd.pinned (OpenSpec.ofChange fnScheduleOfEndSpec)

/-- ITS FALSE NEIGHBOUR: 'it returns false'. Refute it at one input. -/
def fnScheduleOfEndWrong : ChangeSpec := { name := "fnScheduleOfEnd", vars := ["loop.example/bonddesk/impl.monthDays"], fn := fun _ => fun
  | [d, g1] => { results := [.lit (.bool false)], args := [d], vars := [g1] }
  | _ => none }
def FnScheduleOfEndWrongFalsely : Prop := fnScheduleOfEndRow.holds Tryd.pinned (OpenSpec.ofChange fnScheduleOfEndWrong)

/-- 'laws.FnScheduleOfFiner': WHATEVER THE INPUT: true; the input reads as it did. -/
def fnScheduleOfFinerSpec : ChangeSpec := { name := "fnScheduleOfFiner", vars := ["loop.example/bonddesk/impl.monthDays"], fn := fun _ => fun
  | [d, g1] => { results := [.lit (.bool true)], args := [d], vars := [g1] }
  | _ => none }
def fnScheduleOfFinerRow : OpenClaim := { program := "ytnjiechfjnjjcaadoor", sum := "c3230a847f043dc841e33fdda753ed314bf4833b8f96c3e33b4d90237e55b1ae", func := "loop.example/bonddesk/laws.FnScheduleOfFiner", spec := "fnScheduleOfFiner", unfollowed := true, recurses := true, named := ["loop.example/bonddesk/impl.monthDays"], apart := false, laid := [("loop.example/bonddesk/impl.monthDays", laid_loop_example_bonddesk_impl_monthDays)] }
def FnScheduleOfFinerSaid : Prop := fnScheduleOfFinerRow.holds Tryd.pinned (OpenSpec.ofChange fnScheduleOfFinerSpec)

/-- ITS FALSE NEIGHBOUR: 'it returns false'. Refute it at one input. -/
def fnScheduleOfFinerWrong : ChangeSpec := { name := "fnScheduleOfFiner", vars := ["loop.example/bonddesk/impl.monthDays"], fn := fun _ => fun
  | [d, g1] => { results := [.lit (.bool false)], args := [d], vars := [g1] }
  | _ => none }
def FnScheduleOfFinerWrongFalsely : Prop := fnScheduleOfFinerRow.holds Tryd.pinned (OpenSpec.ofChange fnScheduleOfFinerWrong)

/-- 'laws.FnScheduleOfWhole': WHATEVER THE INPUT: true; the input reads as it did. -/
def fnScheduleOfWholeSpec : ChangeSpec := { name := "fnScheduleOfWhole", vars := ["loop.example/bonddesk/impl.monthDays"], fn := fun _ => fun
  | [d, g1] => { results := [.lit (.bool true)], args := [d], vars := [g1] }
  | _ => none }
def fnScheduleOfWholeRow : OpenClaim := { program := "ytnjiechfjnjjcaadoor", sum := "c3230a847f043dc841e33fdda753ed314bf4833b8f96c3e33b4d90237e55b1ae", func := "loop.example/bonddesk/laws.FnScheduleOfWhole", spec := "fnScheduleOfWhole", unfollowed := true, recurses := true, named := ["loop.example/bonddesk/impl.monthDays"], apart := false, laid := [("loop.example/bonddesk/impl.monthDays", laid_loop_example_bonddesk_impl_monthDays)] }
def FnScheduleOfWholeSaid : Prop := fnScheduleOfWholeRow.holds Tryd.pinned (OpenSpec.ofChange fnScheduleOfWholeSpec)

/-- ITS FALSE NEIGHBOUR: 'it returns false'. Refute it at one input. -/
def fnScheduleOfWholeWrong : ChangeSpec := { name := "fnScheduleOfWhole", vars := ["loop.example/bonddesk/impl.monthDays"], fn := fun _ => fun
  | [d, g1] => { results := [.lit (.bool false)], args := [d], vars := [g1] }
  | _ => none }
def FnScheduleOfWholeWrongFalsely : Prop := fnScheduleOfWholeRow.holds Tryd.pinned (OpenSpec.ofChange fnScheduleOfWholeWrong)

/- THE SECOND FORM. 'bulk': how many values and letters a reading holds, each counted each time it is reached (what is shared counts as often as it is met; a slice's spare places count too). A statement '..UptoSaid' is the law's where the arguments, and the package variables that the reading takes, are together of bulk at most 1048576: NARROWER than '..Said'. Prove '..Said' where nothing that the law and all that it calls make is longer than what came in: it says more and counts as full. Else prove '..UptoSaid'. A law counts once. -/
mutual
def uptoBulk {H : Type} : DataW H → Nat
  | .lit (.string bytes) => bytes.length + 1
  | .lit _ => 1
  | .nil => 1
  | .ptr d => uptoBulk d + 1
  | .slice elems spare => uptoBulkAll elems + uptoBulkAll spare + 1
  | .agg parts => uptoBulkAll parts + 1
  | .iface _ d => uptoBulk d + 1
  | .map entries => uptoBulkEntries entries + 1
  | .held _ => 1
def uptoBulkAll {H : Type} : List (DataW H) → Nat
  | [] => 0
  | d :: r => uptoBulk d + uptoBulkAll r
def uptoBulkEntries {H : Type} : List (Lit × DataW H) → Nat
  | [] => 0
  | x :: r => uptoBulkEntry x + uptoBulkEntries r
def uptoBulkEntry {H : Type} : Lit × DataW H → Nat
  | (.string bytes, d) => bytes.length + uptoBulk d + 1
  | (_, d) => uptoBulk d + 1
 end
def uptoSmall : (H : Type) → List (DataW H) → Bool := fun _ ds => decide (uptoBulkAll ds ≤ 1048576)
def OpenSpec.upto (s : _root_.Go.ChangeSpec) : _root_.Go.OpenSpec := { _root_.Go.OpenSpec.ofChange s with cond := some uptoSmall }

/-- 'laws.FnExactValidBond', WHERE WHAT IT READS IS OF BULK AT MOST 1048576: true; the input reads as it did. -/
def fnExactValidBondUptoRow : OpenClaim := { program := "ytnjiechfjnjjcaadoor", sum := "c3230a847f043dc841e33fdda753ed314bf4833b8f96c3e33b4d90237e55b1ae", func := "loop.example/bonddesk/laws.FnExactValidBond", spec := "fnExactValidBond", unfollowed := true, recurses := true, named := ["loop.example/bonddesk/impl.monthDays"], apart := false, laid := [("loop.example/bonddesk/impl.monthDays", laid_loop_example_bonddesk_impl_monthDays)], narrowed := true }
def FnExactValidBondUptoSaid : Prop := fnExactValidBondUptoRow.holds Tryd.pinned (OpenSpec.upto fnExactValidBondSpec)

/-- 'laws.FnExactScheduleOf', WHERE WHAT IT READS IS OF BULK AT MOST 1048576: true; the input reads as it did. -/
def fnExactScheduleOfUptoRow : OpenClaim := { program := "ytnjiechfjnjjcaadoor", sum := "c3230a847f043dc841e33fdda753ed314bf4833b8f96c3e33b4d90237e55b1ae", func := "loop.example/bonddesk/laws.FnExactScheduleOf", spec := "fnExactScheduleOf", unfollowed := true, recurses := true, named := ["loop.example/bonddesk/impl.monthDays"], apart := false, laid := [("loop.example/bonddesk/impl.monthDays", laid_loop_example_bonddesk_impl_monthDays)], narrowed := true }
def FnExactScheduleOfUptoSaid : Prop := fnExactScheduleOfUptoRow.holds Tryd.pinned (OpenSpec.upto fnExactScheduleOfSpec)

/-- 'laws.FnScheduleOf', WHERE WHAT IT READS IS OF BULK AT MOST 1048576: true; the input reads as it did. -/
def fnScheduleOfUptoRow : OpenClaim := { program := "ytnjiechfjnjjcaadoor", sum := "c3230a847f043dc841e33fdda753ed314bf4833b8f96c3e33b4d90237e55b1ae", func := "loop.example/bonddesk/laws.FnScheduleOf", spec := "fnScheduleOf", unfollowed := true, recurses := true, named := ["loop.example/bonddesk/impl.monthDays"], apart := false, laid := [("loop.example/bonddesk/impl.monthDays", laid_loop_example_bonddesk_impl_monthDays)], narrowed := true }
def FnScheduleOfUptoSaid : Prop := fnScheduleOfUptoRow.holds Tryd.pinned (OpenSpec.upto fnScheduleOfSpec)

/-- 'laws.FnScheduleOfEnd', WHERE WHAT IT READS IS OF BULK AT MOST 1048576: true; the input reads as it did. -/
def fnScheduleOfEndUptoRow : OpenClaim := { program := "ytnjiechfjnjjcaadoor", sum := "c3230a847f043dc841e33fdda753ed314bf4833b8f96c3e33b4d90237e55b1ae", func := "loop.example/bonddesk/laws.FnScheduleOfEnd", spec := "fnScheduleOfEnd", unfollowed := true, recurses := true, named := ["loop.example/bonddesk/impl.monthDays"], apart := false, laid := [("loop.example/bonddesk/impl.monthDays", laid_loop_example_bonddesk_impl_monthDays)], narrowed := true }
def FnScheduleOfEndUptoSaid : Prop := fnScheduleOfEndUptoRow.holds Tryd.pinned (OpenSpec.upto fnScheduleOfEndSpec)

/-- 'laws.FnScheduleOfFiner', WHERE WHAT IT READS IS OF BULK AT MOST 1048576: true; the input reads as it did. -/
def fnScheduleOfFinerUptoRow : OpenClaim := { program := "ytnjiechfjnjjcaadoor", sum := "c3230a847f043dc841e33fdda753ed314bf4833b8f96c3e33b4d90237e55b1ae", func := "loop.example/bonddesk/laws.FnScheduleOfFiner", spec := "fnScheduleOfFiner", unfollowed := true, recurses := true, named := ["loop.example/bonddesk/impl.monthDays"], apart := false, laid := [("loop.example/bonddesk/impl.monthDays", laid_loop_example_bonddesk_impl_monthDays)], narrowed := true }
def FnScheduleOfFinerUptoSaid : Prop := fnScheduleOfFinerUptoRow.holds Tryd.pinned (OpenSpec.upto fnScheduleOfFinerSpec)

/-- 'laws.FnScheduleOfWhole', WHERE WHAT IT READS IS OF BULK AT MOST 1048576: true; the input reads as it did. -/
def fnScheduleOfWholeUptoRow : OpenClaim := { program := "ytnjiechfjnjjcaadoor", sum := "c3230a847f043dc841e33fdda753ed314bf4833b8f96c3e33b4d90237e55b1ae", func := "loop.example/bonddesk/laws.FnScheduleOfWhole", spec := "fnScheduleOfWhole", unfollowed := true, recurses := true, named := ["loop.example/bonddesk/impl.monthDays"], apart := false, laid := [("loop.example/bonddesk/impl.monthDays", laid_loop_example_bonddesk_impl_monthDays)], narrowed := true }
def FnScheduleOfWholeUptoSaid : Prop := fnScheduleOfWholeUptoRow.holds Tryd.pinned (OpenSpec.upto fnScheduleOfWholeSpec)

end Rows
end Go.Proofs.YtnjiechfjnjjcaaDoor
