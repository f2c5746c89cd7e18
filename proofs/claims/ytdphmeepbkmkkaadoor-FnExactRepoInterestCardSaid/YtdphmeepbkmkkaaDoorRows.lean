/-
  NARROWER THAN 'FOR EVERY INPUT', by the rows' own cells (each row's printed sentence says how): FnExactYearPart: laid · FnExactInterestOf: laid · FnYearPartSum: laid · FnExactRepoInterest: laid · FnYearPartYear: laid · FnYearPart: laid · FnYearPartMoney: laid · FnInterestOf: laid · FnInterestOfDouble: laid · FnExactRollRepo: laid · FnRepoInterest: laid · FnRollRepo: laid.
  DERIVED. THE GIVEN ROWS OF THIS SEAT. 12 by the template 'for every input the law returns true; each argument reads behind the call as it read before'; 0 by the template 'total and deterministic' (their statements: YtdphmeepbkmkkaaDoorTotals.lean).
  GIVEN WITH THE SEED: the statements are not yours to turn. If you find one false, say at which input.
  Laid BY PROGRAM, IN A SANDBOX (cutbox-rows.mjs): the forced cells as the released guide's own fill.sh prints them over the translation af5ed5adc022c063… (all of the seat's roots in one cut). By AI agents, Wed Nov 11 2026. No macro, syntax, notation, axiom, sorry.
-/
import Derived.Test.YtdphmeepbkmkkaaDoorChecked
import GoSem.Claim
import GoSem.ClaimJoined
import GoSem.ClaimMapViews
import Derived.JoinedTies
import Derived.KernelRfl
namespace Go.Proofs.YtdphmeepbkmkkaaDoor
/- THE CELL 'sum', in the pinned program and in every row, IS THE sha256 OF THE DUMP (.gsa) THAT YtdphmeepbkmkkaaDoorProg.lean LOADS. Nothing in Lean hashes anything: it is a label: what it is worth is what the hold of that sum in a sandbox is worth. -/
noncomputable def Tryd.pinned : Pinned := { name := "ytdphmeepbkmkkaadoor", sum := "af5ed5adc022c063ca1c77151a0541041332da4ab4f18ccca90bd9ec1bf577a1", checked := Tryd.checked }
namespace Rows
def none {H : Type} : Left H := { results := [], args := [] }

/- WHAT THE LISTED PACKAGE-LEVEL VARIABLES READ AS WHEN THE CALL BEGINS. Each datum BY PROGRAM (the guide's laid-datum.mjs) off the statement by which the dump's own 'gosem.cut.vars' lays the variable. In a bare row this is a premise. The card (YtdphmeepbkmkkaaDoorCards.lean) ties it to the program's text. -/
def laid_loop_example_bonddesk_impl_monthDays {H : Type} : DataW H := .agg [.lit (.int .i64 31), .lit (.int .i64 28), .lit (.int .i64 31), .lit (.int .i64 30), .lit (.int .i64 31), .lit (.int .i64 30), .lit (.int .i64 31), .lit (.int .i64 31), .lit (.int .i64 30), .lit (.int .i64 31), .lit (.int .i64 30), .lit (.int .i64 31)]

/-- 'laws.FnExactYearPart': WHATEVER THE INPUT: true; the input reads as it did. -/
def fnExactYearPartSpec : ChangeSpec := { name := "fnExactYearPart", vars := ["loop.example/bonddesk/impl.monthDays"], fn := fun _ => fun
  | [d1, d2, d3, g1] => { results := [.lit (.bool true)], args := [d1, d2, d3], vars := [g1] }
  | _ => none }
def fnExactYearPartRow : OpenClaim := { program := "ytdphmeepbkmkkaadoor", sum := "af5ed5adc022c063ca1c77151a0541041332da4ab4f18ccca90bd9ec1bf577a1", func := "loop.example/bonddesk/laws.FnExactYearPart", spec := "fnExactYearPart", unfollowed := true, recurses := true, named := ["loop.example/bonddesk/impl.monthDays"], apart := false, laid := [("loop.example/bonddesk/impl.monthDays", laid_loop_example_bonddesk_impl_monthDays)] }
def FnExactYearPartSaid : Prop := fnExactYearPartRow.holds Tryd.pinned (OpenSpec.ofChange fnExactYearPartSpec)

/-- ITS FALSE NEIGHBOUR: 'it returns false'. Refute it at one input. -/
def fnExactYearPartWrong : ChangeSpec := { name := "fnExactYearPart", vars := ["loop.example/bonddesk/impl.monthDays"], fn := fun _ => fun
  | [d1, d2, d3, g1] => { results := [.lit (.bool false)], args := [d1, d2, d3], vars := [g1] }
  | _ => none }
def FnExactYearPartWrongFalsely : Prop := fnExactYearPartRow.holds Tryd.pinned (OpenSpec.ofChange fnExactYearPartWrong)

/-- 'laws.FnExactInterestOf': WHATEVER THE INPUT: true; the input reads as it did. -/
def fnExactInterestOfSpec : ChangeSpec := { name := "fnExactInterestOf", vars := ["loop.example/bonddesk/impl.monthDays"], fn := fun _ => fun
  | [d1, d2, d3, d4, d5, g1] => { results := [.lit (.bool true)], args := [d1, d2, d3, d4, d5], vars := [g1] }
  | _ => none }
def fnExactInterestOfRow : OpenClaim := { program := "ytdphmeepbkmkkaadoor", sum := "af5ed5adc022c063ca1c77151a0541041332da4ab4f18ccca90bd9ec1bf577a1", func := "loop.example/bonddesk/laws.FnExactInterestOf", spec := "fnExactInterestOf", unfollowed := true, recurses := true, named := ["loop.example/bonddesk/impl.monthDays"], apart := false, laid := [("loop.example/bonddesk/impl.monthDays", laid_loop_example_bonddesk_impl_monthDays)] }
def FnExactInterestOfSaid : Prop := fnExactInterestOfRow.holds Tryd.pinned (OpenSpec.ofChange fnExactInterestOfSpec)

/-- ITS FALSE NEIGHBOUR: 'it returns false'. Refute it at one input. -/
def fnExactInterestOfWrong : ChangeSpec := { name := "fnExactInterestOf", vars := ["loop.example/bonddesk/impl.monthDays"], fn := fun _ => fun
  | [d1, d2, d3, d4, d5, g1] => { results := [.lit (.bool false)], args := [d1, d2, d3, d4, d5], vars := [g1] }
  | _ => none }
def FnExactInterestOfWrongFalsely : Prop := fnExactInterestOfRow.holds Tryd.pinned (OpenSpec.ofChange fnExactInterestOfWrong)

/-- 'laws.FnYearPartSum': WHATEVER THE INPUT: true; the input reads as it did. -/
def fnYearPartSumSpec : ChangeSpec := { name := "fnYearPartSum", vars := ["loop.example/bonddesk/impl.monthDays"], fn := fun _ => fun
  | [d, g1] => { results := [.lit (.bool true)], args := [d], vars := [g1] }
  | _ => none }
def fnYearPartSumRow : OpenClaim := { program := "ytdphmeepbkmkkaadoor", sum := "af5ed5adc022c063ca1c77151a0541041332da4ab4f18ccca90bd9ec1bf577a1", func := "loop.example/bonddesk/laws.FnYearPartSum", spec := "fnYearPartSum", unfollowed := true, recurses := true, named := ["loop.example/bonddesk/impl.monthDays"], apart := false, laid := [("loop.example/bonddesk/impl.monthDays", laid_loop_example_bonddesk_impl_monthDays)] }
def FnYearPartSumSaid : Prop := fnYearPartSumRow.holds Tryd.pinned (OpenSpec.ofChange fnYearPartSumSpec)

/-- ITS FALSE NEIGHBOUR: 'it returns false'. Refute it at one input. -/
def fnYearPartSumWrong : ChangeSpec := { name := "fnYearPartSum", vars := ["loop.example/bonddesk/impl.monthDays"], fn := fun _ => fun
  | [d, g1] => { results := [.lit (.bool false)], args := [d], vars := [g1] }
  | _ => none }
def FnYearPartSumWrongFalsely : Prop := fnYearPartSumRow.holds Tryd.pinned (OpenSpec.ofChange fnYearPartSumWrong)

/-- 'laws.FnExactRepoInterest': WHATEVER THE INPUT: true; the input reads as it did. -/
def fnExactRepoInterestSpec : ChangeSpec := { name := "fnExactRepoInterest", vars := ["loop.example/bonddesk/impl.monthDays"], fn := fun _ => fun
  | [d, g1] => { results := [.lit (.bool true)], args := [d], vars := [g1] }
  | _ => none }
def fnExactRepoInterestRow : OpenClaim := { program := "ytdphmeepbkmkkaadoor", sum := "af5ed5adc022c063ca1c77151a0541041332da4ab4f18ccca90bd9ec1bf577a1", func := "loop.example/bonddesk/laws.FnExactRepoInterest", spec := "fnExactRepoInterest", unfollowed := true, recurses := true, named := ["loop.example/bonddesk/impl.monthDays"], apart := false, laid := [("loop.example/bonddesk/impl.monthDays", laid_loop_example_bonddesk_impl_monthDays)] }
def FnExactRepoInterestSaid : Prop := fnExactRepoInterestRow.holds Tryd.pinned (OpenSpec.ofChange fnExactRepoInterestSpec)

/-- ITS FALSE NEIGHBOUR: 'it returns false'. Refute it at one input. -/
def fnExactRepoInterestWrong : ChangeSpec := { name := "fnExactRepoInterest", vars := ["loop.example/bonddesk/impl.monthDays"], fn := fun _ => fun
  | [d, g1] => { results := [.lit (.bool false)], args := [d], vars := [g1] }
  | _ => none }
def FnExactRepoInterestWrongFalsely : Prop := fnExactRepoInterestRow.holds Tryd.pinned (OpenSpec.ofChange fnExactRepoInterestWrong)

/-- 'laws.FnYearPartYear': WHATEVER THE INPUT: true; the input reads as it did. -/
def fnYearPartYearSpec : ChangeSpec := { name := "fnYearPartYear", vars := ["loop.example/bonddesk/impl.monthDays"], fn := fun _ => fun
  | [d, g1] => { results := [.lit (.bool true)], args := [d], vars := [g1] }
  | _ => none }
def fnYearPartYearRow : OpenClaim := { program := "ytdphmeepbkmkkaadoor", sum := "af5ed5adc022c063ca1c77151a0541041332da4ab4f18ccca90bd9ec1bf577a1", func := "loop.example/bonddesk/laws.FnYearPartYear", spec := "fnYearPartYear", unfollowed := true, recurses := true, named := ["loop.example/bonddesk/impl.monthDays"], apart := false, laid := [("loop.example/bonddesk/impl.monthDays", laid_loop_example_bonddesk_impl_monthDays)] }
def FnYearPartYearSaid : Prop := fnYearPartYearRow.holds Tryd.pinned (OpenSpec.ofChange fnYearPartYearSpec)

/-- ITS FALSE NEIGHBOUR: 'it returns false'. Refute it at one input. -/
def fnYearPartYearWrong : ChangeSpec := { name := "fnYearPartYear", vars := ["loop.example/bonddesk/impl.monthDays"], fn := fun _ => fun
  | [d, g1] => { results := [.lit (.bool false)], args := [d], vars := [g1] }
  | _ => none }
def FnYearPartYearWrongFalsely : Prop := fnYearPartYearRow.holds Tryd.pinned (OpenSpec.ofChange fnYearPartYearWrong)

/-- 'laws.FnYearPart': WHATEVER THE INPUT: true; the input reads as it did. -/
def fnYearPartSpec : ChangeSpec := { name := "fnYearPart", vars := ["loop.example/bonddesk/impl.monthDays"], fn := fun _ => fun
  | [d, g1] => { results := [.lit (.bool true)], args := [d], vars := [g1] }
  | _ => none }
def fnYearPartRow : OpenClaim := { program := "ytdphmeepbkmkkaadoor", sum := "af5ed5adc022c063ca1c77151a0541041332da4ab4f18ccca90bd9ec1bf577a1", func := "loop.example/bonddesk/laws.FnYearPart", spec := "fnYearPart", unfollowed := true, recurses := true, named := ["loop.example/bonddesk/impl.monthDays"], apart := false, laid := [("loop.example/bonddesk/impl.monthDays", laid_loop_example_bonddesk_impl_monthDays)] }
def FnYearPartSaid : Prop := fnYearPartRow.holds Tryd.pinned (OpenSpec.ofChange fnYearPartSpec)

/-- ITS FALSE NEIGHBOUR: 'it returns false'. Refute it at one input. -/
def fnYearPartWrong : ChangeSpec := { name := "fnYearPart", vars := ["loop.example/bonddesk/impl.monthDays"], fn := fun _ => fun
  | [d, g1] => { results := [.lit (.bool false)], args := [d], vars := [g1] }
  | _ => none }
def FnYearPartWrongFalsely : Prop := fnYearPartRow.holds Tryd.pinned (OpenSpec.ofChange fnYearPartWrong)

/-- 'laws.FnYearPartMoney': WHATEVER THE INPUT: true; the input reads as it did. -/
def fnYearPartMoneySpec : ChangeSpec := { name := "fnYearPartMoney", vars := ["loop.example/bonddesk/impl.monthDays"], fn := fun _ => fun
  | [d, g1] => { results := [.lit (.bool true)], args := [d], vars := [g1] }
  | _ => none }
def fnYearPartMoneyRow : OpenClaim := { program := "ytdphmeepbkmkkaadoor", sum := "af5ed5adc022c063ca1c77151a0541041332da4ab4f18ccca90bd9ec1bf577a1", func := "loop.example/bonddesk/laws.FnYearPartMoney", spec := "fnYearPartMoney", unfollowed := true, recurses := true, named := ["loop.example/bonddesk/impl.monthDays"], apart := false, laid := [("loop.example/bonddesk/impl.monthDays", laid_loop_example_bonddesk_impl_monthDays)] }
def FnYearPartMoneySaid : Prop := fnYearPartMoneyRow.holds Tryd.pinned (OpenSpec.ofChange fnYearPartMoneySpec)

/-- ITS FALSE NEIGHBOUR: 'it returns false'. Refute it at one input. -/
def fnYearPartMoneyWrong : ChangeSpec := { name := "fnYearPartMoney", vars := ["loop.example/bonddesk/impl.monthDays"], fn := fun _ => fun
  | [d, g1] => { results := [.lit (.bool false)], args := [d], vars := [g1] }
  | _ => none }
def FnYearPartMoneyWrongFalsely : Prop := fnYearPartMoneyRow.holds Tryd.pinned (OpenSpec.ofChange fnYearPartMoneyWrong)

/-- 'laws.FnInterestOf': WHATEVER THE INPUT: true; the input reads as it did. -/
def fnInterestOfSpec : ChangeSpec := { name := "fnInterestOf", vars := ["loop.example/bonddesk/impl.monthDays"], fn := fun _ => fun
  | [d, g1] => { results := [.lit (.bool true)], args := [d], vars := [g1] }
  | _ => none }
def fnInterestOfRow : OpenClaim := { program := "ytdphmeepbkmkkaadoor", sum := "af5ed5adc022c063ca1c77151a0541041332da4ab4f18ccca90bd9ec1bf577a1", func := "loop.example/bonddesk/laws.FnInterestOf", spec := "fnInterestOf", unfollowed := true, recurses := true, named := ["loop.example/bonddesk/impl.monthDays"], apart := false, laid := [("loop.example/bonddesk/impl.monthDays", laid_loop_example_bonddesk_impl_monthDays)] }
def FnInterestOfSaid : Prop := fnInterestOfRow.holds Tryd.pinned (OpenSpec.ofChange fnInterestOfSpec)

/-- ITS FALSE NEIGHBOUR: 'it returns false'. Refute it at one input. -/
def fnInterestOfWrong : ChangeSpec := { name := "fnInterestOf", vars := ["loop.example/bonddesk/impl.monthDays"], fn := fun _ => fun
  | [d, g1] => { results := [.lit (.bool false)], args := [d], vars := [g1] }
  | _ => none }
def FnInterestOfWrongFalsely : Prop := fnInterestOfRow.holds Tryd.pinned (OpenSpec.ofChange fnInterestOfWrong)

/-- 'laws.FnInterestOfDouble': WHATEVER THE INPUT: true; the input reads as it did. -/
def fnInterestOfDoubleSpec : ChangeSpec := { name := "fnInterestOfDouble", vars := ["loop.example/bonddesk/impl.monthDays"], fn := fun _ => fun
  | [d, g1] => { results := [.lit (.bool true)], args := [d], vars := [g1] }
  | _ => none }
def fnInterestOfDoubleRow : OpenClaim := { program := "ytdphmeepbkmkkaadoor", sum := "af5ed5adc022c063ca1c77151a0541041332da4ab4f18ccca90bd9ec1bf577a1", func := "loop.example/bonddesk/laws.FnInterestOfDouble", spec := "fnInterestOfDouble", unfollowed := true, recurses := true, named := ["loop.example/bonddesk/impl.monthDays"], apart := false, laid := [("loop.example/bonddesk/impl.monthDays", laid_loop_example_bonddesk_impl_monthDays)] }
def FnInterestOfDoubleSaid : Prop := fnInterestOfDoubleRow.holds Tryd.pinned (OpenSpec.ofChange fnInterestOfDoubleSpec)

/-- ITS FALSE NEIGHBOUR: 'it returns false'. Refute it at one input. -/
def fnInterestOfDoubleWrong : ChangeSpec := { name := "fnInterestOfDouble", vars := ["loop.example/bonddesk/impl.monthDays"], fn := fun _ => fun
  | [d, g1] => { results := [.lit (.bool false)], args := [d], vars := [g1] }
  | _ => none }
def FnInterestOfDoubleWrongFalsely : Prop := fnInterestOfDoubleRow.holds Tryd.pinned (OpenSpec.ofChange fnInterestOfDoubleWrong)

/-- 'laws.FnExactRollRepo': WHATEVER THE INPUT: true; the input reads as it did. -/
def fnExactRollRepoSpec : ChangeSpec := { name := "fnExactRollRepo", vars := ["loop.example/bonddesk/impl.monthDays"], fn := fun _ => fun
  | [d1, d2, d3, g1] => { results := [.lit (.bool true)], args := [d1, d2, d3], vars := [g1] }
  | _ => none }
def fnExactRollRepoRow : OpenClaim := { program := "ytdphmeepbkmkkaadoor", sum := "af5ed5adc022c063ca1c77151a0541041332da4ab4f18ccca90bd9ec1bf577a1", func := "loop.example/bonddesk/laws.FnExactRollRepo", spec := "fnExactRollRepo", unfollowed := true, recurses := true, named := ["loop.example/bonddesk/impl.monthDays"], apart := false, laid := [("loop.example/bonddesk/impl.monthDays", laid_loop_example_bonddesk_impl_monthDays)] }
def FnExactRollRepoSaid : Prop := fnExactRollRepoRow.holds Tryd.pinned (OpenSpec.ofChange fnExactRollRepoSpec)

/-- ITS FALSE NEIGHBOUR: 'it returns false'. Refute it at one input. -/
def fnExactRollRepoWrong : ChangeSpec := { name := "fnExactRollRepo", vars := ["loop.example/bonddesk/impl.monthDays"], fn := fun _ => fun
  | [d1, d2, d3, g1] => { results := [.lit (.bool false)], args := [d1, d2, d3], vars := [g1] }
  | _ => none }
def FnExactRollRepoWrongFalsely : Prop := fnExactRollRepoRow.holds Tryd.pinned (OpenSpec.ofChange fnExactRollRepoWrong)

/-- 'laws.FnRepoInterest': WHATEVER THE INPUT: true; the input reads as it did. -/
def fnRepoInterestSpec : ChangeSpec := { name := "fnRepoInterest", vars := ["loop.example/bonddesk/impl.monthDays"], fn := fun _ => fun
  | [d, g1] => { results := [.lit (.bool true)], args := [d], vars := [g1] }
  | _ => none }
def fnRepoInterestRow : OpenClaim := { program := "ytdphmeepbkmkkaadoor", sum := "af5ed5adc022c063ca1c77151a0541041332da4ab4f18ccca90bd9ec1bf577a1", func := "loop.example/bonddesk/laws.FnRepoInterest", spec := "fnRepoInterest", unfollowed := true, recurses := true, named := ["loop.example/bonddesk/impl.monthDays"], apart := false, laid := [("loop.example/bonddesk/impl.monthDays", laid_loop_example_bonddesk_impl_monthDays)] }
def FnRepoInterestSaid : Prop := fnRepoInterestRow.holds Tryd.pinned (OpenSpec.ofChange fnRepoInterestSpec)

/-- ITS FALSE NEIGHBOUR: 'it returns false'. Refute it at one input. -/
def fnRepoInterestWrong : ChangeSpec := { name := "fnRepoInterest", vars := ["loop.example/bonddesk/impl.monthDays"], fn := fun _ => fun
  | [d, g1] => { results := [.lit (.bool false)], args := [d], vars := [g1] }
  | _ => none }
def FnRepoInterestWrongFalsely : Prop := fnRepoInterestRow.holds Tryd.pinned (OpenSpec.ofChange fnRepoInterestWrong)

/-- 'laws.FnRollRepo': WHATEVER THE INPUT: true; the input reads as it did. -/
def fnRollRepoSpec : ChangeSpec := { name := "fnRollRepo", vars := ["loop.example/bonddesk/impl.monthDays"], fn := fun _ => fun
  | [d, g1] => { results := [.lit (.bool true)], args := [d], vars := [g1] }
  | _ => none }
def fnRollRepoRow : OpenClaim := { program := "ytdphmeepbkmkkaadoor", sum := "af5ed5adc022c063ca1c77151a0541041332da4ab4f18ccca90bd9ec1bf577a1", func := "loop.example/bonddesk/laws.FnRollRepo", spec := "fnRollRepo", unfollowed := true, recurses := true, named := ["loop.example/bonddesk/impl.monthDays"], apart := false, laid := [("loop.example/bonddesk/impl.monthDays", laid_loop_example_bonddesk_impl_monthDays)] }
def FnRollRepoSaid : Prop := fnRollRepoRow.holds Tryd.pinned (OpenSpec.ofChange fnRollRepoSpec)

/-- ITS FALSE NEIGHBOUR: 'it returns false'. Refute it at one input. -/
def fnRollRepoWrong : ChangeSpec := { name := "fnRollRepo", vars := ["loop.example/bonddesk/impl.monthDays"], fn := fun _ => fun
  | [d, g1] => { results := [.lit (.bool false)], args := [d], vars := [g1] }
  | _ => none }
def FnRollRepoWrongFalsely : Prop := fnRollRepoRow.holds Tryd.pinned (OpenSpec.ofChange fnRollRepoWrong)

/- THE SECOND FORM. 'bulk': how many values and letters a reading holds, each counted each time it is reached (what is shared counts as often as it is met; a slice's spare places count too). A statement '..UptoSaid' is the law's where the arguments, and the package variables that the reading takes, are together of bulk at most 1048576: NARROWER than '..Said'. Prove '..Said' where nothing that the law and all that it calls make is longer than what came in: it says more and counts as full. Else prove '..UptoSaid'. A law counts once. -/
mutual
def uptoBulk {H : Type} : DataW H → Nat
  | .lit (.string bytes) => bytes.length + 1
  | .lit _ => 1
  | .nil => 1
  | .ptr d => uptoBulk d + 1
  | .slice elems spare => uptoBulkAll elems + uptoBulkAll spare + 1
  | .agg parts => uptoBulkAll parts + 1
  | .iface _ d => uptoBulk d + 1
  | .map entries => uptoBulkEntries entries + 1
  | .held _ => 1
def uptoBulkAll {H : Type} : List (DataW H) → Nat
  | [] => 0
  | d :: r => uptoBulk d + uptoBulkAll r
def uptoBulkEntries {H : Type} : List (Lit × DataW H) → Nat
  | [] => 0
  | x :: r => uptoBulkEntry x + uptoBulkEntries r
def uptoBulkEntry {H : Type} : Lit × DataW H → Nat
  | (.string bytes, d) => bytes.length + uptoBulk d + 1
  | (_, d) => uptoBulk d + 1
 end
def uptoSmall : (H : Type) → List (DataW H) → Bool := fun _ ds => decide (uptoBulkAll ds ≤ 1048576)
def OpenSpec.upto (s : _root_.Go.ChangeSpec) : _root_.Go.OpenSpec := { _root_.Go.OpenSpec.ofChange s with cond := some uptoSmall }

/-- 'laws.FnExactYearPart', WHERE WHAT IT READS IS OF BULK AT MOST 1048576: true; the input reads as it did. -/
def fnExactYearPartUptoRow : OpenClaim := { program := "ytdphmeepbkmkkaadoor", sum := "af5ed5adc022c063ca1c77151a0541041332da4ab4f18ccca90bd9ec1bf577a1", func := "loop.example/bonddesk/laws.FnExactYearPart", spec := "fnExactYearPart", unfollowed := true, recurses := true, named := ["loop.example/bonddesk/impl.monthDays"], apart := false, laid := [("loop.example/bonddesk/impl.monthDays", laid_loop_example_bonddesk_impl_monthDays)], narrowed := true }
def FnExactYearPartUptoSaid : Prop := fnExactYearPartUptoRow.holds Tryd.pinned (OpenSpec.upto fnExactYearPartSpec)

/-- 'laws.FnExactInterestOf', WHERE WHAT IT READS IS OF BULK AT MOST 1048576: true; the input reads as it did. -/
def fnExactInterestOfUptoRow : OpenClaim := { program := "ytdphmeepbkmkkaadoor", sum := "af5ed5adc022c063ca1c77151a0541041332da4ab4f18ccca90bd9ec1bf577a1", func := "loop.example/bonddesk/laws.FnExactInterestOf", spec := "fnExactInterestOf", unfollowed := true, recurses := true, named := ["loop.example/bonddesk/impl.monthDays"], apart := false, laid := [("loop.example/bonddesk/impl.monthDays", laid_loop_example_bonddesk_impl_monthDays)], narrowed := true }
def FnExactInterestOfUptoSaid : Prop := fnExactInterestOfUptoRow.holds Tryd.pinned (OpenSpec.upto fnExactInterestOfSpec)

/-- 'laws.FnYearPartSum', WHERE WHAT IT READS IS OF BULK AT MOST 1048576: true; the input reads as it did. -/
def fnYearPartSumUptoRow : OpenClaim := { program := "ytdphmeepbkmkkaadoor", sum := "af5ed5adc022c063ca1c77151a0541041332da4ab4f18ccca90bd9ec1bf577a1", func := "loop.example/bonddesk/laws.FnYearPartSum", spec := "fnYearPartSum", unfollowed := true, recurses := true, named := ["loop.example/bonddesk/impl.monthDays"], apart := false, laid := [("loop.example/bonddesk/impl.monthDays", laid_loop_example_bonddesk_impl_monthDays)], narrowed := true }
def FnYearPartSumUptoSaid : Prop := fnYearPartSumUptoRow.holds Tryd.pinned (OpenSpec.upto fnYearPartSumSpec)

/-- 'laws.FnExactRepoInterest', WHERE WHAT IT READS IS OF BULK AT MOST 1048576: true; the input reads as it did. -/
def fnExactRepoInterestUptoRow : OpenClaim := { program := "ytdphmeepbkmkkaadoor", sum := "af5ed5adc022c063ca1c77151a0541041332da4ab4f18ccca90bd9ec1bf577a1", func := "loop.example/bonddesk/laws.FnExactRepoInterest", spec := "fnExactRepoInterest", unfollowed := true, recurses := true, named := ["loop.example/bonddesk/impl.monthDays"], apart := false, laid := [("loop.example/bonddesk/impl.monthDays", laid_loop_example_bonddesk_impl_monthDays)], narrowed := true }
def FnExactRepoInterestUptoSaid : Prop := fnExactRepoInterestUptoRow.holds Tryd.pinned (OpenSpec.upto fnExactRepoInterestSpec)

/-- 'laws.FnYearPartYear', WHERE WHAT IT READS IS OF BULK AT MOST 1048576: true; the input reads as it did. -/
def fnYearPartYearUptoRow : OpenClaim := { program := "ytdphmeepbkmkkaadoor", sum := "af5ed5adc022c063ca1c77151a0541041332da4ab4f18ccca90bd9ec1bf577a1", func := "loop.example/bonddesk/laws.FnYearPartYear", spec := "fnYearPartYear", unfollowed := true, recurses := true, named := ["loop.example/bonddesk/impl.monthDays"], apart := false, laid := [("loop.example/bonddesk/impl.monthDays", laid_loop_example_bonddesk_impl_monthDays)], narrowed := true }
def FnYearPartYearUptoSaid : Prop := fnYearPartYearUptoRow.holds Tryd.pinned (OpenSpec.upto fnYearPartYearSpec)

/-- 'laws.FnYearPart', WHERE WHAT IT READS IS OF BULK AT MOST 1048576: true; the input reads as it did. -/
def fnYearPartUptoRow : OpenClaim := { program := "ytdphmeepbkmkkaadoor", sum := "af5ed5adc022c063ca1c77151a0541041332da4ab4f18ccca90bd9ec1bf577a1", func := "loop.example/bonddesk/laws.FnYearPart", spec := "fnYearPart", unfollowed := true, recurses := true, named := ["loop.example/bonddesk/impl.monthDays"], apart := false, laid := [("loop.example/bonddesk/impl.monthDays", laid_loop_example_bonddesk_impl_monthDays)], narrowed := true }
def FnYearPartUptoSaid : Prop := fnYearPartUptoRow.holds Tryd.pinned (OpenSpec.upto fnYearPartSpec)

/-- 'laws.FnYearPartMoney', WHERE WHAT IT READS IS OF BULK AT MOST 1048576: true; the input reads as it did. -/
def fnYearPartMoneyUptoRow : OpenClaim := { program := "ytdphmeepbkmkkaadoor", sum := "af5ed5adc022c063ca1c77151a0541041332da4ab4f18ccca90bd9ec1bf577a1", func := "loop.example/bonddesk/laws.FnYearPartMoney", spec := "fnYearPartMoney", unfollowed := true, recurses := true, named := ["loop.example/bonddesk/impl.monthDays"], apart := false, laid := [("loop.example/bonddesk/impl.monthDays", laid_loop_example_bonddesk_impl_monthDays)], narrowed := true }
def FnYearPartMoneyUptoSaid : Prop := fnYearPartMoneyUptoRow.holds Tryd.pinned (OpenSpec.upto fnYearPartMoneySpec)

/-- 'laws.FnInterestOf', WHERE WHAT IT READS IS OF BULK AT MOST 1048576: true; the input reads as it did. -/
def fnInterestOfUptoRow : OpenClaim := { program := "ytdphmeepbkmkkaadoor", sum := "af5ed5adc022c063ca1c77151a0541041332da4ab4f18ccca90bd9ec1bf577a1", func := "loop.example/bonddesk/laws.FnInterestOf", spec := "fnInterestOf", unfollowed := true, recurses := true, named := ["loop.example/bonddesk/impl.monthDays"], apart := false, laid := [("loop.example/bonddesk/impl.monthDays", laid_loop_example_bonddesk_impl_monthDays)], narrowed := true }
def FnInterestOfUptoSaid : Prop := fnInterestOfUptoRow.holds Tryd.pinned (OpenSpec.upto fnInterestOfSpec)

/-- 'laws.FnInterestOfDouble', WHERE WHAT IT READS IS OF BULK AT MOST 1048576: true; the input reads as it did. -/
def fnInterestOfDoubleUptoRow : OpenClaim := { program := "ytdphmeepbkmkkaadoor", sum := "af5ed5adc022c063ca1c77151a0541041332da4ab4f18ccca90bd9ec1bf577a1", func := "loop.example/bonddesk/laws.FnInterestOfDouble", spec := "fnInterestOfDouble", unfollowed := true, recurses := true, named := ["loop.example/bonddesk/impl.monthDays"], apart := false, laid := [("loop.example/bonddesk/impl.monthDays", laid_loop_example_bonddesk_impl_monthDays)], narrowed := true }
def FnInterestOfDoubleUptoSaid : Prop := fnInterestOfDoubleUptoRow.holds Tryd.pinned (OpenSpec.upto fnInterestOfDoubleSpec)

/-- 'laws.FnExactRollRepo', WHERE WHAT IT READS IS OF BULK AT MOST 1048576: true; the input reads as it did. -/
def fnExactRollRepoUptoRow : OpenClaim := { program := "ytdphmeepbkmkkaadoor", sum := "af5ed5adc022c063ca1c77151a0541041332da4ab4f18ccca90bd9ec1bf577a1", func := "loop.example/bonddesk/laws.FnExactRollRepo", spec := "fnExactRollRepo", unfollowed := true, recurses := true, named := ["loop.example/bonddesk/impl.monthDays"], apart := false, laid := [("loop.example/bonddesk/impl.monthDays", laid_loop_example_bonddesk_impl_monthDays)], narrowed := true }
def FnExactRollRepoUptoSaid : Prop := fnExactRollRepoUptoRow.holds Tryd.pinned (OpenSpec.upto fnExactRollRepoSpec)

/-- 'laws.FnRepoInterest', WHERE WHAT IT READS IS OF BULK AT MOST 1048576: true; the input reads as it did. -/
def fnRepoInterestUptoRow : OpenClaim := { program := "ytdphmeepbkmkkaadoor", sum := "af5ed5adc022c063ca1c77151a0541041332da4ab4f18ccca90bd9ec1bf577a1", func := "loop.example/bonddesk/laws.FnRepoInterest", spec := "fnRepoInterest", unfollowed := true, recurses := true, named := ["loop.example/bonddesk/impl.monthDays"], apart := false, laid := [("loop.example/bonddesk/impl.monthDays", laid_loop_example_bonddesk_impl_monthDays)], narrowed := true }
def FnRepoInterestUptoSaid : Prop := fnRepoInterestUptoRow.holds Tryd.pinned (OpenSpec.upto fnRepoInterestSpec)

/-- 'laws.FnRollRepo', WHERE WHAT IT READS IS OF BULK AT MOST 1048576: true; the input reads as it did. -/
def fnRollRepoUptoRow : OpenClaim := { program := "ytdphmeepbkmkkaadoor", sum := "af5ed5adc022c063ca1c77151a0541041332da4ab4f18ccca90bd9ec1bf577a1", func := "loop.example/bonddesk/laws.FnRollRepo", spec := "fnRollRepo", unfollowed := true, recurses := true, named := ["loop.example/bonddesk/impl.monthDays"], apart := false, laid := [("loop.example/bonddesk/impl.monthDays", laid_loop_example_bonddesk_impl_monthDays)], narrowed := true }
def FnRollRepoUptoSaid : Prop := fnRollRepoUptoRow.holds Tryd.pinned (OpenSpec.upto fnRollRepoSpec)

end Rows
end Go.Proofs.YtdphmeepbkmkkaaDoor
