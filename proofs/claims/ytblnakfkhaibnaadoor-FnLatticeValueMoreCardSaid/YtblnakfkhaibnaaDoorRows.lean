/-
  NARROWER THAN 'FOR EVERY INPUT', by the rows' own cells (each row's printed sentence says how): FnExactLatticeValue: ifaces, laid · FnExactCallWorth: ifaces, laid · FnLatticeValue: ifaces, laid · FnLatticeValueMore: ifaces, laid · FnLatticeValueRate: ifaces, laid · FnCallWorth: ifaces, laid.
  DERIVED. THE GIVEN ROWS OF THIS SEAT. 6 by the template 'for every input the law returns true; each argument reads behind the call as it read before'; 0 by the template 'total and deterministic' (their statements: YtblnakfkhaibnaaDoorTotals.lean).
  GIVEN WITH THE SEED: the statements are not yours to turn. If you find one false, say at which input.
  Laid BY PROGRAM, IN A SANDBOX (cutbox-rows.mjs): the forced cells as the released guide's own fill.sh prints them over the translation 8b5d3ed3fc297dfb… (all of the seat's roots in one cut). By AI agents, Wed Nov 11 2026. No macro, syntax, notation, axiom, sorry.
-/
import Derived.Test.YtblnakfkhaibnaaDoorChecked
import GoSem.Claim
import GoSem.ClaimJoined
import GoSem.ClaimMapViews
import Derived.JoinedTies
import Derived.KernelRfl
namespace Go.Proofs.YtblnakfkhaibnaaDoor
/- THE CELL 'sum', in the pinned program and in every row, IS THE sha256 OF THE DUMP (.gsa) THAT YtblnakfkhaibnaaDoorProg.lean LOADS. Nothing in Lean hashes anything: it is a label: what it is worth is what the hold of that sum in a sandbox is worth. -/
noncomputable def Tryd.pinned : Pinned := { name := "ytblnakfkhaibnaadoor", sum := "8b5d3ed3fc297dfb55bd43869ac5f90a04cd7442dcfdda0d0dd5094a690ce8aa", checked := Tryd.checked }
namespace Rows
def none {H : Type} : Left H := { results := [], args := [] }

/- WHAT THE LISTED PACKAGE-LEVEL VARIABLES READ AS WHEN THE CALL BEGINS. Each datum BY PROGRAM (the guide's laid-datum.mjs) off the statement by which the dump's own 'gosem.cut.vars' lays the variable. In a bare row this is a premise. The card (YtblnakfkhaibnaaDoorCards.lean) ties it to the program's text. -/
def laid_loop_example_bonddesk_impl_errRange {H : Type} : DataW H := .iface "*errors.errorString" (.ptr (.agg [.lit (.string [110, 111, 32, 114, 97, 110, 103, 101])]))

/-- 'laws.FnExactLatticeValue': WHATEVER THE INPUT: true; the input reads as it did. -/
def fnExactLatticeValueSpec : ChangeSpec := { name := "fnExactLatticeValue", vars := ["loop.example/bonddesk/impl.errRange"], fn := fun _ => fun
  | [d1, d2, d3, g1] => { results := [.lit (.bool true)], args := [d1, d2, d3], vars := [g1] }
  | _ => none }
def fnExactLatticeValueRow : OpenClaim := { program := "ytblnakfkhaibnaadoor", sum := "8b5d3ed3fc297dfb55bd43869ac5f90a04cd7442dcfdda0d0dd5094a690ce8aa", func := "loop.example/bonddesk/laws.FnExactLatticeValue", spec := "fnExactLatticeValue", unfollowed := true, recurses := true, named := ["loop.example/bonddesk/impl.errRange"], ifaces := true, apart := false, laid := [("loop.example/bonddesk/impl.errRange", laid_loop_example_bonddesk_impl_errRange)] }
def FnExactLatticeValueSaid : Prop := fnExactLatticeValueRow.holds Tryd.pinned (OpenSpec.ofChange fnExactLatticeValueSpec)

/-- ITS FALSE NEIGHBOUR: 'it returns false'. Refute it at one input. -/
def fnExactLatticeValueWrong : ChangeSpec := { name := "fnExactLatticeValue", vars := ["loop.example/bonddesk/impl.errRange"], fn := fun _ => fun
  | [d1, d2, d3, g1] => { results := [.lit (.bool false)], args := [d1, d2, d3], vars := [g1] }
  | _ => none }
def FnExactLatticeValueWrongFalsely : Prop := fnExactLatticeValueRow.holds Tryd.pinned (OpenSpec.ofChange fnExactLatticeValueWrong)

/-- 'laws.FnExactCallWorth': WHATEVER THE INPUT: true; the input reads as it did. -/
def fnExactCallWorthSpec : ChangeSpec := { name := "fnExactCallWorth", vars := ["loop.example/bonddesk/impl.errRange"], fn := fun _ => fun
  | [d1, d2, d3, g1] => { results := [.lit (.bool true)], args := [d1, d2, d3], vars := [g1] }
  | _ => none }
def fnExactCallWorthRow : OpenClaim := { program := "ytblnakfkhaibnaadoor", sum := "8b5d3ed3fc297dfb55bd43869ac5f90a04cd7442dcfdda0d0dd5094a690ce8aa", func := "loop.example/bonddesk/laws.FnExactCallWorth", spec := "fnExactCallWorth", unfollowed := true, recurses := true, named := ["loop.example/bonddesk/impl.errRange"], ifaces := true, apart := false, laid := [("loop.example/bonddesk/impl.errRange", laid_loop_example_bonddesk_impl_errRange)] }
def FnExactCallWorthSaid : Prop := fnExactCallWorthRow.holds Tryd.pinned (OpenSpec.ofChange fnExactCallWorthSpec)

/-- ITS FALSE NEIGHBOUR: 'it returns false'. Refute it at one input. -/
def fnExactCallWorthWrong : ChangeSpec := { name := "fnExactCallWorth", vars := ["loop.example/bonddesk/impl.errRange"], fn := fun _ => fun
  | [d1, d2, d3, g1] => { results := [.lit (.bool false)], args := [d1, d2, d3], vars := [g1] }
  | _ => none }
def FnExactCallWorthWrongFalsely : Prop := fnExactCallWorthRow.holds Tryd.pinned (OpenSpec.ofChange fnExactCallWorthWrong)

/-- 'laws.FnLatticeValue': WHATEVER THE INPUT: true; the input reads as it did. -/
def fnLatticeValueSpec : ChangeSpec := { name := "fnLatticeValue", vars := ["loop.example/bonddesk/impl.errRange"], fn := fun _ => fun
  | [d, g1] => { results := [.lit (.bool true)], args := [d], vars := [g1] }
  | _ => none }
def fnLatticeValueRow : OpenClaim := { program := "ytblnakfkhaibnaadoor", sum := "8b5d3ed3fc297dfb55bd43869ac5f90a04cd7442dcfdda0d0dd5094a690ce8aa", func := "loop.example/bonddesk/laws.FnLatticeValue", spec := "fnLatticeValue", unfollowed := true, recurses := true, named := ["loop.example/bonddesk/impl.errRange"], ifaces := true, apart := false, laid := [("loop.example/bonddesk/impl.errRange", laid_loop_example_bonddesk_impl_errRange)] }
def FnLatticeValueSaid : Prop := fnLatticeValueRow.holds Tryd.pinned (OpenSpec.ofChange fnLatticeValueSpec)

/-- ITS FALSE NEIGHBOUR: 'it returns false'. Refute it at one input. -/
def fnLatticeValueWrong : ChangeSpec := { name := "fnLatticeValue", vars := ["loop.example/bonddesk/impl.errRange"], fn := fun _ => fun
  | [d, g1] => { results := [.lit (.bool false)], args := [d], vars := [g1] }
  | _ => none }
def FnLatticeValueWrongFalsely : Prop := fnLatticeValueRow.holds Tryd.pinned (OpenSpec.ofChange fnLatticeValueWrong)

/-- 'laws.FnLatticeValueMore': WHATEVER THE INPUT: true; the input reads as it did. -/
def fnLatticeValueMoreSpec : ChangeSpec := { name := "fnLatticeValueMore", vars := ["loop.example/bonddesk/impl.errRange"], fn := fun _ => fun
  | [d, g1] => { results := [.lit (.bool true)], args := [d], vars := [g1] }
  | _ => none }
def fnLatticeValueMoreRow : OpenClaim := { program := "ytblnakfkhaibnaadoor", sum := "8b5d3ed3fc297dfb55bd43869ac5f90a04cd7442dcfdda0d0dd5094a690ce8aa", func := "loop.example/bonddesk/laws.FnLatticeValueMore", spec := "fnLatticeValueMore", unfollowed := true, recurses := true, named := ["loop.example/bonddesk/impl.errRange"], ifaces := true, apart := false, laid := [("loop.example/bonddesk/impl.errRange", laid_loop_example_bonddesk_impl_errRange)] }
def FnLatticeValueMoreSaid : Prop := fnLatticeValueMoreRow.holds Tryd.pinned (OpenSpec.ofChange fnLatticeValueMoreSpec)

/-- ITS FALSE NEIGHBOUR: 'it returns false'. Refute it at one input. -/
def fnLatticeValueMoreWrong : ChangeSpec := { name := "fnLatticeValueMore", vars := ["loop.example/bonddesk/impl.errRange"], fn := fun _ => fun
  | [d, g1] => { results := [.lit (.bool false)], args := [d], vars := [g1] }
  | _ => none }
def FnLatticeValueMoreWrongFalsely : Prop := fnLatticeValueMoreRow.holds Tryd.pinned (OpenSpec.ofChange fnLatticeValueMoreWrong)

/-- 'laws.FnLatticeValueRate': WHATEVER THE INPUT: true; the input reads as it did. -/
def fnLatticeValueRateSpec : ChangeSpec := { name := "fnLatticeValueRate", vars := ["loop.example/bonddesk/impl.errRange"], fn := fun _ => fun
  | [d, g1] => { results := [.lit (.bool true)], args := [d], vars := [g1] }
  | _ => none }
def fnLatticeValueRateRow : OpenClaim := { program := "ytblnakfkhaibnaadoor", sum := "8b5d3ed3fc297dfb55bd43869ac5f90a04cd7442dcfdda0d0dd5094a690ce8aa", func := "loop.example/bonddesk/laws.FnLatticeValueRate", spec := "fnLatticeValueRate", unfollowed := true, recurses := true, named := ["loop.example/bonddesk/impl.errRange"], ifaces := true, apart := false, laid := [("loop.example/bonddesk/impl.errRange", laid_loop_example_bonddesk_impl_errRange)] }
def FnLatticeValueRateSaid : Prop := fnLatticeValueRateRow.holds Tryd.pinned (OpenSpec.ofChange fnLatticeValueRateSpec)

/-- ITS FALSE NEIGHBOUR: 'it returns false'. Refute it at one input. -/
def fnLatticeValueRateWrong : ChangeSpec := { name := "fnLatticeValueRate", vars := ["loop.example/bonddesk/impl.errRange"], fn := fun _ => fun
  | [d, g1] => { results := [.lit (.bool false)], args := [d], vars := [g1] }
  | _ => none }
def FnLatticeValueRateWrongFalsely : Prop := fnLatticeValueRateRow.holds Tryd.pinned (OpenSpec.ofChange fnLatticeValueRateWrong)

/-- 'laws.FnCallWorth': WHATEVER THE INPUT: true; the input reads as it did. -/
def fnCallWorthSpec : ChangeSpec := { name := "fnCallWorth", vars := ["loop.example/bonddesk/impl.errRange"], fn := fun _ => fun
  | [d, g1] => { results := [.lit (.bool true)], args := [d], vars := [g1] }
  | _ => none }
def fnCallWorthRow : OpenClaim := { program := "ytblnakfkhaibnaadoor", sum := "8b5d3ed3fc297dfb55bd43869ac5f90a04cd7442dcfdda0d0dd5094a690ce8aa", func := "loop.example/bonddesk/laws.FnCallWorth", spec := "fnCallWorth", unfollowed := true, recurses := true, named := ["loop.example/bonddesk/impl.errRange"], ifaces := true, apart := false, laid := [("loop.example/bonddesk/impl.errRange", laid_loop_example_bonddesk_impl_errRange)] }
def FnCallWorthSaid : Prop := fnCallWorthRow.holds Tryd.pinned (OpenSpec.ofChange fnCallWorthSpec)

/-- ITS FALSE NEIGHBOUR: 'it returns false'. Refute it at one input. -/
def fnCallWorthWrong : ChangeSpec := { name := "fnCallWorth", vars := ["loop.example/bonddesk/impl.errRange"], fn := fun _ => fun
  | [d, g1] => { results := [.lit (.bool false)], args := [d], vars := [g1] }
  | _ => none }
def FnCallWorthWrongFalsely : Prop := fnCallWorthRow.holds Tryd.pinned (OpenSpec.ofChange fnCallWorthWrong)

/- THE SECOND FORM. 'bulk': how many values and letters a reading holds, each counted each time it is reached (what is shared counts as often as it is met; a slice's spare places count too). A statement '..UptoSaid' is the law's where the arguments, and the package variables that the reading takes, are together of bulk at most 1048576: NARROWER than '..Said'. Prove '..Said' where nothing that the law and all that it calls make is longer than what came in: it says more and counts as full. Else prove '..UptoSaid'. A law counts once. -/
mutual
def uptoBulk {H : Type} : DataW H → Nat
  | .lit (.string bytes) => bytes.length + 1
  | .lit _ => 1
  | .nil => 1
  | .ptr d => uptoBulk d + 1
  | .slice elems spare => uptoBulkAll elems + uptoBulkAll spare + 1
  | .agg parts => uptoBulkAll parts + 1
  | .iface _ d => uptoBulk d + 1
  | .map entries => uptoBulkEntries entries + 1
  | .held _ => 1
def uptoBulkAll {H : Type} : List (DataW H) → Nat
  | [] => 0
  | d :: r => uptoBulk d + uptoBulkAll r
def uptoBulkEntries {H : Type} : List (Lit × DataW H) → Nat
  | [] => 0
  | x :: r => uptoBulkEntry x + uptoBulkEntries r
def uptoBulkEntry {H : Type} : Lit × DataW H → Nat
  | (.string bytes, d) => bytes.length + uptoBulk d + 1
  | (_, d) => uptoBulk d + 1
 end
def uptoSmall : (H : Type) → List (DataW H) → Bool := fun _ ds => decide (uptoBulkAll ds ≤ 1048576)
def OpenSpec.upto (s : _root_.Go.ChangeSpec) : _root_.Go.OpenSpec := { _root_.Go.OpenSpec.ofChange s with cond := some uptoSmall }

/-- 'laws.FnExactLatticeValue', WHERE WHAT IT READS IS OF BULK AT MOST 1048576: true; the input reads as it did. -/
def fnExactLatticeValueUptoRow : OpenClaim := { program := "ytblnakfkhaibnaadoor", sum := "8b5d3ed3fc297dfb55bd43869ac5f90a04cd7442dcfdda0d0dd5094a690ce8aa", func := "loop.example/bonddesk/laws.FnExactLatticeValue", spec := "fnExactLatticeValue", unfollowed := true, recurses := true, named := ["loop.example/bonddesk/impl.errRange"], ifaces := true, apart := false, laid := [("loop.example/bonddesk/impl.errRange", laid_loop_example_bonddesk_impl_errRange)], narrowed := true }
def FnExactLatticeValueUptoSaid : Prop := fnExactLatticeValueUptoRow.holds Tryd.pinned (OpenSpec.upto fnExactLatticeValueSpec)

/-- 'laws.FnExactCallWorth', WHERE WHAT IT READS IS OF BULK AT MOST 1048576: true; the input reads as it did. -/
def fnExactCallWorthUptoRow : OpenClaim := { program := "ytblnakfkhaibnaadoor", sum := "8b5d3ed3fc297dfb55bd43869ac5f90a04cd7442dcfdda0d0dd5094a690ce8aa", func := "loop.example/bonddesk/laws.FnExactCallWorth", spec := "fnExactCallWorth", unfollowed := true, recurses := true, named := ["loop.example/bonddesk/impl.errRange"], ifaces := true, apart := false, laid := [("loop.example/bonddesk/impl.errRange", laid_loop_example_bonddesk_impl_errRange)], narrowed := true }
def FnExactCallWorthUptoSaid : Prop := fnExactCallWorthUptoRow.holds Tryd.pinned (OpenSpec.upto fnExactCallWorthSpec)

/-- 'laws.FnLatticeValue', WHERE WHAT IT READS IS OF BULK AT MOST 1048576: true; the input reads as it did. -/
def fnLatticeValueUptoRow : OpenClaim := { program := "ytblnakfkhaibnaadoor", sum := "8b5d3ed3fc297dfb55bd43869ac5f90a04cd7442dcfdda0d0dd5094a690ce8aa", func := "loop.example/bonddesk/laws.FnLatticeValue", spec := "fnLatticeValue", unfollowed := true, recurses := true, named := ["loop.example/bonddesk/impl.errRange"], ifaces := true, apart := false, laid := [("loop.example/bonddesk/impl.errRange", laid_loop_example_bonddesk_impl_errRange)], narrowed := true }
def FnLatticeValueUptoSaid : Prop := fnLatticeValueUptoRow.holds Tryd.pinned (OpenSpec.upto fnLatticeValueSpec)

/-- 'laws.FnLatticeValueMore', WHERE WHAT IT READS IS OF BULK AT MOST 1048576: true; the input reads as it did. -/
def fnLatticeValueMoreUptoRow : OpenClaim := { program := "ytblnakfkhaibnaadoor", sum := "8b5d3ed3fc297dfb55bd43869ac5f90a04cd7442dcfdda0d0dd5094a690ce8aa", func := "loop.example/bonddesk/laws.FnLatticeValueMore", spec := "fnLatticeValueMore", unfollowed := true, recurses := true, named := ["loop.example/bonddesk/impl.errRange"], ifaces := true, apart := false, laid := [("loop.example/bonddesk/impl.errRange", laid_loop_example_bonddesk_impl_errRange)], narrowed := true }
def FnLatticeValueMoreUptoSaid : Prop := fnLatticeValueMoreUptoRow.holds Tryd.pinned (OpenSpec.upto fnLatticeValueMoreSpec)

/-- 'laws.FnLatticeValueRate', WHERE WHAT IT READS IS OF BULK AT MOST 1048576: true; the input reads as it did. -/
def fnLatticeValueRateUptoRow : OpenClaim := { program := "ytblnakfkhaibnaadoor", sum := "8b5d3ed3fc297dfb55bd43869ac5f90a04cd7442dcfdda0d0dd5094a690ce8aa", func := "loop.example/bonddesk/laws.FnLatticeValueRate", spec := "fnLatticeValueRate", unfollowed := true, recurses := true, named := ["loop.example/bonddesk/impl.errRange"], ifaces := true, apart := false, laid := [("loop.example/bonddesk/impl.errRange", laid_loop_example_bonddesk_impl_errRange)], narrowed := true }
def FnLatticeValueRateUptoSaid : Prop := fnLatticeValueRateUptoRow.holds Tryd.pinned (OpenSpec.upto fnLatticeValueRateSpec)

/-- 'laws.FnCallWorth', WHERE WHAT IT READS IS OF BULK AT MOST 1048576: true; the input reads as it did. -/
def fnCallWorthUptoRow : OpenClaim := { program := "ytblnakfkhaibnaadoor", sum := "8b5d3ed3fc297dfb55bd43869ac5f90a04cd7442dcfdda0d0dd5094a690ce8aa", func := "loop.example/bonddesk/laws.FnCallWorth", spec := "fnCallWorth", unfollowed := true, recurses := true, named := ["loop.example/bonddesk/impl.errRange"], ifaces := true, apart := false, laid := [("loop.example/bonddesk/impl.errRange", laid_loop_example_bonddesk_impl_errRange)], narrowed := true }
def FnCallWorthUptoSaid : Prop := fnCallWorthUptoRow.holds Tryd.pinned (OpenSpec.upto fnCallWorthSpec)

end Rows
end Go.Proofs.YtblnakfkhaibnaaDoor
