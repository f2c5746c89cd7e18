/- The laws over parts of years. -/
import Derived.Test.YtiplcndacmicoaaDoorPartDraw
import Derived.Test.YtiplcndacmicoaaDoorRatioDraw2
namespace Go.Proofs.YtiplcndacmicoaaDoor
open Go.RowKit
set_option linter.unusedVariables false
theorem big_FnRepoInterest (a : Option Addr) (len cap : Nat) (w : World) (hlc : len ≤ cap) (hc : cap ≤ maxLen) (hbig : 1048576 < len) :
    Calls Tryd.prog 4 #[.slice a len cap] w fun e w' => e = .returned (.bool true) ∧ Below w.heap.size w w' := by
  unfold maxLen at hc
  go_enter Tryd.func4, Tryd.ntmps4
  go_wp2
  go_ret
  exact ⟨rfl, Below.refl _ _⟩
theorem big_FnRollRepo (a : Option Addr) (len cap : Nat) (w : World) (hlc : len ≤ cap) (hc : cap ≤ maxLen) (hbig : 1048576 < len) :
    Calls Tryd.prog 5 #[.slice a len cap] w fun e w' => e = .returned (.bool true) ∧ Below w.heap.size w w' := by
  unfold maxLen at hc
  go_enter Tryd.func5, Tryd.ntmps5
  go_wp2
  go_ret
  exact ⟨rfl, Below.refl _ _⟩
end Go.Proofs.YtiplcndacmicoaaDoor
