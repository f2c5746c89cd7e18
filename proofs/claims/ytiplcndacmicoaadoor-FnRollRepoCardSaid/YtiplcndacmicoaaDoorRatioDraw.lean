/- The draws of ratios. -/
import Derived.Test.YtiplcndacmicoaaDoorRatio5
import Derived.Test.YtiplcndacmicoaaDoorReader3
namespace Go.Proofs.YtiplcndacmicoaaDoor
open Go.RowKit
set_option linter.unusedVariables false
def AnyRatPost (R : Nat) (K : Int) (w : World) (e : Ending) (w' : World) : Prop :=
  ∃ n d : Int, e = .returned (.agg #[.int .i64 n, .int .i64 d]) ∧ Keep R w w' ∧ Rd w' R (K + 5)
end Go.Proofs.YtiplcndacmicoaaDoor
