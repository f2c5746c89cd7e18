/- Ratios: the reference's comparison, sums, shares. -/
import Derived.Test.YtiplcndacmicoaaDoorRatio3
namespace Go.Proofs.YtiplcndacmicoaaDoor
open Go.RowKit
set_option linter.unusedVariables false
end Go.Proofs.YtiplcndacmicoaaDoor
