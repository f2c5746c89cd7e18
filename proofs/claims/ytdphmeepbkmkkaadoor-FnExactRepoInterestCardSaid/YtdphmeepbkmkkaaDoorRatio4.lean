/- Ratios: the reference's comparison, sums, shares. -/
import Derived.Test.YtdphmeepbkmkkaaDoorRatio3
namespace Go.Proofs.YtdphmeepbkmkkaaDoor
open Go.RowKit
set_option linter.unusedVariables false
end Go.Proofs.YtdphmeepbkmkkaaDoor
