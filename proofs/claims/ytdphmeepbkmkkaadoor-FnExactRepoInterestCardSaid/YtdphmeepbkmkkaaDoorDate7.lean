/- Dates: the reference's months; the exported functions. -/
import Derived.Test.YtdphmeepbkmkkaaDoorDate6
namespace Go.Proofs.YtdphmeepbkmkkaaDoor
open Go.RowKit
set_option linter.unusedVariables false
end Go.Proofs.YtdphmeepbkmkkaaDoor
