/- Dates: the reference's validity and numbers. -/
import Derived.Test.YtdphmeepbkmkkaaDoorDate2
namespace Go.Proofs.YtdphmeepbkmkkaaDoor
open Go.RowKit
set_option linter.unusedVariables false
end Go.Proofs.YtdphmeepbkmkkaaDoor
