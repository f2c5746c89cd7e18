/- Dates: the reference's validity and numbers. -/
import Derived.Test.YtoidghdgebdfaaaDoorDate2
namespace Go.Proofs.YtoidghdgebdfaaaDoor
open Go.RowKit
set_option linter.unusedVariables false
end Go.Proofs.YtoidghdgebdfaaaDoor
