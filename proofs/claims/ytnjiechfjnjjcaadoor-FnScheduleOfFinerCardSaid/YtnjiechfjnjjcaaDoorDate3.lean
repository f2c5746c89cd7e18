/- Dates: the reference's validity and numbers. -/
import Derived.Test.YtnjiechfjnjjcaaDoorDate2
namespace Go.Proofs.YtnjiechfjnjjcaaDoor
open Go.RowKit
set_option linter.unusedVariables false
end Go.Proofs.YtnjiechfjnjjcaaDoor
