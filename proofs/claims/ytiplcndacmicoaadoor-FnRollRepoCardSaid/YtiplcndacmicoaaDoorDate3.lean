/- Dates: the reference's validity and numbers. -/
import Derived.Test.YtiplcndacmicoaaDoorDate2
namespace Go.Proofs.YtiplcndacmicoaaDoor
open Go.RowKit
set_option linter.unusedVariables false
end Go.Proofs.YtiplcndacmicoaaDoor
