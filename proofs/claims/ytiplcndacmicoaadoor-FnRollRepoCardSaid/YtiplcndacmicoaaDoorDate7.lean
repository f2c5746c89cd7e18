/- Dates: the reference's months; the exported functions. -/
import Derived.Test.YtiplcndacmicoaaDoorDate6
namespace Go.Proofs.YtiplcndacmicoaaDoor
open Go.RowKit
set_option linter.unusedVariables false
end Go.Proofs.YtiplcndacmicoaaDoor
