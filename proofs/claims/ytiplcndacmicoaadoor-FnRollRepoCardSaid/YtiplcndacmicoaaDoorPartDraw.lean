/- Parts of years and interest: the draws. -/
import Derived.Test.YtiplcndacmicoaaDoorPart8
import Derived.Test.YtiplcndacmicoaaDoorDateDraw
namespace Go.Proofs.YtiplcndacmicoaaDoor
open Go.RowKit
set_option linter.unusedVariables false
end Go.Proofs.YtiplcndacmicoaaDoor
