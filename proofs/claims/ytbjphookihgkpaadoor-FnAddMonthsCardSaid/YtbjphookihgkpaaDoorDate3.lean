/- Dates: the reference's validity and numbers. -/
import Derived.Test.YtbjphookihgkpaaDoorDate2
namespace Go.Proofs.YtbjphookihgkpaaDoor
open Go.RowKit
set_option linter.unusedVariables false
end Go.Proofs.YtbjphookihgkpaaDoor
