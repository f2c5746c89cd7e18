/- Dates: the date of a day. -/
import Derived.Test.YtoecdlemoimacaaDoorDate4
namespace Go.Proofs.YtoecdlemoimacaaDoor
open Go.RowKit
set_option linter.unusedVariables false
end Go.Proofs.YtoecdlemoimacaaDoor
