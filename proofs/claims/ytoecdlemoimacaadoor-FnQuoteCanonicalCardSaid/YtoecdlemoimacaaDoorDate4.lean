/- Dates: the reference's numbers; the date of a day. -/
import Derived.Test.YtoecdlemoimacaaDoorDate3
namespace Go.Proofs.YtoecdlemoimacaaDoor
open Go.RowKit
set_option linter.unusedVariables false
end Go.Proofs.YtoecdlemoimacaaDoor
