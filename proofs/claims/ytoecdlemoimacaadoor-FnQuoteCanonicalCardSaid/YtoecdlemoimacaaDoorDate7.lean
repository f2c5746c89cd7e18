/- Dates: the reference's months; the exported functions. -/
import Derived.Test.YtoecdlemoimacaaDoorDate6
namespace Go.Proofs.YtoecdlemoimacaaDoor
open Go.RowKit
set_option linter.unusedVariables false
end Go.Proofs.YtoecdlemoimacaaDoor
