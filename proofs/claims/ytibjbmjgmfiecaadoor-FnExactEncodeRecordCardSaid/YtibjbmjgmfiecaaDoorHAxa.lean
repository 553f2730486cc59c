/- The helpers of the laws: copies, comparisons, sizes. -/
import Derived.Test.YtibjbmjgmfiecaaDoorAbsTyxa
set_option linter.unusedVariables false
set_option linter.unusedSimpArgs false
namespace Go.Proofs.YtibjbmjgmfiecaaDoor
open Go.RowKit Go.Q Go.D
end Go.Proofs.YtibjbmjgmfiecaaDoor
