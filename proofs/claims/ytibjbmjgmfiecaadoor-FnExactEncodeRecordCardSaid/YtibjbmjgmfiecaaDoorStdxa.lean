/- Package slices, for the types of the program. -/
import Derived.Test.YtibjbmjgmfiecaaDoorAbsTyxa
set_option linter.unusedVariables false
set_option linter.unusedSimpArgs false
namespace Go.Q
end Go.Q
namespace Go.Proofs.YtibjbmjgmfiecaaDoor
open Go.RowKit Go.Q Go.D
end Go.Proofs.YtibjbmjgmfiecaaDoor
