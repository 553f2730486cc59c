/- Package slices, for the types of the program. -/
import Derived.Test.YtjmbiiciogakoaaAbsTyx
set_option linter.unusedVariables false
set_option linter.unusedSimpArgs false
namespace Go.Q
end Go.Q
namespace Go.Proofs.Ytjmbiiciogakoaa
open Go.RowKit Go.Q Go.D
end Go.Proofs.Ytjmbiiciogakoaa
