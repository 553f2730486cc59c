/- Views, registries, comparisons: both texts. -/
import Derived.Test.YtjmbiiciogakoaaB04x
set_option linter.unusedVariables false
set_option linter.unusedSimpArgs false
namespace Go.Q
open Go.D
end Go.Q
namespace Go.Proofs.Ytjmbiiciogakoaa
open Go.RowKit Go.Q Go.D
end Go.Proofs.Ytjmbiiciogakoaa
