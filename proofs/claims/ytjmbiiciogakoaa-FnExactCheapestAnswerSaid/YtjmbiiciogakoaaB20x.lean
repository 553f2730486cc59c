/- Copies of automata: both texts. -/
import Derived.Test.YtjmbiiciogakoaaB19x
import Derived.Test.YtjmbiiciogakoaaAbsNx
set_option linter.unusedVariables false
set_option linter.unusedSimpArgs false
set_option maxHeartbeats 1000000
set_option maxRecDepth 100000
namespace Go.Q
open Go.D
end Go.Q
namespace Go.Proofs.Ytjmbiiciogakoaa
open Go.RowKit Go.Q Go.D
end Go.Proofs.Ytjmbiiciogakoaa
