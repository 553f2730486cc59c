/- slices.Repeat of one number; the program's breadth first search. -/
import Derived.Test.YtjmbiiciogakoaaB20x
import Derived.Test.YtjmbiiciogakoaaAbsOx
import Derived.Shelf.Bits.Mul64
import Derived.Shelf.Lay
import Derived.Ground.NamesProg
set_option linter.unusedVariables false
set_option linter.unusedSimpArgs false
set_option maxHeartbeats 1000000
set_option maxRecDepth 100000
namespace Go.Q
open Go.D
end Go.Q
namespace Go.Proofs.Ytjmbiiciogakoaa
open Go.RowKit Go.Q Go.D
end Go.Proofs.Ytjmbiiciogakoaa
