/- Steps and their costs: both texts. -/
import Derived.Test.YtoealglkenhphaaB03xa
set_option linter.unusedVariables false
set_option linter.unusedSimpArgs false
namespace Go.Q
open Go.D
def reads (e : TEdge) (b : Bool) : Int := if b then 2 * e.Label + 1 else 2 * e.Label
end Go.Q
namespace Go.Proofs.Ytoealglkenhphaa
open Go.RowKit Go.Q Go.D
end Go.Proofs.Ytoealglkenhphaa
