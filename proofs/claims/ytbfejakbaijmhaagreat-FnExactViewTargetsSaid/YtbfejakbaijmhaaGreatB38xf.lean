/- Merged texts. -/
import Derived.Test.YtbfejakbaijmhaaGreatB24xf
set_option linter.unusedVariables false
set_option linter.unusedSimpArgs false
set_option maxHeartbeats 1000000
set_option maxRecDepth 100000
namespace Go.Q
open Go.D
theorem mem_ascL {l : List Int} {x : Int} : x ∈ ascL l ↔ x ∈ l := mem_setG
section
variable {rel : Nat → Nat → Bool} {N i k : Nat}
end
end Go.Q
namespace Go.Proofs.YtbfejakbaijmhaaGreat
open Go.RowKit Go.Q Go.D
end Go.Proofs.YtbfejakbaijmhaaGreat
set_option linter.unusedVariables false
set_option linter.unusedSimpArgs false
set_option maxHeartbeats 1000000
set_option maxRecDepth 100000
namespace Go.Q
open Go.D
def NP (g : TGraph) (a : TAutomaton) : Nat := a.Accept.length * g.Values.length
end Go.Q
namespace Go.Proofs.YtbfejakbaijmhaaGreat
open Go.RowKit Go.Q Go.D
end Go.Proofs.YtbfejakbaijmhaaGreat
set_option linter.unusedVariables false
set_option linter.unusedSimpArgs false
set_option maxHeartbeats 1000000
set_option maxRecDepth 100000
namespace Go.Q
open Go.D
end Go.Q
namespace Go.Proofs.YtbfejakbaijmhaaGreat
open Go.RowKit Go.Q Go.D
end Go.Proofs.YtbfejakbaijmhaaGreat
