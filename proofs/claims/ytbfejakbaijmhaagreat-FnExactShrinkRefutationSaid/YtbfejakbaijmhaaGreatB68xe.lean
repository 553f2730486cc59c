/- How much is counted of a shrunk graph. -/
import Derived.Test.YtbfejakbaijmhaaGreatB61xe
import Derived.Test.YtbfejakbaijmhaaGreatHMxe
set_option linter.unusedVariables false
set_option linter.unusedSimpArgs false
set_option maxHeartbeats 1000000
set_option maxRecDepth 100000
namespace Go.Q
open Go.D
theorem shrinkR_ok {g : TGraph} (a b : TExpr) (x y : Int) (h : okGraph g) : okGraph (shrinkR g a b x y).1 := by
  unfold shrinkR
  split
  · have h1 := shrTo_len g a b x y g.Edges.length
    exact ⟨show _ ≤ 1048576 from Nat.le_trans (Nat.le_of_eq h1.1) h.1, show _ ≤ 1048576 from Nat.le_trans h1.2 h.2.1, trivial⟩
  · exact h
end Go.Q
