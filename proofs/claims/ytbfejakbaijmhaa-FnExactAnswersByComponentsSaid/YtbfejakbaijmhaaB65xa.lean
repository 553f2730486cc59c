/- How much is counted of all answers. -/
import Derived.Test.YtbfejakbaijmhaaB46xa
import Derived.Test.YtbfejakbaijmhaaB35xa
set_option linter.unusedVariables false
set_option linter.unusedSimpArgs false
set_option maxHeartbeats 1000000
set_option maxRecDepth 100000
namespace Go.Q
open Go.D
theorem all_cnt (g : TGraph) (a : TAutomaton) : cntPairS (allAns g a) ≤ 1048576 := by
  rw [cntPairS_len]
  unfold allAns
  split
  · rename_i h
    obtain ⟨hg, ha⟩ := good_c2 h
    have h2 := allTo_len ha hg g.Values.length
    have h3 := (validG_len hg).2.1
    omega
  · simp
end Go.Q
