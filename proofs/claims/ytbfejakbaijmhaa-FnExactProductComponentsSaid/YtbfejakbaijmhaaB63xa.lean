/- How much is counted of the numbers of the components. -/
import Derived.Test.YtbfejakbaijmhaaB38xa
import Derived.Test.YtbfejakbaijmhaaB35xa
set_option linter.unusedVariables false
set_option linter.unusedSimpArgs false
set_option maxHeartbeats 1000000
set_option maxRecDepth 100000
namespace Go.Q
open Go.D
theorem comps_cnt (g : TGraph) (a : TAutomaton) : cntIntS (compsOf g a) ≤ 1048576 := by
  have h1 := cntIntS_len (compsOf g a)
  have h2 : (compsOf g a).length ≤ 60 := by
    cases h : goodC g a with
    | false => rw [(comps_bad h).1]; simp
    | true => obtain ⟨hg, ha⟩ := good_c2 h; rw [comps_len ha hg]; exact (prod_le ha hg).2
  omega
end Go.Q
