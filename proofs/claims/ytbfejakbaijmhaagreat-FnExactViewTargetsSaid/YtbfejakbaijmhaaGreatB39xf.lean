/- Merged texts. -/
import Derived.Test.YtbfejakbaijmhaaGreatAbsOxf
import Derived.Test.YtbfejakbaijmhaaGreatB34xf
set_option linter.unusedVariables false
set_option linter.unusedSimpArgs false
namespace Go.Q
open Go.RowKit
section
variable {P : Program} {ops : Array Oper} {o : Oper} {σ : St} {q : Bool}
end
end Go.Q
set_option linter.unusedVariables false
set_option linter.unusedSimpArgs false
set_option maxHeartbeats 1000000
set_option maxRecDepth 100000
namespace Go.Q
open Go.D
def validV (g : TGraph) (v : TView) : Bool := (buildV g v.Automaton v.Source).2 && decide ((buildV g v.Automaton v.Source).1 = v)
theorem validV_parts {g : TGraph} {v : TView} (h : validV g v = true) : goodB g v.Automaton v.Source 0 = true := by
  unfold validV buildV at h
  split at h
  · assumption
  · cases h
end Go.Q
namespace Go.Proofs.YtbfejakbaijmhaaGreat
open Go.RowKit Go.Q Go.D
end Go.Proofs.YtbfejakbaijmhaaGreat
