/- What marked data are. -/
import Derived.Test.YtbfejakbaijmhaaAbsTyxb
set_option linter.unusedVariables false
set_option linter.unusedSimpArgs false
namespace Go.D
open Go.Q
end Go.D
