/- Copying plain cells into a row of the call's own; numbers turned into other kinds. -/
import Derived.Test.YtjmbiiciogakoaaAbsNx
import Derived.Laws.Cover3
set_option linter.unusedVariables false
set_option linter.unusedSimpArgs false
namespace Go.Q
open Go.RowKit
section
variable {P : Program} {ops : Array Oper} {o : Oper} {σ : St} {q : Bool}
end
end Go.Q
