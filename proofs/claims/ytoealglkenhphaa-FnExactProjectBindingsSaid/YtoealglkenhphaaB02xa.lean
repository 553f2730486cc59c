/- Letters, words, costs: both texts. -/
import Derived.Test.YtoealglkenhphaaStdxa
import Derived.Test.YtoealglkenhphaaNilxa
set_option linter.unusedVariables false
set_option linter.unusedSimpArgs false
namespace Go.Q
open Go.D
end Go.Q
namespace Go.Proofs.Ytoealglkenhphaa
open Go.RowKit Go.Q Go.D
set_option maxRecDepth 100000 in
theorem implwithin (n a b : Int) : FnT Try.prog 31 [.one (.v (.int .i64 n)), .one (.v (.int .i64 a)), .one (.v (.int .i64 b))] (.a (.one (.v (.bool (inB n a b))))) := by
  refine FnT.walk Try.func31 rfl (by kernel_rfl) Try.ntmps31 rfl fun hlen w0 => ?_
  try simp [cPair, cToken, cExpr, cEdge, cGraph, cStep, cWalk, cChange, cBatch, cHistory, cPositions, cAutomaton, cProductStep, cPathAtom, cConjunction, cView, cDelta, cRegistered, cRegistry] at hlen
  refine AW.seq ?_
  refine AW.region ?_
  refine AWl.put (R_assign rfl (.no rfl) rfl (.const rfl)) rfl ?_
  refine AWl.nil ?_
  refine AW.seq ?_
  refine AW.region ?_
  refine AWl.put (R_move rfl (.no rfl) rfl (.tmp rfl fun _ => rfl)) rfl ?_
  refine AWl.put (R_move rfl (.no rfl) rfl (.tmp rfl fun _ => rfl)) rfl ?_
  refine AWl.put (R_ge rfl (.no rfl) rfl (.tmp rfl fun _ => rfl) (.tmp rfl fun _ => rfl)) rfl ?_
  refine AWl.put (R_move rfl (.no rfl) rfl (.tmp rfl fun _ => rfl)) rfl ?_
  refine AWl.put (R_move rfl (by first | exact .yes1 rfl rfl rfl rfl | exact .yes rfl rfl rfl rfl) rfl (.tmp rfl (by first | exact fun _ => rfl | exact id | simp))) rfl ?_
  refine AWl.put (R_move rfl (by first | exact .yes1 rfl rfl rfl rfl | exact .yes rfl rfl rfl rfl) rfl (.tmp rfl (by first | exact fun _ => rfl | exact id | simp))) rfl ?_
  refine AWl.put (R_le rfl (by first | exact .yes1 rfl rfl rfl rfl | exact .yes rfl rfl rfl rfl) rfl (.tmp rfl (by first | exact fun _ => rfl | exact id | simp)) (.tmp rfl (by first | exact fun _ => rfl | exact id | simp))) rfl ?_
  refine AWl.put (R_and rfl (.no rfl) rfl (.tmp rfl fun _ => rfl) (.tmp rfl (by first | exact fun _ => rfl | exact id | simp))) rfl ?_
  refine AWl.put (R_assign rfl (.no rfl) rfl (.tmp rfl fun _ => rfl)) rfl ?_
  refine AWl.nil ?_
  refine AW.ret ?_
  refine Res.v rfl rfl ?_
  rfl
set_option maxRecDepth 100000 in
theorem specl1In (n a b : Int) : FnT Try.prog 29 [.one (.v (.int .i64 n)), .one (.v (.int .i64 a)), .one (.v (.int .i64 b))] (.a (.one (.v (.bool (inB n a b))))) := by
  refine FnT.walk Try.func29 rfl (by kernel_rfl) Try.ntmps29 rfl fun hlen w0 => ?_
  try simp [cPair, cToken, cExpr, cEdge, cGraph, cStep, cWalk, cChange, cBatch, cHistory, cPositions, cAutomaton, cProductStep, cPathAtom, cConjunction, cView, cDelta, cRegistered, cRegistry] at hlen
  refine AW.seq ?_
  refine AW.region ?_
  refine AWl.put (R_assign rfl (.no rfl) rfl (.const rfl)) rfl ?_
  refine AWl.nil ?_
  refine AW.seq ?_
  refine AW.region ?_
  refine AWl.put (R_move rfl (.no rfl) rfl (.tmp rfl fun _ => rfl)) rfl ?_
  refine AWl.put (R_move rfl (.no rfl) rfl (.tmp rfl fun _ => rfl)) rfl ?_
  refine AWl.put (R_ge rfl (.no rfl) rfl (.tmp rfl fun _ => rfl) (.tmp rfl fun _ => rfl)) rfl ?_
  refine AWl.put (R_move rfl (.no rfl) rfl (.tmp rfl fun _ => rfl)) rfl ?_
  refine AWl.put (R_move rfl (by first | exact .yes1 rfl rfl rfl rfl | exact .yes rfl rfl rfl rfl) rfl (.tmp rfl (by first | exact fun _ => rfl | exact id | simp))) rfl ?_
  refine AWl.put (R_move rfl (by first | exact .yes1 rfl rfl rfl rfl | exact .yes rfl rfl rfl rfl) rfl (.tmp rfl (by first | exact fun _ => rfl | exact id | simp))) rfl ?_
  refine AWl.put (R_le rfl (by first | exact .yes1 rfl rfl rfl rfl | exact .yes rfl rfl rfl rfl) rfl (.tmp rfl (by first | exact fun _ => rfl | exact id | simp)) (.tmp rfl (by first | exact fun _ => rfl | exact id | simp))) rfl ?_
  refine AWl.put (R_and rfl (.no rfl) rfl (.tmp rfl fun _ => rfl) (.tmp rfl (by first | exact fun _ => rfl | exact id | simp))) rfl ?_
  refine AWl.put (R_assign rfl (.no rfl) rfl (.tmp rfl fun _ => rfl)) rfl ?_
  refine AWl.nil ?_
  refine AW.ret ?_
  refine Res.v rfl rfl ?_
  rfl
end Go.Proofs.Ytoealglkenhphaa
