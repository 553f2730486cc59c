/- Letters, words, costs: both texts. -/
import Derived.Test.YtbfejakbaijmhaaStdxb
import Derived.Test.YtbfejakbaijmhaaNilxb
set_option linter.unusedVariables false
set_option linter.unusedSimpArgs false
namespace Go.Q
open Go.D
def isWord (l : List Int) : Bool := (l.all fun n => inB n 0 8) && decide (l.length ≤ 8)
end Go.Q
namespace Go.Proofs.Ytbfejakbaijmhaa
open Go.RowKit Go.Q Go.D
set_option maxRecDepth 100000 in
theorem implwithin (n a b : Int) : FnT Try.prog 114 [.one (.v (.int .i64 n)), .one (.v (.int .i64 a)), .one (.v (.int .i64 b))] (.a (.one (.v (.bool (inB n a b))))) := by
  refine FnT.walk Try.func114 rfl (by kernel_rfl) Try.ntmps114 rfl fun hlen w0 => ?_
  try simp [cPair, cToken, cExpr, cEdge, cGraph, cStep, cWalk, cChange, cBatch, cHistory, cPositions, cAutomaton, cProductStep, cPathAtom, cConjunction, cView, cDelta, cRegistered, cRegistry] at hlen
  refine AW.seq ?_
  refine AW.region ?_
  refine AWl.put (R_assign rfl (.no rfl) rfl (.const rfl)) rfl ?_
  refine AWl.nil ?_
  refine AW.seq ?_
  refine AW.region ?_
  refine AWl.put (R_move rfl (.no rfl) rfl (.tmp rfl fun _ => rfl)) rfl ?_
  refine AWl.put (R_move rfl (.no rfl) rfl (.tmp rfl fun _ => rfl)) rfl ?_
  refine AWl.put (R_ge rfl (.no rfl) rfl (.tmp rfl fun _ => rfl) (.tmp rfl fun _ => rfl)) rfl ?_
  refine AWl.put (R_move rfl (.no rfl) rfl (.tmp rfl fun _ => rfl)) rfl ?_
  refine AWl.put (R_move rfl (by exact .yes1 rfl rfl rfl rfl) rfl (.tmp rfl (by exact fun _ => rfl))) rfl ?_
  refine AWl.put (R_move rfl (by exact .yes1 rfl rfl rfl rfl) rfl (.tmp rfl (by exact fun _ => rfl))) rfl ?_
  refine AWl.put (R_le rfl (by exact .yes1 rfl rfl rfl rfl) rfl (.tmp rfl (by exact id)) (.tmp rfl (by exact id))) rfl ?_
  refine AWl.put (R_and rfl (.no rfl) rfl (.tmp rfl fun _ => rfl) (.tmp rfl (by exact id))) rfl ?_
  refine AWl.put (R_assign rfl (.no rfl) rfl (.tmp rfl fun _ => rfl)) rfl ?_
  refine AWl.nil ?_
  refine AW.ret ?_
  refine Res.v rfl rfl ?_
  rfl
set_option maxRecDepth 100000 in
theorem specl1In (n a b : Int) : FnT Try.prog 111 [.one (.v (.int .i64 n)), .one (.v (.int .i64 a)), .one (.v (.int .i64 b))] (.a (.one (.v (.bool (inB n a b))))) := by
  refine FnT.walk Try.func111 rfl (by kernel_rfl) Try.ntmps111 rfl fun hlen w0 => ?_
  try simp [cPair, cToken, cExpr, cEdge, cGraph, cStep, cWalk, cChange, cBatch, cHistory, cPositions, cAutomaton, cProductStep, cPathAtom, cConjunction, cView, cDelta, cRegistered, cRegistry] at hlen
  refine AW.seq ?_
  refine AW.region ?_
  refine AWl.put (R_assign rfl (.no rfl) rfl (.const rfl)) rfl ?_
  refine AWl.nil ?_
  refine AW.seq ?_
  refine AW.region ?_
  refine AWl.put (R_move rfl (.no rfl) rfl (.tmp rfl fun _ => rfl)) rfl ?_
  refine AWl.put (R_move rfl (.no rfl) rfl (.tmp rfl fun _ => rfl)) rfl ?_
  refine AWl.put (R_ge rfl (.no rfl) rfl (.tmp rfl fun _ => rfl) (.tmp rfl fun _ => rfl)) rfl ?_
  refine AWl.put (R_move rfl (.no rfl) rfl (.tmp rfl fun _ => rfl)) rfl ?_
  refine AWl.put (R_move rfl (by exact .yes1 rfl rfl rfl rfl) rfl (.tmp rfl (by exact fun _ => rfl))) rfl ?_
  refine AWl.put (R_move rfl (by exact .yes1 rfl rfl rfl rfl) rfl (.tmp rfl (by exact fun _ => rfl))) rfl ?_
  refine AWl.put (R_le rfl (by exact .yes1 rfl rfl rfl rfl) rfl (.tmp rfl (by exact id)) (.tmp rfl (by exact id))) rfl ?_
  refine AWl.put (R_and rfl (.no rfl) rfl (.tmp rfl fun _ => rfl) (.tmp rfl (by exact id))) rfl ?_
  refine AWl.put (R_assign rfl (.no rfl) rfl (.tmp rfl fun _ => rfl)) rfl ?_
  refine AWl.nil ?_
  refine AW.ret ?_
  refine Res.v rfl rfl ?_
  rfl
set_option maxRecDepth 100000 in
theorem implisLetter (n : Int) : FnT Try.prog 206 [.one (.v (.int .i64 n))] (.a (.one (.v (.bool (inB n 0 8))))) := by
  refine FnT.walk Try.func206 rfl (by kernel_rfl) Try.ntmps206 rfl fun hlen w0 => ?_
  try simp [cPair, cToken, cExpr, cEdge, cGraph, cStep, cWalk, cChange, cBatch, cHistory, cPositions, cAutomaton, cProductStep, cPathAtom, cConjunction, cView, cDelta, cRegistered, cRegistry] at hlen
  refine AW.seq ?_
  refine AW.region ?_
  refine AWl.put (R_assign rfl (.no rfl) rfl (.const rfl)) rfl ?_
  refine AWl.nil ?_
  refine AW.seq ?_
  refine AW.region ?_
  refine AWl.put (R_move rfl (.no rfl) rfl (.tmp rfl fun _ => rfl)) rfl ?_
  refine AWl.put (R_callz (FnT.fr (implwithin _ _ _)) rfl (.no rfl) rfl (.cons (.tmp rfl fun _ => rfl) rfl (.cons (.const rfl) rfl (.cons (.const rfl) rfl .nil)))) rfl ?_
  refine AWl.put (R_assign rfl (.no rfl) rfl (.tmp rfl fun _ => rfl)) rfl ?_
  refine AWl.nil ?_
  refine AW.ret ?_
  refine Res.v rfl rfl ?_
  rfl
set_option maxRecDepth 100000 in
theorem specl2Letter (n : Int) : FnT Try.prog 205 [.one (.v (.int .i64 n))] (.a (.one (.v (.bool (inB n 0 8))))) := by
  refine FnT.walk Try.func205 rfl (by kernel_rfl) Try.ntmps205 rfl fun hlen w0 => ?_
  try simp [cPair, cToken, cExpr, cEdge, cGraph, cStep, cWalk, cChange, cBatch, cHistory, cPositions, cAutomaton, cProductStep, cPathAtom, cConjunction, cView, cDelta, cRegistered, cRegistry] at hlen
  refine AW.seq ?_
  refine AW.region ?_
  refine AWl.put (R_assign rfl (.no rfl) rfl (.const rfl)) rfl ?_
  refine AWl.nil ?_
  refine AW.seq ?_
  refine AW.region ?_
  refine AWl.put (R_move rfl (.no rfl) rfl (.tmp rfl fun _ => rfl)) rfl ?_
  refine AWl.put (R_callz (FnT.fr (specl1In _ _ _)) rfl (.no rfl) rfl (.cons (.tmp rfl fun _ => rfl) rfl (.cons (.const rfl) rfl (.cons (.const rfl) rfl .nil)))) rfl ?_
  refine AWl.put (R_assign rfl (.no rfl) rfl (.tmp rfl fun _ => rfl)) rfl ?_
  refine AWl.nil ?_
  refine AW.ret ?_
  refine Res.v rfl rfl ?_
  rfl
set_option maxRecDepth 100000 in
theorem specIsWord (l : List Int) : FnT Try.prog 160 [.one (.sl 1 (l.map cInt))] (.a (.one (.v (.bool (isWord l))))) := by
  refine FnT.walk Try.func160 rfl (by kernel_rfl) Try.ntmps160 rfl fun hlen w0 => ?_
  try simp [cPair, cToken, cExpr, cEdge, cGraph, cStep, cWalk, cChange, cBatch, cHistory, cPositions, cAutomaton, cProductStep, cPathAtom, cConjunction, cView, cDelta, cRegistered, cRegistry] at hlen
  refine AW.seq ?_
  refine AW.region ?_
  refine AWl.put (R_assign rfl (.no rfl) rfl (.const rfl)) rfl ?_
  refine AWl.nil ?_
  refine AW.seq ?_
  refine AW.seq ?_
  refine AW.region ?_
  refine AWl.put (R_assign rfl (.no rfl) rfl (.const rfl)) rfl ?_
  refine AWl.nil ?_
  refine AW.block ?_
  refine AW.loop (β := Nat) (fun x => x ≤ (l).length ∧ ∀ j y, j < x → (l)[j]? = some y → (fun n => inB n 0 8) y = true) (fun x => ⟨_, [(3, (true, .a (.one (.t (.v (.int .i64 (x : Nat))))))), (0, _)], []⟩) (fun x => (l).length - x) (0) ⟨Nat.zero_le _, fun j y hj => absurd hj (Nat.not_lt_zero j)⟩ (Le.sub0 rfl ⟨rfl, rfl, trivial⟩ trivial) ?_
  intro k hk
  refine AW.seq ?_
  refine AW.seq ?_
  refine AW.region ?_
  refine AWl.put (R_move rfl (.no rfl) rfl (.tmp rfl fun _ => rfl)) rfl ?_
  refine AWl.put (R_move rfl (.no rfl) rfl (.tmp rfl fun _ => rfl)) rfl ?_
  refine AWl.put ((by exact R_lenm rfl (.no rfl) rfl (.tmp rfl fun _ => rfl) (by exact .t) Try.underlying22)) rfl ?_
  refine AWl.put (R_lt rfl (.no rfl) rfl (.tmp rfl fun _ => rfl) (.tmp rfl fun _ => rfl)) rfl ?_
  refine AWl.nil ?_
  refine AW.cond (.tmp rfl fun _ => rfl) (fun hlt => ?_) (fun hlt => ?_)
  · skip
    try simp at hlt
    obtain ⟨x, hx⟩ : ∃ ξ, (l)[k]? = some ξ := ⟨_, List.getElem?_eq_getElem (by exact hlt)⟩
    refine AW.skip ?_
    refine AW.seq ?_
    refine AW.block ?_
    refine AW.seq ?_
    refine AW.region ?_
    refine AWl.put (R_move rfl (.no rfl) rfl (.tmp rfl fun _ => rfl)) rfl ?_
    refine AWl.put (R_move rfl (.no rfl) rfl (.tmp rfl fun _ => rfl)) rfl ?_
    refine AWl.put ((by exact R_indexAddr rfl (.no rfl) rfl (.tmp rfl fun _ => rfl) (.tmp rfl fun _ => rfl) Try.underlying22 ty3 (fun _ => ⟨by omega, (by exact map_get (by assumption))⟩))) rfl ?_
    refine AWl.put ((by exact R_load rfl (.no rfl) rfl (.tmp rfl fun _ => rfl) ty3 rfl rfl)) rfl ?_
    refine AWl.put (R_callz (FnT.fr (specl2Letter _)) rfl (.no rfl) rfl (.cons (.tmp rfl fun _ => rfl) rfl .nil)) rfl ?_
    refine AWl.put (R_not rfl (.no rfl) rfl (.tmp rfl fun _ => rfl)) rfl ?_
    refine AWl.nil ?_
    refine AW.cond (.tmp rfl fun _ => rfl) (fun h15 => ?_) (fun h15 => ?_)
    · skip
      try simp at h15
      refine AW.seq ?_
      refine AW.le (σ' := ⟨_, [(0, _), (3, _)], []⟩) (Le.sub0 rfl ⟨rfl, rfl, trivial⟩ trivial) ?_
      refine AW.region ?_
      refine AWl.put (R_assign rfl (.no rfl) rfl (.const rfl)) rfl ?_
      refine AWl.nil ?_
      refine AW.ret ?_
      refine Res.v rfl rfl ?_
      unfold isWord; rw [not_all hx h15]; rfl
    · skip
      try simp at h15
      refine AW.skip ?_
      refine AW.le (σ' := ⟨_, [(0, _), (3, _)], []⟩) (Le.sub0 rfl ⟨rfl, rfl, trivial⟩ trivial) ?_
      refine AW.region ?_
      refine AWl.put (R_move rfl (.no rfl) rfl (.tmp rfl fun _ => rfl)) rfl ?_
      refine AWl.put (R_add rfl (.no rfl) rfl (.tmp rfl fun _ => rfl) (.const rfl) (fun _ => by omega)) rfl ?_
      refine AWl.put (R_assign rfl (.no rfl) rfl (.tmp rfl fun _ => rfl)) rfl ?_
      refine AWl.nil ?_
      refine Round.next (k + 1) ⟨by omega, each_succ hk.2 hx (h15)⟩ (by omega) (Le.sub0 rfl ⟨rfl, rfl, trivial⟩ trivial)
  · skip
    try simp at hlt
    refine AW.exit ?_
    refine AW.seq ?_
    refine AW.region ?_
    refine AWl.put (R_move rfl (.no rfl) rfl (.tmp rfl fun _ => rfl)) rfl ?_
    refine AWl.put ((by exact R_lenm rfl (.no rfl) rfl (.tmp rfl fun _ => rfl) (by exact .t) Try.underlying22)) rfl ?_
    refine AWl.put (R_le rfl (.no rfl) rfl (.tmp rfl fun _ => rfl) (.const rfl)) rfl ?_
    refine AWl.put (R_assign rfl (.no rfl) rfl (.tmp rfl fun _ => rfl)) rfl ?_
    refine AWl.nil ?_
    refine AW.ret ?_
    refine Res.v rfl rfl ?_
    unfold isWord; rw [each_all hk.2 (by omega)]; simp; omega
end Go.Proofs.Ytbfejakbaijmhaa
