/- Copies of automata: both texts. -/
import Derived.Test.YtocnceglpkobaaaB19x
import Derived.Test.YtocnceglpkobaaaAbsN
set_option linter.unusedVariables false
set_option linter.unusedSimpArgs false
set_option maxHeartbeats 1000000
set_option maxRecDepth 100000
namespace Go.Q
open Go.D
theorem validA_rows {a : TAutomaton} (h : validA a = true) : ∀ x ∈ a.Next, x.length = 9 := by
  intro x hx
  unfold validA at h
  simp only [Bool.and_eq_true] at h
  have := List.all_eq_true.1 h.2 x hx
  unfold rowOk at this
  simp only [Bool.and_eq_true, decide_eq_true_eq] at this
  exact this.2
theorem validA_okz {a : TAutomaton} (h : validA a = true) : okAutomaton a := by
  have hA := validA_len h
  exact ⟨show a.Accept.length ≤ 1048576 by omega, ⟨show a.Next.length ≤ 1048576 by omega, fun x hx => show x.length ≤ 1048576 by have := validA_rows h x hx; omega⟩, trivial⟩
end Go.Q
namespace Go.Proofs.Ytocnceglpkobaaa
open Go.RowKit Go.Q Go.D
theorem implcopyInts (l : List Int) (hz : l.length ≤ 1073741824) : FnT Try.prog 142 [.one (.sl 1 (l.map cInt))] (.a (.one (.sl 1 (l.map cInt)))) := by
  refine FnT.walk Try.func142 rfl (by kernel_rfl) Try.ntmps142 rfl fun hlen w0 => ?_
  try simp [cPair, cToken, cExpr, cEdge, cGraph, cStep, cWalk, cChange, cBatch, cHistory, cPositions, cAutomaton, cProductStep, cPathAtom, cConjunction, cView, cDelta, cRegistered, cRegistry] at hlen
  refine AW.seq ?_
  -- region 0
  refine AW.region ?_
  refine AWl.put (R_assign rfl (.no rfl) rfl (.const rfl)) rfl ?_
  refine AWl.nilS (i := 2) 20001 1 rfl rfl ?_
  refine AWl.nil ?_
  refine AW.seq ?_
  -- region 1
  refine AW.region ?_
  refine AWl.add (R_empty 3 rfl rfl rfl Try.underlying22 ty3 rfl) rfl ?_
  refine AWl.put (R_move rfl (.no rfl) rfl (.tmp rfl fun _ => rfl)) rfl ?_
  refine AWl.chgput (R_append rfl rfl rfl (.tmp rfl fun _ => rfl) rfl (.tmp rfl fun _ => rfl) (by exact .t) (by exact isV_map (fun _ => rfl) _) Try.underlying22 in3 rfl (by (simp [chunk]; omega)) (by (unfold maxLen; simp [chunk]; omega))) rfl ?_
  refine AWl.le (σ' := ⟨_, [(0, _), (2, _), (5, _)], [(20001, _), (3, _)]⟩) (Le.sub0 rfl ⟨rfl, rfl, rfl, trivial⟩ ⟨rfl, rfl, trivial⟩) ?_
  refine AWl.put (R_assign rfl (.no rfl) rfl (.tmp rfl fun _ => rfl)) rfl ?_
  refine AWl.nil ?_
  refine AW.ret ?_
  refine Res.one rfl (.tmp rfl .nil) rfl ?_
  rfl
end Go.Proofs.Ytocnceglpkobaaa
