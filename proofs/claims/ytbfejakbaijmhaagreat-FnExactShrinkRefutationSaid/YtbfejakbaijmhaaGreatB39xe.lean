/- An edge left out of a graph; the views behind it: both texts. -/
import Derived.Test.YtbfejakbaijmhaaGreatB34xe
import Derived.Test.YtbfejakbaijmhaaGreatAbsPxe
set_option linter.unusedVariables false
set_option linter.unusedSimpArgs false
set_option maxHeartbeats 1000000
set_option maxRecDepth 100000
namespace Go.Q
open Go.D
theorem del_rows {α : Type} {c : α → List T} {l : List α} {i m : Nat} {Z : List (List T)} (hi : i < l.length) (hm : m = i + (((l.map c).take (l.map c).length).drop (i + 1)).length) :
    (((l.map c).take i ++ ((l.map c).take (l.map c).length).drop (i + 1) ++ (l.map c).drop (i + (((l.map c).take (l.map c).length).drop (i + 1)).length)).take m ++ Z).take m = (l.take i ++ l.drop (i + 1)).map c := by
  have hX : ((l.map c).take i ++ ((l.map c).take (l.map c).length).drop (i + 1)).length = m := by rw [hm]; simp; omega
  have h1 : ∀ (X B : List (List T)), X.length = m → (X ++ B).take m = X := fun X B h => by rw [List.take_append_of_le_length (by omega), List.take_of_length_le (by omega)]
  rw [h1 _ _ hX, h1 _ _ hX]
  rw [List.take_length, List.map_append, List.map_take, List.map_drop]
def delG (g : TGraph) (id : Int) : TGraph × Bool := if validG g && decide (0 ≤ edgeIndex g id) then (⟨g.Values, g.Edges.take (edgeIndex g id).toNat ++ g.Edges.drop ((edgeIndex g id).toNat + 1)⟩, true) else (g, false)
end Go.Q
namespace Go.Proofs.YtbfejakbaijmhaaGreat
open Go.RowKit Go.Q Go.D
theorem DeleteEdge1 (l : List TEdge) (i : Nat) (hi : i < l.length) (hz : l.length ≤ 1099511627776) : FnC Tryz.prog 72 [(true, .one (.sl 4 (l.map cEdge))), (false, .one (.v (.int .i64 i))), (false, .one (.v (.int .i64 ((i + 1 : Nat) : Int))))] (.a (.one (.sl 4 ((l.take i ++ l.drop (i + 1)).map cEdge)))) := by
  refine FnC.walk Tryz.func72 rfl (by kernel_rfl) Tryz.ntmps72 rfl (by rfl) fun w0 => ?_
  refine AW.le (σ' := ⟨_, [(0, _), (1, _), (2, _)], [(1000, _)]⟩) (Le.sub0 rfl ⟨rfl, rfl, rfl, trivial⟩ ⟨rfl, trivial⟩) ?_
  try simp [cPair, cToken, cExpr, cEdge, cGraph, cStep, cWalk, cChange, cBatch, cHistory, cPositions, cAutomaton, cProductStep, cPathAtom, cConjunction, cView, cDelta, cRegistered, cRegistry] at hlen
  refine AW.seq ?_
  refine AW.region ?_
  refine AWl.put (R_assign rfl (.no rfl) rfl (.const rfl)) rfl ?_
  refine AWl.nilS (i := 6) 20001 4 rfl rfl ?_
  refine AWl.nil ?_
  refine AW.seq ?_
  refine AW.region ?_
  refine AWl.put (R_move rfl (.no rfl) rfl (.tmp rfl fun _ => rfl)) rfl ?_
  refine AWl.put (R_move rfl (.no rfl) rfl (.tmp rfl fun _ => rfl)) rfl ?_
  refine AWl.put (R_move rfl (.no rfl) rfl (.tmp rfl fun _ => rfl)) rfl ?_
  refine AWl.put (R_move rfl (.no rfl) rfl (.tmp rfl fun _ => rfl)) rfl ?_
  refine AWl.put ((by exact R_lenm rfl (.no rfl) rfl (.tmp rfl fun _ => rfl) (by exact .rf rfl) Tryz.underlying31)) rfl ?_
  refine AWl.put (R_slice3 (n := i) (m := i + 1) (r := l.length) rfl (.no rfl) rfl (.tmp rfl fun _ => rfl) rfl (.tmp rfl fun _ => rfl) (.tmp rfl fun _ => rfl) (.tmp rfl fun _ => rfl) Tryz.underlying31 ty72 (fun _ => by refine ⟨?_, ?_, ?_⟩ <;> first | omega | (simp <;> omega))) rfl ?_
  refine AWl.nil ?_
  refine AW.seq ?_
  refine AW.seq ?_
  refine AW.le (σ' := ⟨_, [(0, _), (1, _), (2, _), (6, _)], [(1000, _), (20001, _)]⟩) (Le.sub0 rfl ⟨rfl, rfl, rfl, rfl, trivial⟩ ⟨rfl, rfl, trivial⟩) ?_
  refine AW.region ?_
  refine AWl.put (R_move rfl (.no rfl) rfl (.tmp rfl fun _ => rfl)) rfl ?_
  refine AWl.put (R_move rfl (.no rfl) rfl (.tmp rfl fun _ => rfl)) rfl ?_
  refine AWl.put (R_eq rfl (.no rfl) rfl (.tmp rfl fun _ => rfl) (.tmp rfl fun _ => rfl)) rfl ?_
  refine AWl.nil ?_
  refine AW.cond (.tmp rfl fun _ => rfl) (fun h16 => ?_) (fun h16 => ?_)
  · exact absurd h16 (by (simp; omega))
  · skip
    try simp at h16
    refine AW.skip ?_
    refine AW.seq ?_
    refine AW.region ?_
    refine AWl.put (R_move rfl (.no rfl) rfl (.tmp rfl fun _ => rfl)) rfl ?_
    refine AWl.put ((by exact R_lenm rfl (.no rfl) rfl (.tmp rfl fun _ => rfl) (by exact .rf rfl) Tryz.underlying31)) rfl ?_
    refine AWl.put (R_assign rfl (.no rfl) rfl (.tmp rfl fun _ => rfl)) rfl ?_
    refine AWl.nil ?_
    refine AW.seq ?_
    refine AW.dagn 8 26 [[], [0], [1], [3], [4], [0, 1], [0, 3], [0, 4], [1, 3], [1, 4], [3, 4], [0, 1, 2], [0, 1, 3], [0, 1, 4], [0, 3, 4], [1, 3, 4], [3, 4, 5], [0, 1, 2, 3], [0, 1, 2, 4], [0, 1, 3, 4], [0, 3, 4, 5], [1, 3, 4, 5], [0, 1, 2, 3, 4], [0, 1, 3, 4, 5], [0, 1, 2, 3, 4, 5], [0, 1, 2, 3, 4, 5, 6], [0, 1, 2, 3, 4, 5, 6, 7]] [(0, 0, 1), (0, 1, 2), (0, 3, 3), (0, 4, 4), (1, 1, 5), (2, 0, 5), (1, 3, 6), (3, 0, 6), (1, 4, 7), (4, 0, 7), (2, 3, 8), (3, 1, 8), (2, 4, 9), (4, 1, 9), (3, 4, 10), (4, 3, 10), (5, 2, 11), (5, 3, 12), (8, 0, 12), (6, 1, 12), (5, 4, 13), (9, 0, 13), (7, 1, 13), (6, 4, 14), (10, 0, 14), (7, 3, 14), (8, 4, 15), (10, 1, 15), (9, 3, 15), (10, 5, 16), (11, 3, 17), (12, 2, 17), (11, 4, 18), (13, 2, 18), (12, 4, 19), (15, 0, 19), (14, 1, 19), (13, 3, 19), (14, 5, 20), (16, 0, 20), (15, 5, 21), (16, 1, 21), (17, 4, 22), (19, 2, 22), (18, 3, 22), (19, 5, 23), (21, 0, 23), (20, 1, 23), (22, 5, 24), (23, 2, 24), (24, 6, 25), (25, 7, 26)] (by kernel_rfl) (by kernel_rfl) (by kernel_rfl) ?_
    apply Dag.new (i := 0)
    case ha => rfl
    case ho => rfl
    case hb => rfl
    case hE =>
      intro w9
      refine AWl.put (R_move rfl (.no rfl) rfl (.tmp rfl fun _ => rfl)) rfl ?_
      refine AWl.nil ?_
      exact Le.sub0 (σ' := ⟨_, [(0, _), (1, _), (2, _), (6, _), (7, _), (16, _), (20, _)], [(1000, _), (20001, _)]⟩) rfl ⟨rfl, rfl, rfl, rfl, rfl, rfl, rfl, trivial⟩ ⟨rfl, rfl, trivial⟩
    apply Dag.new (i := 1)
    case ha => rfl
    case ho => rfl
    case hb => rfl
    case hE =>
      intro w9
      refine AWl.put (R_move rfl (.no rfl) rfl (.tmp rfl fun _ => rfl)) rfl ?_
      refine AWl.nil ?_
      exact Le.sub0 (σ' := ⟨_, [(0, _), (1, _), (2, _), (6, _), (7, _), (16, _), (21, _)], [(1000, _), (20001, _)]⟩) rfl ⟨rfl, rfl, rfl, rfl, rfl, rfl, rfl, trivial⟩ ⟨rfl, rfl, trivial⟩
    apply Dag.new (i := 3)
    case ha => rfl
    case ho => rfl
    case hb => rfl
    case hE =>
      intro w9
      refine AWl.put (R_move rfl (.no rfl) rfl (.tmp rfl fun _ => rfl)) rfl ?_
      refine AWl.nil ?_
      exact Le.sub0 (σ' := ⟨_, [(0, _), (1, _), (2, _), (6, _), (7, _), (16, _), (23, _)], [(1000, _), (20001, _)]⟩) rfl ⟨rfl, rfl, rfl, rfl, rfl, rfl, rfl, trivial⟩ ⟨rfl, rfl, trivial⟩
    apply Dag.new (i := 4)
    case ha => rfl
    case ho => rfl
    case hb => rfl
    case hE =>
      intro w9
      refine AWl.put (R_move rfl (.no rfl) rfl (.tmp rfl fun _ => rfl)) rfl ?_
      refine AWl.nil ?_
      exact Le.sub0 (σ' := ⟨_, [(0, _), (1, _), (2, _), (6, _), (7, _), (16, _), (24, _)], [(1000, _), (20001, _)]⟩) rfl ⟨rfl, rfl, rfl, rfl, rfl, rfl, rfl, trivial⟩ ⟨rfl, rfl, trivial⟩
    apply Dag.new (i := 1)
    case ha => rfl
    case ho => rfl
    case hb => rfl
    case hE =>
      intro w9
      refine AWl.put (R_move rfl (.no rfl) rfl (.tmp rfl fun _ => rfl)) rfl ?_
      refine AWl.nil ?_
      exact Le.sub0 (σ' := ⟨_, [(0, _), (1, _), (2, _), (6, _), (7, _), (16, _), (20, _), (21, _)], [(1000, _), (20001, _)]⟩) rfl ⟨rfl, rfl, rfl, rfl, rfl, rfl, rfl, rfl, trivial⟩ ⟨rfl, rfl, trivial⟩
    apply Dag.old (i := 0)
    case ha => rfl
    case ho => rfl
    case hb => rfl
    case hE =>
      intro w9
      refine AWl.put (R_move rfl (.no rfl) rfl (.tmp rfl fun _ => rfl)) rfl ?_
      refine AWl.nil ?_
      exact Le.sub0 rfl ⟨rfl, rfl, rfl, rfl, rfl, rfl, rfl, rfl, trivial⟩ ⟨rfl, rfl, trivial⟩
    apply Dag.new (i := 3)
    case ha => rfl
    case ho => rfl
    case hb => rfl
    case hE =>
      intro w9
      refine AWl.put (R_move rfl (.no rfl) rfl (.tmp rfl fun _ => rfl)) rfl ?_
      refine AWl.nil ?_
      exact Le.sub0 (σ' := ⟨_, [(0, _), (1, _), (2, _), (6, _), (7, _), (16, _), (20, _), (23, _)], [(1000, _), (20001, _)]⟩) rfl ⟨rfl, rfl, rfl, rfl, rfl, rfl, rfl, rfl, trivial⟩ ⟨rfl, rfl, trivial⟩
    apply Dag.old (i := 0)
    case ha => rfl
    case ho => rfl
    case hb => rfl
    case hE =>
      intro w9
      refine AWl.put (R_move rfl (.no rfl) rfl (.tmp rfl fun _ => rfl)) rfl ?_
      refine AWl.nil ?_
      exact Le.sub0 rfl ⟨rfl, rfl, rfl, rfl, rfl, rfl, rfl, rfl, trivial⟩ ⟨rfl, rfl, trivial⟩
    apply Dag.new (i := 4)
    case ha => rfl
    case ho => rfl
    case hb => rfl
    case hE =>
      intro w9
      refine AWl.put (R_move rfl (.no rfl) rfl (.tmp rfl fun _ => rfl)) rfl ?_
      refine AWl.nil ?_
      exact Le.sub0 (σ' := ⟨_, [(0, _), (1, _), (2, _), (6, _), (7, _), (16, _), (20, _), (24, _)], [(1000, _), (20001, _)]⟩) rfl ⟨rfl, rfl, rfl, rfl, rfl, rfl, rfl, rfl, trivial⟩ ⟨rfl, rfl, trivial⟩
    apply Dag.old (i := 0)
    case ha => rfl
    case ho => rfl
    case hb => rfl
    case hE =>
      intro w9
      refine AWl.put (R_move rfl (.no rfl) rfl (.tmp rfl fun _ => rfl)) rfl ?_
      refine AWl.nil ?_
      exact Le.sub0 rfl ⟨rfl, rfl, rfl, rfl, rfl, rfl, rfl, rfl, trivial⟩ ⟨rfl, rfl, trivial⟩
    apply Dag.new (i := 3)
    case ha => rfl
    case ho => rfl
    case hb => rfl
    case hE =>
      intro w9
      refine AWl.put (R_move rfl (.no rfl) rfl (.tmp rfl fun _ => rfl)) rfl ?_
      refine AWl.nil ?_
      exact Le.sub0 (σ' := ⟨_, [(0, _), (1, _), (2, _), (6, _), (7, _), (16, _), (21, _), (23, _)], [(1000, _), (20001, _)]⟩) rfl ⟨rfl, rfl, rfl, rfl, rfl, rfl, rfl, rfl, trivial⟩ ⟨rfl, rfl, trivial⟩
    apply Dag.old (i := 1)
    case ha => rfl
    case ho => rfl
    case hb => rfl
    case hE =>
      intro w9
      refine AWl.put (R_move rfl (.no rfl) rfl (.tmp rfl fun _ => rfl)) rfl ?_
      refine AWl.nil ?_
      exact Le.sub0 rfl ⟨rfl, rfl, rfl, rfl, rfl, rfl, rfl, rfl, trivial⟩ ⟨rfl, rfl, trivial⟩
    apply Dag.new (i := 4)
    case ha => rfl
    case ho => rfl
    case hb => rfl
    case hE =>
      intro w9
      refine AWl.put (R_move rfl (.no rfl) rfl (.tmp rfl fun _ => rfl)) rfl ?_
      refine AWl.nil ?_
      exact Le.sub0 (σ' := ⟨_, [(0, _), (1, _), (2, _), (6, _), (7, _), (16, _), (21, _), (24, _)], [(1000, _), (20001, _)]⟩) rfl ⟨rfl, rfl, rfl, rfl, rfl, rfl, rfl, rfl, trivial⟩ ⟨rfl, rfl, trivial⟩
    apply Dag.old (i := 1)
    case ha => rfl
    case ho => rfl
    case hb => rfl
    case hE =>
      intro w9
      refine AWl.put (R_move rfl (.no rfl) rfl (.tmp rfl fun _ => rfl)) rfl ?_
      refine AWl.nil ?_
      exact Le.sub0 rfl ⟨rfl, rfl, rfl, rfl, rfl, rfl, rfl, rfl, trivial⟩ ⟨rfl, rfl, trivial⟩
    apply Dag.new (i := 4)
    case ha => rfl
    case ho => rfl
    case hb => rfl
    case hE =>
      intro w9
      refine AWl.put (R_move rfl (.no rfl) rfl (.tmp rfl fun _ => rfl)) rfl ?_
      refine AWl.nil ?_
      exact Le.sub0 (σ' := ⟨_, [(0, _), (1, _), (2, _), (6, _), (7, _), (16, _), (23, _), (24, _)], [(1000, _), (20001, _)]⟩) rfl ⟨rfl, rfl, rfl, rfl, rfl, rfl, rfl, rfl, trivial⟩ ⟨rfl, rfl, trivial⟩
    apply Dag.old (i := 3)
    case ha => rfl
    case ho => rfl
    case hb => rfl
    case hE =>
      intro w9
      refine AWl.put (R_move rfl (.no rfl) rfl (.tmp rfl fun _ => rfl)) rfl ?_
      refine AWl.nil ?_
      exact Le.sub0 rfl ⟨rfl, rfl, rfl, rfl, rfl, rfl, rfl, rfl, trivial⟩ ⟨rfl, rfl, trivial⟩
    apply Dag.new (i := 2)
    case ha => rfl
    case ho => rfl
    case hb => rfl
    case hE =>
      intro w9
      refine AWl.put (R_slice_pf (m := i) rfl (.no rfl) rfl (.tmp rfl fun _ => rfl) rfl (.yes (.tmp rfl fun _ => rfl) (fun _ => by first | rfl | omega | (simp <;> omega))) Tryz.underlying31 ty72 (fun _ => by first | omega | (simp <;> omega))) rfl ?_
      refine AWl.nil ?_
      exact Le.sub0 (σ' := ⟨_, [(0, _), (1, _), (2, _), (6, _), (7, _), (16, _), (22, _)], [(1000, _), (20001, _)]⟩) rfl ⟨rfl, rfl, rfl, rfl, rfl, rfl, rfl, trivial⟩ ⟨rfl, rfl, trivial⟩
    apply Dag.new (i := 3)
    case ha => rfl
    case ho => rfl
    case hb => rfl
    case hE =>
      intro w9
      refine AWl.put (R_move rfl (.no rfl) rfl (.tmp rfl fun _ => rfl)) rfl ?_
      refine AWl.nil ?_
      exact Le.sub0 (σ' := ⟨_, [(0, _), (1, _), (2, _), (6, _), (7, _), (16, _), (20, _), (21, _), (23, _)], [(1000, _), (20001, _)]⟩) rfl ⟨rfl, rfl, rfl, rfl, rfl, rfl, rfl, rfl, rfl, trivial⟩ ⟨rfl, rfl, trivial⟩
    apply Dag.old (i := 0)
    case ha => rfl
    case ho => rfl
    case hb => rfl
    case hE =>
      intro w9
      refine AWl.put (R_move rfl (.no rfl) rfl (.tmp rfl fun _ => rfl)) rfl ?_
      refine AWl.nil ?_
      exact Le.sub0 rfl ⟨rfl, rfl, rfl, rfl, rfl, rfl, rfl, rfl, rfl, trivial⟩ ⟨rfl, rfl, trivial⟩
    apply Dag.old (i := 1)
    case ha => rfl
    case ho => rfl
    case hb => rfl
    case hE =>
      intro w9
      refine AWl.put (R_move rfl (.no rfl) rfl (.tmp rfl fun _ => rfl)) rfl ?_
      refine AWl.nil ?_
      exact Le.sub0 rfl ⟨rfl, rfl, rfl, rfl, rfl, rfl, rfl, rfl, rfl, trivial⟩ ⟨rfl, rfl, trivial⟩
    apply Dag.new (i := 4)
    case ha => rfl
    case ho => rfl
    case hb => rfl
    case hE =>
      intro w9
      refine AWl.put (R_move rfl (.no rfl) rfl (.tmp rfl fun _ => rfl)) rfl ?_
      refine AWl.nil ?_
      exact Le.sub0 (σ' := ⟨_, [(0, _), (1, _), (2, _), (6, _), (7, _), (16, _), (20, _), (21, _), (24, _)], [(1000, _), (20001, _)]⟩) rfl ⟨rfl, rfl, rfl, rfl, rfl, rfl, rfl, rfl, rfl, trivial⟩ ⟨rfl, rfl, trivial⟩
    apply Dag.old (i := 0)
    case ha => rfl
    case ho => rfl
    case hb => rfl
    case hE =>
      intro w9
      refine AWl.put (R_move rfl (.no rfl) rfl (.tmp rfl fun _ => rfl)) rfl ?_
      refine AWl.nil ?_
      exact Le.sub0 rfl ⟨rfl, rfl, rfl, rfl, rfl, rfl, rfl, rfl, rfl, trivial⟩ ⟨rfl, rfl, trivial⟩
    apply Dag.old (i := 1)
    case ha => rfl
    case ho => rfl
    case hb => rfl
    case hE =>
      intro w9
      refine AWl.put (R_move rfl (.no rfl) rfl (.tmp rfl fun _ => rfl)) rfl ?_
      refine AWl.nil ?_
      exact Le.sub0 rfl ⟨rfl, rfl, rfl, rfl, rfl, rfl, rfl, rfl, rfl, trivial⟩ ⟨rfl, rfl, trivial⟩
    apply Dag.new (i := 4)
    case ha => rfl
    case ho => rfl
    case hb => rfl
    case hE =>
      intro w9
      refine AWl.put (R_move rfl (.no rfl) rfl (.tmp rfl fun _ => rfl)) rfl ?_
      refine AWl.nil ?_
      exact Le.sub0 (σ' := ⟨_, [(0, _), (1, _), (2, _), (6, _), (7, _), (16, _), (20, _), (23, _), (24, _)], [(1000, _), (20001, _)]⟩) rfl ⟨rfl, rfl, rfl, rfl, rfl, rfl, rfl, rfl, rfl, trivial⟩ ⟨rfl, rfl, trivial⟩
    apply Dag.old (i := 0)
    case ha => rfl
    case ho => rfl
    case hb => rfl
    case hE =>
      intro w9
      refine AWl.put (R_move rfl (.no rfl) rfl (.tmp rfl fun _ => rfl)) rfl ?_
      refine AWl.nil ?_
      exact Le.sub0 rfl ⟨rfl, rfl, rfl, rfl, rfl, rfl, rfl, rfl, rfl, trivial⟩ ⟨rfl, rfl, trivial⟩
    apply Dag.old (i := 3)
    case ha => rfl
    case ho => rfl
    case hb => rfl
    case hE =>
      intro w9
      refine AWl.put (R_move rfl (.no rfl) rfl (.tmp rfl fun _ => rfl)) rfl ?_
      refine AWl.nil ?_
      exact Le.sub0 rfl ⟨rfl, rfl, rfl, rfl, rfl, rfl, rfl, rfl, rfl, trivial⟩ ⟨rfl, rfl, trivial⟩
    apply Dag.new (i := 4)
    case ha => rfl
    case ho => rfl
    case hb => rfl
    case hE =>
      intro w9
      refine AWl.put (R_move rfl (.no rfl) rfl (.tmp rfl fun _ => rfl)) rfl ?_
      refine AWl.nil ?_
      exact Le.sub0 (σ' := ⟨_, [(0, _), (1, _), (2, _), (6, _), (7, _), (16, _), (21, _), (23, _), (24, _)], [(1000, _), (20001, _)]⟩) rfl ⟨rfl, rfl, rfl, rfl, rfl, rfl, rfl, rfl, rfl, trivial⟩ ⟨rfl, rfl, trivial⟩
    apply Dag.old (i := 1)
    case ha => rfl
    case ho => rfl
    case hb => rfl
    case hE =>
      intro w9
      refine AWl.put (R_move rfl (.no rfl) rfl (.tmp rfl fun _ => rfl)) rfl ?_
      refine AWl.nil ?_
      exact Le.sub0 rfl ⟨rfl, rfl, rfl, rfl, rfl, rfl, rfl, rfl, rfl, trivial⟩ ⟨rfl, rfl, trivial⟩
    apply Dag.old (i := 3)
    case ha => rfl
    case ho => rfl
    case hb => rfl
    case hE =>
      intro w9
      refine AWl.put (R_move rfl (.no rfl) rfl (.tmp rfl fun _ => rfl)) rfl ?_
      refine AWl.nil ?_
      exact Le.sub0 rfl ⟨rfl, rfl, rfl, rfl, rfl, rfl, rfl, rfl, rfl, trivial⟩ ⟨rfl, rfl, trivial⟩
    apply Dag.new (i := 5)
    case ha => rfl
    case ho => rfl
    case hb => rfl
    case hE =>
      intro w9
      refine AWl.put (R_slice_vwr (n := (i + 1)) rfl (.no rfl) rfl (.tmp rfl fun _ => rfl) rfl (.yes (.tmp rfl fun _ => rfl) (fun _ => by first | rfl | omega | (simp <;> omega))) .no Tryz.underlying31 ty72 (fun _ => ⟨by simp; omega, by simp⟩)) rfl ?_
      refine AWl.nil ?_
      exact Le.sub0 (σ' := ⟨_, [(0, _), (1, _), (2, _), (6, _), (7, _), (16, _), (25, _)], [(1000, _), (20001, _)]⟩) rfl ⟨rfl, rfl, rfl, rfl, rfl, rfl, rfl, trivial⟩ ⟨rfl, rfl, trivial⟩
    apply Dag.new (i := 3)
    case ha => rfl
    case ho => rfl
    case hb => rfl
    case hE =>
      intro w9
      refine AWl.put (R_move rfl (.no rfl) rfl (.tmp rfl fun _ => rfl)) rfl ?_
      refine AWl.nil ?_
      exact Le.sub0 (σ' := ⟨_, [(0, _), (1, _), (2, _), (6, _), (7, _), (16, _), (22, _), (23, _)], [(1000, _), (20001, _)]⟩) rfl ⟨rfl, rfl, rfl, rfl, rfl, rfl, rfl, rfl, trivial⟩ ⟨rfl, rfl, trivial⟩
    apply Dag.old (i := 2)
    case ha => rfl
    case ho => rfl
    case hb => rfl
    case hE =>
      intro w9
      refine AWl.put (R_slice_pf (m := i) rfl (.no rfl) rfl (.tmp rfl fun _ => rfl) rfl (.yes (.tmp rfl fun _ => rfl) (fun _ => by first | rfl | omega | (simp <;> omega))) Tryz.underlying31 ty72 (fun _ => by first | omega | (simp <;> omega))) rfl ?_
      refine AWl.nil ?_
      exact Le.sub0 rfl ⟨rfl, rfl, rfl, rfl, rfl, rfl, rfl, rfl, trivial⟩ ⟨rfl, rfl, trivial⟩
    apply Dag.new (i := 4)
    case ha => rfl
    case ho => rfl
    case hb => rfl
    case hE =>
      intro w9
      refine AWl.put (R_move rfl (.no rfl) rfl (.tmp rfl fun _ => rfl)) rfl ?_
      refine AWl.nil ?_
      exact Le.sub0 (σ' := ⟨_, [(0, _), (1, _), (2, _), (6, _), (7, _), (16, _), (22, _), (24, _)], [(1000, _), (20001, _)]⟩) rfl ⟨rfl, rfl, rfl, rfl, rfl, rfl, rfl, rfl, trivial⟩ ⟨rfl, rfl, trivial⟩
    apply Dag.old (i := 2)
    case ha => rfl
    case ho => rfl
    case hb => rfl
    case hE =>
      intro w9
      refine AWl.put (R_slice_pf (m := i) rfl (.no rfl) rfl (.tmp rfl fun _ => rfl) rfl (.yes (.tmp rfl fun _ => rfl) (fun _ => by first | rfl | omega | (simp <;> omega))) Tryz.underlying31 ty72 (fun _ => by first | omega | (simp <;> omega))) rfl ?_
      refine AWl.nil ?_
      exact Le.sub0 rfl ⟨rfl, rfl, rfl, rfl, rfl, rfl, rfl, rfl, trivial⟩ ⟨rfl, rfl, trivial⟩
    apply Dag.new (i := 4)
    case ha => rfl
    case ho => rfl
    case hb => rfl
    case hE =>
      intro w9
      refine AWl.put (R_move rfl (.no rfl) rfl (.tmp rfl fun _ => rfl)) rfl ?_
      refine AWl.nil ?_
      exact Le.sub0 (σ' := ⟨_, [(0, _), (1, _), (2, _), (6, _), (7, _), (16, _), (20, _), (21, _), (23, _), (24, _)], [(1000, _), (20001, _)]⟩) rfl ⟨rfl, rfl, rfl, rfl, rfl, rfl, rfl, rfl, rfl, rfl, trivial⟩ ⟨rfl, rfl, trivial⟩
    apply Dag.old (i := 0)
    case ha => rfl
    case ho => rfl
    case hb => rfl
    case hE =>
      intro w9
      refine AWl.put (R_move rfl (.no rfl) rfl (.tmp rfl fun _ => rfl)) rfl ?_
      refine AWl.nil ?_
      exact Le.sub0 rfl ⟨rfl, rfl, rfl, rfl, rfl, rfl, rfl, rfl, rfl, rfl, trivial⟩ ⟨rfl, rfl, trivial⟩
    apply Dag.old (i := 1)
    case ha => rfl
    case ho => rfl
    case hb => rfl
    case hE =>
      intro w9
      refine AWl.put (R_move rfl (.no rfl) rfl (.tmp rfl fun _ => rfl)) rfl ?_
      refine AWl.nil ?_
      exact Le.sub0 rfl ⟨rfl, rfl, rfl, rfl, rfl, rfl, rfl, rfl, rfl, rfl, trivial⟩ ⟨rfl, rfl, trivial⟩
    apply Dag.old (i := 3)
    case ha => rfl
    case ho => rfl
    case hb => rfl
    case hE =>
      intro w9
      refine AWl.put (R_move rfl (.no rfl) rfl (.tmp rfl fun _ => rfl)) rfl ?_
      refine AWl.nil ?_
      exact Le.sub0 rfl ⟨rfl, rfl, rfl, rfl, rfl, rfl, rfl, rfl, rfl, rfl, trivial⟩ ⟨rfl, rfl, trivial⟩
    apply Dag.new (i := 5)
    case ha => rfl
    case ho => rfl
    case hb => rfl
    case hE =>
      intro w9
      refine AWl.put (R_slice_vwr (n := (i + 1)) rfl (.no rfl) rfl (.tmp rfl fun _ => rfl) rfl (.yes (.tmp rfl fun _ => rfl) (fun _ => by first | rfl | omega | (simp <;> omega))) .no Tryz.underlying31 ty72 (fun _ => ⟨by simp; omega, by simp⟩)) rfl ?_
      refine AWl.nil ?_
      exact Le.sub0 (σ' := ⟨_, [(0, _), (1, _), (2, _), (6, _), (7, _), (16, _), (20, _), (25, _)], [(1000, _), (20001, _)]⟩) rfl ⟨rfl, rfl, rfl, rfl, rfl, rfl, rfl, rfl, trivial⟩ ⟨rfl, rfl, trivial⟩
    apply Dag.old (i := 0)
    case ha => rfl
    case ho => rfl
    case hb => rfl
    case hE =>
      intro w9
      refine AWl.put (R_move rfl (.no rfl) rfl (.tmp rfl fun _ => rfl)) rfl ?_
      refine AWl.nil ?_
      exact Le.sub0 rfl ⟨rfl, rfl, rfl, rfl, rfl, rfl, rfl, rfl, trivial⟩ ⟨rfl, rfl, trivial⟩
    apply Dag.new (i := 5)
    case ha => rfl
    case ho => rfl
    case hb => rfl
    case hE =>
      intro w9
      refine AWl.put (R_slice_vwr (n := (i + 1)) rfl (.no rfl) rfl (.tmp rfl fun _ => rfl) rfl (.yes (.tmp rfl fun _ => rfl) (fun _ => by first | rfl | omega | (simp <;> omega))) .no Tryz.underlying31 ty72 (fun _ => ⟨by simp; omega, by simp⟩)) rfl ?_
      refine AWl.nil ?_
      exact Le.sub0 (σ' := ⟨_, [(0, _), (1, _), (2, _), (6, _), (7, _), (16, _), (21, _), (25, _)], [(1000, _), (20001, _)]⟩) rfl ⟨rfl, rfl, rfl, rfl, rfl, rfl, rfl, rfl, trivial⟩ ⟨rfl, rfl, trivial⟩
    apply Dag.old (i := 1)
    case ha => rfl
    case ho => rfl
    case hb => rfl
    case hE =>
      intro w9
      refine AWl.put (R_move rfl (.no rfl) rfl (.tmp rfl fun _ => rfl)) rfl ?_
      refine AWl.nil ?_
      exact Le.sub0 rfl ⟨rfl, rfl, rfl, rfl, rfl, rfl, rfl, rfl, trivial⟩ ⟨rfl, rfl, trivial⟩
    apply Dag.new (i := 4)
    case ha => rfl
    case ho => rfl
    case hb => rfl
    case hE =>
      intro w9
      refine AWl.put (R_move rfl (.no rfl) rfl (.tmp rfl fun _ => rfl)) rfl ?_
      refine AWl.nil ?_
      exact Le.sub0 (σ' := ⟨_, [(0, _), (1, _), (2, _), (6, _), (7, _), (16, _), (22, _), (23, _), (24, _)], [(1000, _), (20001, _)]⟩) rfl ⟨rfl, rfl, rfl, rfl, rfl, rfl, rfl, rfl, rfl, trivial⟩ ⟨rfl, rfl, trivial⟩
    apply Dag.old (i := 2)
    case ha => rfl
    case ho => rfl
    case hb => rfl
    case hE =>
      intro w9
      refine AWl.put (R_slice_pf (m := i) rfl (.no rfl) rfl (.tmp rfl fun _ => rfl) rfl (.yes (.tmp rfl fun _ => rfl) (fun _ => by first | rfl | omega | (simp <;> omega))) Tryz.underlying31 ty72 (fun _ => by first | omega | (simp <;> omega))) rfl ?_
      refine AWl.nil ?_
      exact Le.sub0 rfl ⟨rfl, rfl, rfl, rfl, rfl, rfl, rfl, rfl, rfl, trivial⟩ ⟨rfl, rfl, trivial⟩
    apply Dag.old (i := 3)
    case ha => rfl
    case ho => rfl
    case hb => rfl
    case hE =>
      intro w9
      refine AWl.put (R_move rfl (.no rfl) rfl (.tmp rfl fun _ => rfl)) rfl ?_
      refine AWl.nil ?_
      exact Le.sub0 rfl ⟨rfl, rfl, rfl, rfl, rfl, rfl, rfl, rfl, rfl, trivial⟩ ⟨rfl, rfl, trivial⟩
    apply Dag.new (i := 5)
    case ha => rfl
    case ho => rfl
    case hb => rfl
    case hE =>
      intro w9
      refine AWl.put (R_slice_vwr (n := (i + 1)) rfl (.no rfl) rfl (.tmp rfl fun _ => rfl) rfl (.yes (.tmp rfl fun _ => rfl) (fun _ => by first | rfl | omega | (simp <;> omega))) .no Tryz.underlying31 ty72 (fun _ => ⟨by simp; omega, by simp⟩)) rfl ?_
      refine AWl.nil ?_
      exact Le.sub0 (σ' := ⟨_, [(0, _), (1, _), (2, _), (6, _), (7, _), (16, _), (20, _), (21, _), (25, _)], [(1000, _), (20001, _)]⟩) rfl ⟨rfl, rfl, rfl, rfl, rfl, rfl, rfl, rfl, rfl, trivial⟩ ⟨rfl, rfl, trivial⟩
    apply Dag.old (i := 0)
    case ha => rfl
    case ho => rfl
    case hb => rfl
    case hE =>
      intro w9
      refine AWl.put (R_move rfl (.no rfl) rfl (.tmp rfl fun _ => rfl)) rfl ?_
      refine AWl.nil ?_
      exact Le.sub0 rfl ⟨rfl, rfl, rfl, rfl, rfl, rfl, rfl, rfl, rfl, trivial⟩ ⟨rfl, rfl, trivial⟩
    apply Dag.old (i := 1)
    case ha => rfl
    case ho => rfl
    case hb => rfl
    case hE =>
      intro w9
      refine AWl.put (R_move rfl (.no rfl) rfl (.tmp rfl fun _ => rfl)) rfl ?_
      refine AWl.nil ?_
      exact Le.sub0 rfl ⟨rfl, rfl, rfl, rfl, rfl, rfl, rfl, rfl, rfl, trivial⟩ ⟨rfl, rfl, trivial⟩
    apply Dag.new (i := 5)
    case ha => rfl
    case ho => rfl
    case hb => rfl
    case hE =>
      intro w9
      refine AWl.put (R_slice_vwr (n := (i + 1)) rfl (.no rfl) rfl (.tmp rfl fun _ => rfl) rfl (.yes (.tmp rfl fun _ => rfl) (fun _ => by first | rfl | omega | (simp <;> omega))) .no Tryz.underlying31 ty72 (fun _ => ⟨by simp; omega, by simp⟩)) rfl ?_
      refine AWl.nil ?_
      exact Le.sub0 (σ' := ⟨_, [(0, _), (1, _), (2, _), (6, _), (7, _), (16, _), (22, _), (25, _)], [(1000, _), (20001, _)]⟩) rfl ⟨rfl, rfl, rfl, rfl, rfl, rfl, rfl, rfl, trivial⟩ ⟨rfl, rfl, trivial⟩
    apply Dag.old (i := 2)
    case ha => rfl
    case ho => rfl
    case hb => rfl
    case hE =>
      intro w9
      refine AWl.put (R_slice_pf (m := i) rfl (.no rfl) rfl (.tmp rfl fun _ => rfl) rfl (.yes (.tmp rfl fun _ => rfl) (fun _ => by first | rfl | omega | (simp <;> omega))) Tryz.underlying31 ty72 (fun _ => by first | omega | (simp <;> omega))) rfl ?_
      refine AWl.nil ?_
      exact Le.sub0 rfl ⟨rfl, rfl, rfl, rfl, rfl, rfl, rfl, rfl, trivial⟩ ⟨rfl, rfl, trivial⟩
    apply Dag.new (i := 6)
    case ha => rfl
    case ho => rfl
    case hb => rfl
    case hE =>
      intro w9
      refine AWl.updput (R_append_pf rfl rfl rfl (.tmp rfl fun _ => rfl) rfl (.tmp rfl fun _ => rfl) (by exact .vw) (by exact isV_map (fun _ => rfl) _) (by exact isV_part (fun _ => rfl) _ _ _) Tryz.underlying31 in72 (by simp <;> omega)) rfl ?_
      refine AWl.nil ?_
      exact Le.sub0 (σ' := ⟨_, [(0, _), (1, _), (2, _), (6, _), (7, _), (16, _), (26, _)], [(1000, _), (20001, _)]⟩) rfl ⟨rfl, rfl, rfl, rfl, rfl, rfl, rfl, trivial⟩ ⟨rfl, rfl, trivial⟩
    apply Dag.new (i := 7)
    case ha => rfl
    case ho => rfl
    case hb => rfl
    case hE =>
      intro w9
      refine AWl.put (R_assign rfl (.no rfl) rfl (.tmp rfl fun _ => rfl)) rfl ?_
      refine AWl.nil ?_
      exact Le.sub0 (σ' := ⟨_, [(0, _), (1, _), (2, _), (6, _), (7, _), (16, _)], [(1000, _), (20001, _)]⟩) rfl ⟨rfl, rfl, rfl, rfl, rfl, rfl, trivial⟩ ⟨rfl, rfl, trivial⟩
    refine Dag.fin (k := 26) rfl ?_
    refine AWl.nil ?_
    refine AW.seq ?_
    refine AW.region ?_
    refine AWl.put (R_move rfl (.no rfl) rfl (.tmp rfl fun _ => rfl)) rfl ?_
    refine AWl.put (R_move rfl (.no rfl) rfl (.tmp rfl fun _ => rfl)) rfl ?_
    refine AWl.put ((by exact R_len_pf rfl (.no rfl) rfl (.tmp rfl fun _ => rfl) Tryz.underlying31)) rfl ?_
    refine AWl.put (R_move rfl (.no rfl) rfl (.tmp rfl fun _ => rfl)) rfl ?_
    refine AWl.put (R_slice_pftl rfl (.no rfl) rfl (.tmp rfl fun _ => rfl) rfl (.yes (.tmp rfl fun _ => rfl) (fun _ => by first | rfl | omega | (simp <;> omega))) (.yes (.tmp rfl fun _ => rfl) (fun _ => by first | rfl | omega | (simp <;> omega))) Tryz.underlying31 ty72 (fun _ => ⟨by first | rfl | omega | (simp <;> omega), by first | rfl | omega | (simp <;> omega)⟩)) rfl ?_
    refine AWl.absupd (R_clear rfl rfl rfl (.tmp rfl fun _ => rfl) rfl Tryz.underlying31 in72 rfl rfl) ?_
    refine AWl.nil ?_
    refine AW.seq ?_
    refine AW.le (σ' := ⟨_, [(0, _), (1, _), (2, _), (6, _), (7, _)], [(1000, _), (20001, _)]⟩) (Le.sub0 rfl ⟨rfl, rfl, rfl, rfl, rfl, trivial⟩ ⟨rfl, rfl, trivial⟩) ?_
    refine AW.region ?_
    refine AWl.put (R_move rfl (.no rfl) rfl (.tmp rfl fun _ => rfl)) rfl ?_
    refine AWl.le (Le.closePf (d := 32) rfl rfl) ?_
    refine AWl.put (R_assign rfl (.no rfl) rfl (.tmp rfl fun _ => rfl)) rfl ?_
    refine AWl.nil ?_
    refine AW.ret ?_
    refine Res.one rfl (.tmp rfl .nil) rfl ?_
    refine congrArg (fun r => [V0.one (T.sl 4 r)]) ?_; exact del_rows hi rfl
theorem implcopyGraph (g : TGraph) (hz1 : g.Values.length ≤ 1073741824) (hz2 : g.Edges.length ≤ 1073741824) : FnT Tryz.prog 37 [.agg (cGraph g)] (.a (.agg (cGraph g))) := by
  refine FnT.walk Tryz.func37 rfl (by kernel_rfl) Tryz.ntmps37 rfl fun hlen w0 => ?_
  try simp [cPair, cToken, cExpr, cEdge, cGraph, cStep, cWalk, cChange, cBatch, cHistory, cPositions, cAutomaton, cProductStep, cPathAtom, cConjunction, cView, cDelta, cRegistered, cRegistry] at hlen
  refine AW.seq ?_
  refine AW.region ?_
  refine AWl.put (R_boxz rfl rfl rfl (.tmp rfl fun _ => rfl) (ts := _) (by rfl)) rfl ?_
  refine AWl.add (R_alloc 2 rfl rfl rfl in33 rfl rfl rfl) rfl ?_
  refine AWl.nil ?_
  refine AW.seq ?_
  refine AW.le (σ' := ⟨_, [(0, _), (1, _), (2, _)], [(2, _)]⟩) (Le.sub0 rfl ⟨rfl, rfl, rfl, trivial⟩ ⟨rfl, trivial⟩) ?_
  refine AW.drawK 8 (nthB [[], [0], [0, 1], [], [], [4], [0, 1, 2, 3, 4, 5], [0, 1, 2, 3, 4, 5, 6]]) [(6, 6)] (by kernel_rfl) (by kernel_rfl) (by kernel_rfl) ?_
  refine DrawK.step (LocK.of rfl fun σ' hs => (by exact R_fieldAddr rfl (.no rfl) (hd_sup hs rfl) (.tmp (hs.slots _ _ rfl) fun _ => rfl) fl33_0)) ?_
  refine DrawK.step (LocK.of rfl fun σ' hs => (by exact R_load rfl (.no rfl) (hd_sup hs rfl) (.tmp (hs.slots _ _ rfl) fun _ => rfl) ty22 rfl rfl)) ?_
  refine DrawK.step (LocK.ofs1 rfl fun σ' hs hf => R_call 500 (implcopyInts g.Values hz1) rfl rfl (hd_sup hs rfl) (.cons (.tmp (hs.slots _ _ rfl) fun _ => rfl) (readA_sup hs rfl) .nil) rfl (all_fresh hf)) ?_
  refine DrawK.step (LocK.of1 rfl fun σ' hs hf => R_empty 6 rfl rfl (hd_sup hs rfl) Tryz.underlying31 ty72 hf) ?_
  refine DrawK.step (LocK.of rfl fun σ' hs => (by exact R_fieldAddr rfl (.no rfl) (hd_sup hs rfl) (.tmp (hs.slots _ _ rfl) fun _ => rfl) fl33_1)) ?_
  refine DrawK.step (LocK.of rfl fun σ' hs => (by exact R_load rfl (.no rfl) (hd_sup hs rfl) (.tmp (hs.slots _ _ rfl) fun _ => rfl) ty31 rfl rfl)) ?_
  refine DrawK.step (LocK.ofc rfl rfl fun σ' hs => R_append (id := 6) rfl rfl (hd_sup hs rfl) (.tmp (hs.slots _ _ rfl) fun _ => rfl) (hs.res _ _ rfl) (.tmp (hs.slots _ _ rfl) fun _ => rfl) (by exact .t) (by exact isV_map (fun _ => rfl) _) Tryz.underlying31 in72 rfl (by (simp [chunk]; omega)) (by (unfold maxLen; simp [chunk]; omega))) ?_
  refine DrawK.step (LocK.of rfl fun σ' hs => R_build (ps := [(0, .tmp 5), (1, .tmp 9)]) rfl rfl (hd_sup hs rfl) in33 rfl rfl st33 (.cons (.tmp (hs.slots _ _ rfl) fun _ => rfl) rfl rfl fp33_0 (.cons (.tmp (hs.slots _ _ rfl) fun _ => rfl) rfl rfl fp33_1 .nil)) rfl) ?_
  refine DrawK.fin rfl rfl rfl ?_
  refine AWl.le (σ' := ⟨_, [(0, _), (1, _), (2, _), (10, _)], [(2, _), (500, _), (6, _)]⟩) (Le.sub0 rfl ⟨rfl, rfl, rfl, rfl, trivial⟩ ⟨rfl, rfl, rfl, trivial⟩) ?_
  refine AWl.chgb (R_store_pb rfl rfl rfl (.tmp rfl fun _ => rfl) (.tmp rfl fun _ => rfl) rfl ty33 rfl rfl rfl (by kernel_rfl) rfl) ?_
  refine AWl.nil ?_
  refine AW.ret ?_
  refine Res.one rfl (.cell rfl rfl ty33 rfl rfl .nil) rfl ?_
  rfl
theorem implDeleteEdge (g : TGraph) (id : Int) (hz1 : g.Values.length ≤ 1073741824) (hz2 : g.Edges.length ≤ 1073741824) : FnT Tryz.prog 39 [.agg (cGraph g), .one (.v (.int .i64 id))] (.tup [.agg (cGraph (delG g id).1), .one (.v (.bool (delG g id).2))]) := by
  refine FnT.walk Tryz.func39 rfl (by kernel_rfl) Tryz.ntmps39 rfl fun hlen w0 => ?_
  try simp [cPair, cToken, cExpr, cEdge, cGraph, cStep, cWalk, cChange, cBatch, cHistory, cPositions, cAutomaton, cProductStep, cPathAtom, cConjunction, cView, cDelta, cRegistered, cRegistry] at hlen
  refine AW.seq ?_
  refine AW.region ?_
  refine AWl.put (R_boxz rfl rfl rfl (.tmp rfl fun _ => rfl) (ts := _) (by rfl)) rfl ?_
  refine AWl.add (R_alloc 4 rfl rfl rfl in33 rfl rfl rfl) rfl ?_
  refine AWl.put (R_assign rfl (.no rfl) rfl (.const rfl)) rfl ?_
  refine AWl.nil ?_
  refine AW.seq ?_
  refine AW.region ?_
  refine AWl.put ((by exact R_load rfl (.no rfl) rfl (.tmp rfl fun _ => rfl) ty33 rfl rfl)) rfl ?_
  refine AWl.adds (R_call 900 (implcopyGraph g hz1 hz2) rfl rfl rfl (.cons (.tmp rfl fun _ => rfl) rfl .nil) rfl rfl) rfl ?_
  refine AWl.add (R_alloc 6 rfl rfl rfl in33 rfl rfl rfl) rfl ?_
  refine AWl.chgb (R_store_pb rfl rfl rfl (.tmp rfl fun _ => rfl) (.tmp rfl fun _ => rfl) rfl ty33 rfl rfl rfl (by kernel_rfl) rfl) ?_
  refine AWl.nil ?_
  refine AW.seq ?_
  refine AW.region ?_
  refine AWl.put ((by exact R_load rfl (.no rfl) rfl (.tmp rfl fun _ => rfl) ty33 rfl rfl)) rfl ?_
  refine AWl.put (R_move rfl (.no rfl) rfl (.tmp rfl fun _ => rfl)) rfl ?_
  refine AWl.put (R_callz (FnT.fr (implEdgeIndex g id)) rfl (.no rfl) rfl (.cons (.tmp rfl fun _ => rfl) rfl (.cons (.tmp rfl fun _ => rfl) rfl .nil))) rfl ?_
  refine AWl.put (R_assign rfl (.no rfl) rfl (.tmp rfl fun _ => rfl)) rfl ?_
  refine AWl.nil ?_
  refine AW.seq ?_
  refine AW.seq ?_
  refine AW.region ?_
  refine AWl.put (R_move rfl (.no rfl) rfl (.tmp rfl fun _ => rfl)) rfl ?_
  refine AWl.put (R_lt rfl (.no rfl) rfl (.tmp rfl fun _ => rfl) (.const rfl)) rfl ?_
  refine AWl.put (R_move rfl (.no rfl) rfl (.tmp rfl fun _ => rfl)) rfl ?_
  refine AWl.put ((by exact R_load rfl (by exact .not1 rfl rfl rfl rfl) rfl (.tmp rfl (by exact fun _ => rfl)) ty33 rfl rfl)) rfl ?_
  refine AWl.put (R_callz (FnT.fr (implIsValidGraph g)) rfl (by exact .not1 rfl rfl rfl rfl) rfl (.cons (.tmp rfl (by simp)) rfl .nil)) rfl ?_
  refine AWl.put (R_not rfl (by exact .not1 rfl rfl rfl rfl) rfl (.tmp rfl (by simp))) rfl ?_
  refine AWl.put (R_or rfl (.no rfl) rfl (.tmp rfl fun _ => rfl) (.tmp rfl (by simp))) rfl ?_
  refine AWl.nil ?_
  refine AW.cond (.tmp rfl fun _ => rfl) (fun h19 => ?_) (fun h19 => ?_)
  · skip
    try simp at h19
    have hc : (validG g && decide (0 ≤ edgeIndex g id)) = false := by (rcases h19 with h | h; (rw [decide_eq_false (by omega), Bool.and_false]); (rw [h]; rfl))
    refine AW.seq ?_
    refine AW.le (σ' := ⟨_, [(0, _), (1, _), (2, _), (4, _), (5, _), (6, _), (7, _)], [(4, _), (900, _), (901, _), (6, _)]⟩) (Le.sub0 rfl ⟨rfl, rfl, rfl, rfl, rfl, rfl, rfl, trivial⟩ ⟨rfl, rfl, rfl, rfl, trivial⟩) ?_
    refine AW.region ?_
    refine AWl.put ((by exact R_load_pp rfl (.no rfl) rfl (.tmp rfl fun _ => rfl) rfl ty33 rfl rfl)) rfl ?_
    refine AWl.chgb (R_store_pb rfl rfl rfl (.tmp rfl fun _ => rfl) (.tmp rfl fun _ => rfl) rfl ty33 rfl rfl rfl (by kernel_rfl) rfl) ?_
    refine AWl.le (σ' := ⟨_, [(0, _), (1, _), (2, _), (4, _), (5, _), (6, _), (7, _)], [(4, _), (900, _), (901, _), (6, _)]⟩) (Le.sub0 rfl ⟨rfl, rfl, rfl, rfl, rfl, rfl, rfl, trivial⟩ ⟨rfl, rfl, rfl, rfl, trivial⟩) ?_
    refine AWl.put (R_assign rfl (.no rfl) rfl (.const rfl)) rfl ?_
    refine AWl.nil ?_
    refine AW.ret ?_
    refine Res.many rfl (.cell rfl rfl ty33 rfl rfl (.tmp rfl .nil)) rfl ?_ (by simp)
    unfold delG; rw [hc]; rfl
  · skip
    try simp at h19
    have hc : (validG g && decide (0 ≤ edgeIndex g id)) = true := by (rw [h19.2, decide_eq_true (by omega)]; rfl)
    obtain ⟨i, xi, hgi, hix⟩ := edgeIndex_get (g := g) (id := id) (by omega)
    have hil := (List.getElem?_eq_some_iff.1 hgi).1
    have hdel : FnC Tryz.prog 72 [(true, .one (.sl 4 (g.Edges.map cEdge))), (false, .one (.v (.int .i64 (edgeIndex g id)))), (false, .one (.v (.int .i64 (edgeIndex g id + 1))))] (.a (.one (.sl 4 ((g.Edges.take (edgeIndex g id).toNat ++ g.Edges.drop ((edgeIndex g id).toNat + 1)).map cEdge)))) := by (rw [hix, Int.toNat_natCast]; exact DeleteEdge1 g.Edges i hil (by omega))
    refine AW.skip ?_
    refine AW.seq ?_
    refine AW.le (σ' := ⟨_, [(0, _), (1, _), (2, _), (4, _), (5, _), (6, _), (7, _)], [(4, _), (900, _), (901, _), (6, _)]⟩) (Le.sub0 rfl ⟨rfl, rfl, rfl, rfl, rfl, rfl, rfl, trivial⟩ ⟨rfl, rfl, rfl, rfl, trivial⟩) ?_
    refine AW.region ?_
    refine AWl.put ((by exact R_fieldAddr_pp rfl (.no rfl) rfl (.tmp rfl fun _ => rfl) fl33_1)) rfl ?_
    refine AWl.put ((by exact R_load_pp rfl (.no rfl) rfl (.tmp rfl fun _ => rfl) rfl ty31 rfl rfl)) rfl ?_
    refine AWl.put (R_move rfl (.no rfl) rfl (.tmp rfl fun _ => rfl)) rfl ?_
    refine AWl.put (R_move rfl (.no rfl) rfl (.tmp rfl fun _ => rfl)) rfl ?_
    refine AWl.put (R_add rfl (.no rfl) rfl (.tmp rfl fun _ => rfl) (.const rfl) (fun _ => by omega)) rfl ?_
    apply AWl.consume
    case ho =>
      apply R_consume (xo := .tmp 22) 2600 (hdel) rfl rfl rfl (.tmp rfl fun _ => rfl)
      case ha => rfl
      case hargs => exact (ArgC.own (ArgRd.one (.tmp rfl fun _ => rfl) (ArgRd.one (.tmp rfl fun _ => rfl) .nil)))
      all_goals rfl
    case hd => rfl
    refine AWl.put ((by exact R_fieldAddr_pp rfl (.no rfl) rfl (.tmp rfl fun _ => rfl) fl33_1)) rfl ?_
    refine AWl.chgb (R_store_pb rfl rfl rfl (.tmp rfl fun _ => rfl) (.tmp rfl fun _ => rfl) rfl ty31 rfl rfl rfl (by kernel_rfl) rfl) ?_
    refine AWl.nil ?_
    refine AW.seq ?_
    refine AW.le (σ' := ⟨_, [(0, _), (1, _), (2, _), (4, _), (5, _), (6, _), (7, _)], [(4, _), (900, _), (6, _), (2600, _)]⟩) (Le.sub0 rfl ⟨rfl, rfl, rfl, rfl, rfl, rfl, rfl, trivial⟩ ⟨rfl, rfl, rfl, rfl, trivial⟩) ?_
    refine AW.region ?_
    refine AWl.put ((by exact R_load_pp rfl (.no rfl) rfl (.tmp rfl fun _ => rfl) rfl ty33 rfl rfl)) rfl ?_
    refine AWl.chgb (R_store_pb rfl rfl rfl (.tmp rfl fun _ => rfl) (.tmp rfl fun _ => rfl) rfl ty33 rfl rfl rfl (by kernel_rfl) rfl) ?_
    refine AWl.le (σ' := ⟨_, [(0, _), (1, _), (2, _), (4, _), (5, _), (6, _), (7, _)], [(4, _), (900, _), (6, _), (2600, _)]⟩) (Le.sub0 rfl ⟨rfl, rfl, rfl, rfl, rfl, rfl, rfl, trivial⟩ ⟨rfl, rfl, rfl, rfl, trivial⟩) ?_
    refine AWl.put (R_assign rfl (.no rfl) rfl (.const rfl)) rfl ?_
    refine AWl.nil ?_
    refine AW.ret ?_
    refine Res.many rfl (.cell rfl rfl ty33 rfl rfl (.tmp rfl .nil)) rfl ?_ (by simp)
    unfold delG; rw [hc]; rfl
theorem specl3Copy (g : TGraph) (hz1 : g.Values.length ≤ 1073741824) (hz2 : g.Edges.length ≤ 1073741824) : FnT Tryz.prog 31 [.agg (cGraph g)] (.a (.agg (cGraph g))) := by
  refine FnT.walk Tryz.func31 rfl (by kernel_rfl) Tryz.ntmps31 rfl fun hlen w0 => ?_
  try simp [cPair, cToken, cExpr, cEdge, cGraph, cStep, cWalk, cChange, cBatch, cHistory, cPositions, cAutomaton, cProductStep, cPathAtom, cConjunction, cView, cDelta, cRegistered, cRegistry] at hlen
  refine AW.seq ?_
  refine AW.region ?_
  refine AWl.put (R_boxz rfl rfl rfl (.tmp rfl fun _ => rfl) (ts := _) (by rfl)) rfl ?_
  refine AWl.add (R_alloc 2 rfl rfl rfl in33 rfl rfl rfl) rfl ?_
  refine AWl.nil ?_
  refine AW.seq ?_
  refine AW.le (σ' := ⟨_, [(0, _), (1, _), (2, _)], [(2, _)]⟩) (Le.sub0 rfl ⟨rfl, rfl, rfl, trivial⟩ ⟨rfl, trivial⟩) ?_
  refine AW.drawK 9 (nthB [[], [], [1], [0, 1, 2], [], [], [5], [0, 1, 2, 3, 4, 5, 6], [0, 1, 2, 3, 4, 5, 6, 7]]) [(3, 3), (7, 7)] (by kernel_rfl) (by kernel_rfl) (by kernel_rfl) ?_
  refine DrawK.step (LocK.of1 rfl fun σ' hs hf => R_empty 3 rfl rfl (hd_sup hs rfl) Tryz.underlying22 ty3 hf) ?_
  refine DrawK.step (LocK.of rfl fun σ' hs => (by exact R_fieldAddr rfl (.no rfl) (hd_sup hs rfl) (.tmp (hs.slots _ _ rfl) fun _ => rfl) fl33_0)) ?_
  refine DrawK.step (LocK.of rfl fun σ' hs => (by exact R_load rfl (.no rfl) (hd_sup hs rfl) (.tmp (hs.slots _ _ rfl) fun _ => rfl) ty22 rfl rfl)) ?_
  refine DrawK.step (LocK.ofc rfl rfl fun σ' hs => R_append (id := 3) rfl rfl (hd_sup hs rfl) (.tmp (hs.slots _ _ rfl) fun _ => rfl) (hs.res _ _ rfl) (.tmp (hs.slots _ _ rfl) fun _ => rfl) (by exact .t) (by exact isV_map (fun _ => rfl) _) Tryz.underlying22 in3 rfl (by (simp [chunk]; omega)) (by (unfold maxLen; simp [chunk]; omega))) ?_
  refine DrawK.step (LocK.of1 rfl fun σ' hs hf => R_empty 7 rfl rfl (hd_sup hs rfl) Tryz.underlying31 ty72 hf) ?_
  refine DrawK.step (LocK.of rfl fun σ' hs => (by exact R_fieldAddr rfl (.no rfl) (hd_sup hs rfl) (.tmp (hs.slots _ _ rfl) fun _ => rfl) fl33_1)) ?_
  refine DrawK.step (LocK.of rfl fun σ' hs => (by exact R_load rfl (.no rfl) (hd_sup hs rfl) (.tmp (hs.slots _ _ rfl) fun _ => rfl) ty31 rfl rfl)) ?_
  refine DrawK.step (LocK.ofc rfl rfl fun σ' hs => R_append (id := 7) rfl rfl (hd_sup hs rfl) (.tmp (hs.slots _ _ rfl) fun _ => rfl) (hs.res _ _ rfl) (.tmp (hs.slots _ _ rfl) fun _ => rfl) (by exact .t) (by exact isV_map (fun _ => rfl) _) Tryz.underlying31 in72 rfl (by (simp [chunk]; omega)) (by (unfold maxLen; simp [chunk]; omega))) ?_
  refine DrawK.step (LocK.of rfl fun σ' hs => R_build (ps := [(0, .tmp 6), (1, .tmp 10)]) rfl rfl (hd_sup hs rfl) in33 rfl rfl st33 (.cons (.tmp (hs.slots _ _ rfl) fun _ => rfl) rfl rfl fp33_0 (.cons (.tmp (hs.slots _ _ rfl) fun _ => rfl) rfl rfl fp33_1 .nil)) rfl) ?_
  refine DrawK.fin rfl rfl rfl ?_
  refine AWl.le (σ' := ⟨_, [(0, _), (1, _), (2, _), (11, _)], [(2, _), (3, _), (7, _)]⟩) (Le.sub0 rfl ⟨rfl, rfl, rfl, rfl, trivial⟩ ⟨rfl, rfl, rfl, trivial⟩) ?_
  refine AWl.chgb (R_store_pb rfl rfl rfl (.tmp rfl fun _ => rfl) (.tmp rfl fun _ => rfl) rfl ty33 rfl rfl rfl (by kernel_rfl) rfl) ?_
  refine AWl.nil ?_
  refine AW.ret ?_
  refine Res.one rfl (.cell rfl rfl ty33 rfl rfl .nil) rfl ?_
  rfl
theorem specDeleteEdge (g : TGraph) (id : Int) (hz1 : g.Values.length ≤ 1073741824) (hz2 : g.Edges.length ≤ 1073741824) : FnT Tryz.prog 33 [.agg (cGraph g), .one (.v (.int .i64 id))] (.tup [.agg (cGraph (delG g id).1), .one (.v (.bool (delG g id).2))]) := by
  refine FnT.walk Tryz.func33 rfl (by kernel_rfl) Tryz.ntmps33 rfl fun hlen w0 => ?_
  try simp [cPair, cToken, cExpr, cEdge, cGraph, cStep, cWalk, cChange, cBatch, cHistory, cPositions, cAutomaton, cProductStep, cPathAtom, cConjunction, cView, cDelta, cRegistered, cRegistry] at hlen
  refine AW.seq ?_
  refine AW.region ?_
  refine AWl.put (R_boxz rfl rfl rfl (.tmp rfl fun _ => rfl) (ts := _) (by rfl)) rfl ?_
  refine AWl.add (R_alloc 4 rfl rfl rfl in33 rfl rfl rfl) rfl ?_
  refine AWl.put (R_assign rfl (.no rfl) rfl (.const rfl)) rfl ?_
  refine AWl.nil ?_
  refine AW.seq ?_
  refine AW.region ?_
  refine AWl.put ((by exact R_load rfl (.no rfl) rfl (.tmp rfl fun _ => rfl) ty33 rfl rfl)) rfl ?_
  refine AWl.put (R_move rfl (.no rfl) rfl (.tmp rfl fun _ => rfl)) rfl ?_
  refine AWl.put (R_callz (FnT.fr (specEdgeIndex g id)) rfl (.no rfl) rfl (.cons (.tmp rfl fun _ => rfl) rfl (.cons (.tmp rfl fun _ => rfl) rfl .nil))) rfl ?_
  refine AWl.put (R_assign rfl (.no rfl) rfl (.tmp rfl fun _ => rfl)) rfl ?_
  refine AWl.nil ?_
  refine AW.seq ?_
  refine AW.seq ?_
  refine AW.region ?_
  refine AWl.put ((by exact R_load rfl (.no rfl) rfl (.tmp rfl fun _ => rfl) ty33 rfl rfl)) rfl ?_
  refine AWl.put (R_callz (FnT.fr (specIsValidGraph g)) rfl (.no rfl) rfl (.cons (.tmp rfl fun _ => rfl) rfl .nil)) rfl ?_
  refine AWl.put (R_not rfl (.no rfl) rfl (.tmp rfl fun _ => rfl)) rfl ?_
  refine AWl.put (R_move rfl (.no rfl) rfl (.tmp rfl fun _ => rfl)) rfl ?_
  refine AWl.put (R_move rfl (by exact .not1 rfl rfl rfl rfl) rfl (.tmp rfl (by exact fun _ => rfl))) rfl ?_
  refine AWl.put (R_lt rfl (by exact .not1 rfl rfl rfl rfl) rfl (.tmp rfl (by simp)) (.const rfl)) rfl ?_
  refine AWl.put (R_or rfl (.no rfl) rfl (.tmp rfl fun _ => rfl) (.tmp rfl (by simp))) rfl ?_
  refine AWl.nil ?_
  refine AW.cond (.tmp rfl fun _ => rfl) (fun h17 => ?_) (fun h17 => ?_)
  · skip
    try simp at h17
    have hc : (validG g && decide (0 ≤ edgeIndex g id)) = false := by (rcases h17 with h | h; (rw [h]; rfl); (rw [decide_eq_false (by omega), Bool.and_false]))
    refine AW.seq ?_
    refine AW.le (σ' := ⟨_, [(0, _), (1, _), (2, _), (4, _), (5, _), (6, _)], [(4, _)]⟩) (Le.sub0 rfl ⟨rfl, rfl, rfl, rfl, rfl, rfl, trivial⟩ ⟨rfl, trivial⟩) ?_
    refine AW.region ?_
    refine AWl.put ((by exact R_load rfl (.no rfl) rfl (.tmp rfl fun _ => rfl) ty33 rfl rfl)) rfl ?_
    refine AWl.adds (R_call 1900 (specl3Copy g hz1 hz2) rfl rfl rfl (.cons (.tmp rfl fun _ => rfl) rfl .nil) rfl rfl) rfl ?_
    refine AWl.chgb (R_store_pb rfl rfl rfl (.tmp rfl fun _ => rfl) (.tmp rfl fun _ => rfl) rfl ty33 rfl rfl rfl (by kernel_rfl) rfl) ?_
    refine AWl.le (σ' := ⟨_, [(0, _), (1, _), (2, _), (4, _), (5, _), (6, _)], [(4, _), (1900, _), (1901, _)]⟩) (Le.sub0 rfl ⟨rfl, rfl, rfl, rfl, rfl, rfl, trivial⟩ ⟨rfl, rfl, rfl, trivial⟩) ?_
    refine AWl.put (R_assign rfl (.no rfl) rfl (.const rfl)) rfl ?_
    refine AWl.nil ?_
    refine AW.ret ?_
    refine Res.many rfl (.cell rfl rfl ty33 rfl rfl (.tmp rfl .nil)) rfl ?_ (by simp)
    unfold delG; rw [hc]; rfl
  · skip
    try simp at h17
    have hc : (validG g && decide (0 ≤ edgeIndex g id)) = true := by (rw [h17.1, decide_eq_true (by omega)]; rfl)
    obtain ⟨i, xi, hgi, hix⟩ := edgeIndex_get (g := g) (id := id) (by omega)
    have hil := (List.getElem?_eq_some_iff.1 hgi).1
    refine AW.skip ?_
    refine AW.seq ?_
    refine AW.le (σ' := ⟨_, [(0, _), (1, _), (2, _), (4, _), (5, _), (6, _)], [(4, _)]⟩) (Le.sub0 rfl ⟨rfl, rfl, rfl, rfl, rfl, rfl, trivial⟩ ⟨rfl, trivial⟩) ?_
    refine AW.region ?_
    refine AWl.add (R_empty 20 rfl rfl rfl Tryz.underlying22 ty3 rfl) rfl ?_
    refine AWl.put ((by exact R_fieldAddr rfl (.no rfl) rfl (.tmp rfl fun _ => rfl) fl33_0)) rfl ?_
    refine AWl.put ((by exact R_load rfl (.no rfl) rfl (.tmp rfl fun _ => rfl) ty22 rfl rfl)) rfl ?_
    refine AWl.chgput (R_append rfl rfl rfl (.tmp rfl fun _ => rfl) rfl (.tmp rfl fun _ => rfl) (by exact .t) (by exact isV_map (fun _ => rfl) _) Tryz.underlying22 in3 rfl (by (simp [chunk]; omega)) (by (unfold maxLen; simp [chunk]; omega))) rfl ?_
    refine AWl.le (σ' := ⟨_, [(0, _), (1, _), (2, _), (4, _), (5, _), (6, _), (23, _)], [(4, _), (20, _)]⟩) (Le.sub0 rfl ⟨rfl, rfl, rfl, rfl, rfl, rfl, rfl, trivial⟩ ⟨rfl, rfl, trivial⟩) ?_
    refine AWl.put (R_build (ps := [(0, .tmp 23)]) rfl rfl rfl in33 rfl rfl st33 (.cons (.tmp rfl fun _ => rfl) rfl rfl fp33_0 .nil) rfl) rfl ?_
    refine AWl.nilA (i := 24) 20001 4 1 rfl rfl rfl ?_
    refine AWl.add (R_alloc 7 rfl rfl rfl in33 rfl rfl rfl) rfl ?_
    refine AWl.chgb (R_store_pb rfl rfl rfl (.tmp rfl fun _ => rfl) (.tmp rfl fun _ => rfl) rfl ty33 rfl rfl rfl (by kernel_rfl) rfl) ?_
    refine AWl.nil ?_
    refine AW.seq ?_
    refine AW.le (σ' := ⟨_, [(0, _), (1, _), (2, _), (4, _), (5, _), (6, _), (7, _), (23, _), (24, _)], [(4, _), (20, _), (20001, _), (7, _)]⟩) (Le.sub0 rfl ⟨rfl, rfl, rfl, rfl, rfl, rfl, rfl, rfl, rfl, trivial⟩ ⟨rfl, rfl, rfl, rfl, trivial⟩) ?_
    refine AW.drawK 13 (nthB [[], [], [1], [], [1, 2, 3], [0, 1, 2, 3, 4], [], [6], [], [8], [6, 7, 8, 9], [0, 1, 2, 3, 4, 5, 6, 7, 8, 9, 10], [0, 1, 2, 3, 4, 5, 6, 7, 8, 9, 10, 11]]) [(5, 25), (11, 25)] (by kernel_rfl) (by kernel_rfl) (by kernel_rfl) ?_
    refine DrawK.step (LocK.of1 rfl fun σ' hs hf => R_empty 25 rfl rfl (hd_sup hs rfl) Tryz.underlying31 ty72 hf) ?_
    refine DrawK.step (LocK.of rfl fun σ' hs => (by exact R_fieldAddr rfl (.no rfl) (hd_sup hs rfl) (.tmp (hs.slots _ _ rfl) fun _ => rfl) fl33_1)) ?_
    refine DrawK.step (LocK.of rfl fun σ' hs => (by exact R_load rfl (.no rfl) (hd_sup hs rfl) (.tmp (hs.slots _ _ rfl) fun _ => rfl) ty31 rfl rfl)) ?_
    refine DrawK.step (LocK.of rfl fun σ' hs => R_move rfl (.no rfl) (hd_sup hs rfl) (.tmp (hs.slots _ _ rfl) fun _ => rfl)) ?_
    refine DrawK.step (LocK.of rfl fun σ' hs => R_slice (m := (edgeIndex g id).toNat) rfl (.no rfl) (hd_sup hs rfl) (.tmp (hs.slots _ _ rfl) fun _ => rfl) .no (.yes (.tmp (hs.slots _ _ rfl) fun _ => rfl) (fun _ => by first | omega | (simp <;> omega))) Tryz.underlying31 ty72 (fun _ => ⟨by omega, by first | omega | (simp; omega)⟩)) ?_
    refine DrawK.step (LocK.ofc rfl rfl fun σ' hs => R_append (id := 25) rfl rfl (hd_sup hs rfl) (.tmp (hs.slots _ _ rfl) fun _ => rfl) (hs.res _ _ rfl) (.tmp (hs.slots _ _ rfl) fun _ => rfl) (by exact .t) (by exact isV_part (fun _ => rfl) _ _ _) Tryz.underlying31 in72 rfl (by (simp [chunk]; omega)) (by (unfold maxLen; simp [chunk]; omega))) ?_
    refine DrawK.step (LocK.of rfl fun σ' hs => (by exact R_fieldAddr rfl (.no rfl) (hd_sup hs rfl) (.tmp (hs.slots _ _ rfl) fun _ => rfl) fl33_1)) ?_
    refine DrawK.step (LocK.of rfl fun σ' hs => (by exact R_load rfl (.no rfl) (hd_sup hs rfl) (.tmp (hs.slots _ _ rfl) fun _ => rfl) ty31 rfl rfl)) ?_
    refine DrawK.step (LocK.of rfl fun σ' hs => R_move rfl (.no rfl) (hd_sup hs rfl) (.tmp (hs.slots _ _ rfl) fun _ => rfl)) ?_
    refine DrawK.step (LocK.of rfl fun σ' hs => R_add rfl (.no rfl) (hd_sup hs rfl) (.tmp (hs.slots _ _ rfl) fun _ => rfl) (.const rfl) (fun _ => by omega)) ?_
    refine DrawK.step (LocK.of rfl fun σ' hs => R_slice (n := ((edgeIndex g id).toNat + 1)) rfl (.no rfl) (hd_sup hs rfl) (.tmp (hs.slots _ _ rfl) fun _ => rfl) (.yes (.tmp (hs.slots _ _ rfl) fun _ => rfl) (fun _ => by first | omega | (simp <;> omega))) .no Tryz.underlying31 ty72 (fun _ => ⟨by simp; omega, by simp⟩)) ?_
    refine DrawK.step (LocK.ofc rfl rfl fun σ' hs => R_append (id := 25) rfl rfl (hd_sup hs rfl) (.tmp (hs.slots _ _ rfl) fun _ => rfl) (hs.res _ _ rfl) (.tmp (hs.slots _ _ rfl) fun _ => rfl) (by exact .t) (by exact isV_part (fun _ => rfl) _ _ _) Tryz.underlying31 in72 rfl (by (simp [chunk]; omega)) (by (unfold maxLen; simp [chunk]; omega))) ?_
    refine DrawK.step (LocK.of rfl fun σ' hs => (by exact R_fieldAddr_pp rfl (.no rfl) (hd_sup hs rfl) (.tmp (hs.slots _ _ rfl) fun _ => rfl) fl33_1)) ?_
    refine DrawK.fin rfl rfl rfl ?_
    refine AWl.le (σ' := ⟨_, [(0, _), (1, _), (2, _), (4, _), (5, _), (6, _), (7, _), (36, _), (37, _)], [(4, _), (20, _), (20001, _), (7, _), (25, _)]⟩) (Le.sub0 rfl ⟨rfl, rfl, rfl, rfl, rfl, rfl, rfl, rfl, rfl, trivial⟩ ⟨rfl, rfl, rfl, rfl, rfl, trivial⟩) ?_
    refine AWl.chgb (R_store_pb rfl rfl rfl (.tmp rfl fun _ => rfl) (.tmp rfl fun _ => rfl) rfl ty31 rfl rfl rfl (by kernel_rfl) rfl) ?_
    refine AWl.nil ?_
    refine AW.seq ?_
    refine AW.region ?_
    refine AWl.put ((by exact R_load_pp rfl (.no rfl) rfl (.tmp rfl fun _ => rfl) rfl ty33 rfl rfl)) rfl ?_
    refine AWl.chgb (R_store_pb rfl rfl rfl (.tmp rfl fun _ => rfl) (.tmp rfl fun _ => rfl) rfl ty33 rfl rfl rfl (by kernel_rfl) rfl) ?_
    refine AWl.le (σ' := ⟨_, [(0, _), (1, _), (2, _), (4, _), (5, _), (6, _), (7, _)], [(4, _), (20, _), (20001, _), (7, _), (25, _)]⟩) (Le.sub0 rfl ⟨rfl, rfl, rfl, rfl, rfl, rfl, rfl, trivial⟩ ⟨rfl, rfl, rfl, rfl, rfl, trivial⟩) ?_
    refine AWl.put (R_assign rfl (.no rfl) rfl (.const rfl)) rfl ?_
    refine AWl.nil ?_
    refine AW.ret ?_
    refine Res.many rfl (.cell rfl rfl ty33 rfl rfl (.tmp rfl .nil)) rfl ?_ (by simp)
    unfold delG; rw [hc]; refine congrArg (fun r => [V0.agg [T.sl 1 (g.Values.map cInt), T.sl 4 r], V0.one (T.v (.bool true))]) ?_; simp [List.map_take, List.map_drop]; rw [List.take_of_length_le (by simp)]
end Go.Proofs.YtbfejakbaijmhaaGreat
