/- Merged texts. -/
import Derived.Test.YtoealglkenhphaaGreatB103xa
import Derived.Test.YtoealglkenhphaaGreatB43xa
set_option linter.unusedVariables false
set_option linter.unusedSimpArgs false
set_option maxHeartbeats 1000000
set_option maxRecDepth 100000
namespace Go.Q
open Go.D
end Go.Q
namespace Go.Proofs.YtoealglkenhphaaGreat
open Go.RowKit Go.Q Go.D
end Go.Proofs.YtoealglkenhphaaGreat
set_option linter.unusedVariables false
set_option linter.unusedSimpArgs false
set_option maxHeartbeats 1000000
set_option maxRecDepth 100000
namespace Go.Q
open Go.D
theorem viewAft_few (g : TGraph) (v : TView) (r : TGraph × Bool) (hr : r.2 = true → validG r.1 = true ∧ r.1.Values = g.Values) : cpView (viewAft g v r).1 ≤ cpView v + 4096 := by
  have h0 := cpView_nn v
  unfold viewAft
  split
  · rename_i hc
    simp only [Bool.and_eq_true] at hc
    have hD := hr hc.1
    have hgd := good_del (validV_parts hc.2) hD.1 hD.2
    obtain ⟨hhg, hha, hhx⟩ := good_parts hgd
    have := viewOf_cnt hha hhg hhx
    show cpView (viewOf _ _ _) ≤ _
    omega
  · show cpView v ≤ _
    omega
theorem viewIns_cnt (g : TGraph) (v : TView) (e : TEdge) : cpView (viewAft g v (insG g e)).1 ≤ cpView v + 4096 := viewAft_few g v _ fun h => ⟨(insG_valid h).1, (insG_valid h).2.1⟩
end Go.Q
namespace Go.Proofs.YtoealglkenhphaaGreat
open Go.RowKit Go.Q Go.D
theorem implViewAfterInsert (g : TGraph) (v : TView) (e : TEdge) (hz1 : g.Values.length ≤ 1048576) (hz2 : g.Edges.length ≤ 1048576) (hz : okView v) : FnT Tryz.prog 13 [.agg (cGraph g), .agg (cView v), .agg (cEdge e)] (.tup [.agg (cView (viewAft g v (insG g e)).1), .one (.v (.bool (viewAft g v (insG g e)).2))]) := by
  refine FnT.walk Tryz.func13 rfl (by kernel_rfl) Tryz.ntmps13 rfl fun hlen w0 => ?_
  try simp [cPair, cToken, cExpr, cEdge, cGraph, cStep, cWalk, cChange, cBatch, cHistory, cPositions, cAutomaton, cProductStep, cPathAtom, cConjunction, cView, cDelta, cRegistered, cRegistry] at hlen
  skip
  refine AW.seq ?_
  refine AW.region ?_
  refine AWl.put (R_boxz rfl rfl rfl (.tmp rfl fun _ => rfl) (ts := _) (by rfl)) rfl ?_
  refine AWl.put (R_boxz rfl rfl rfl (.tmp rfl fun _ => rfl) (ts := _) (by rfl)) rfl ?_
  refine AWl.put (R_boxz rfl rfl rfl (.tmp rfl fun _ => rfl) (ts := _) (by rfl)) rfl ?_
  refine AWl.add (R_alloc 6 rfl rfl rfl in38 rfl rfl rfl) rfl ?_
  refine AWl.put (R_assign rfl (.no rfl) rfl (.const rfl)) rfl ?_
  refine AWl.nil ?_
  refine AW.seq ?_
  refine AW.region ?_
  refine AWl.put ((by exact R_load rfl (.no rfl) rfl (.tmp rfl fun _ => rfl) ty43 rfl rfl)) rfl ?_
  refine AWl.put ((by exact R_load rfl (.no rfl) rfl (.tmp rfl fun _ => rfl) ty46 rfl rfl)) rfl ?_
  refine AWl.put (R_callz (FnT.fr (implInsertEdge g e (by omega) hz2)) rfl (.no rfl) rfl (.cons (.tmp rfl fun _ => rfl) rfl (.cons (.tmp rfl fun _ => rfl) rfl .nil))) rfl ?_
  refine AWl.put (R_movet rfl (.no rfl) rfl rfl fun _ => rfl) rfl ?_
  refine AWl.put (R_extract rfl (.no rfl) rfl rfl (fun _ => rfl) rfl) rfl ?_
  refine AWl.put (R_extract rfl (.no rfl) rfl rfl (fun _ => rfl) rfl) rfl ?_
  refine AWl.add (R_alloc 8 rfl rfl rfl in43 rfl rfl rfl) rfl ?_
  refine AWl.chgb (R_store_pb rfl rfl rfl (.tmp rfl fun _ => rfl) (.tmp rfl fun _ => rfl) rfl ty43 rfl rfl rfl (by kernel_rfl) rfl) ?_
  refine AWl.le (σ' := ⟨_, [(0, _), (1, _), (2, _), (3, _), (4, _), (5, _), (6, _), (7, _), (8, _), (15, _)], [(6, _), (8, _)]⟩) (Le.sub0 rfl ⟨rfl, rfl, rfl, rfl, rfl, rfl, rfl, rfl, rfl, rfl, trivial⟩ ⟨rfl, rfl, trivial⟩) ?_
  refine AWl.put (R_assign rfl (.no rfl) rfl (.tmp rfl fun _ => rfl)) rfl ?_
  refine AWl.nil ?_
  refine AW.seq ?_
  refine AW.region ?_
  refine AWl.put ((by exact R_load rfl (.no rfl) rfl (.tmp rfl fun _ => rfl) ty43 rfl rfl)) rfl ?_
  refine AWl.put ((by exact R_load rfl (.no rfl) rfl (.tmp rfl fun _ => rfl) ty38 rfl rfl)) rfl ?_
  refine AWl.put ((by exact R_load_pp rfl (.no rfl) rfl (.tmp rfl fun _ => rfl) rfl ty43 rfl rfl)) rfl ?_
  refine AWl.put (R_move rfl (.no rfl) rfl (.tmp rfl fun _ => rfl)) rfl ?_
  refine AWl.adds (R_call 2000 (implviewOf g v (insG g e).1 (insG g e).2 hz (fun h1 h2 => good_del (validV_parts h2) (insG_valid h1).1 (insG_valid h1).2.1)) rfl rfl rfl (.cons (.tmp rfl fun _ => rfl) rfl (.cons (.tmp rfl fun _ => rfl) rfl (.cons (.tmp rfl fun _ => rfl) rfl (.cons (.tmp rfl fun _ => rfl) rfl .nil)))) rfl rfl) rfl ?_
  refine AWl.put (R_extract rfl (.no rfl) rfl rfl (fun _ => rfl) rfl) rfl ?_
  refine AWl.put (R_extract rfl (.no rfl) rfl rfl (fun _ => rfl) rfl) rfl ?_
  refine AWl.chgb (R_store_pb rfl rfl rfl (.tmp rfl fun _ => rfl) (.tmp rfl fun _ => rfl) rfl ty38 rfl rfl rfl (by kernel_rfl) rfl) ?_
  refine AWl.le (σ' := ⟨_, [(0, _), (1, _), (2, _), (3, _), (4, _), (5, _), (6, _), (7, _), (8, _), (9, _), (22, _)], [(6, _), (8, _), (2000, _), (2001, _), (2002, _), (2003, _)]⟩) (Le.sub0 rfl ⟨rfl, rfl, rfl, rfl, rfl, rfl, rfl, rfl, rfl, rfl, rfl, trivial⟩ ⟨rfl, rfl, rfl, rfl, rfl, rfl, trivial⟩) ?_
  refine AWl.put (R_assign rfl (.no rfl) rfl (.tmp rfl fun _ => rfl)) rfl ?_
  refine AWl.nil ?_
  refine AW.ret ?_
  refine Res.many rfl (.cell rfl rfl ty38 rfl rfl (.tmp rfl .nil)) rfl ?_ (by simp)
  rfl
theorem specViewAfterInsert (g : TGraph) (v : TView) (e : TEdge) (hz1 : g.Values.length ≤ 1048576) (hz2 : g.Edges.length ≤ 1048576) (hz : okView v) : FnT Tryz.prog 9 [.agg (cGraph g), .agg (cView v), .agg (cEdge e)] (.tup [.agg (cView (viewAft g v (insG g e)).1), .one (.v (.bool (viewAft g v (insG g e)).2))]) := by
  refine FnT.walk Tryz.func9 rfl (by kernel_rfl) Tryz.ntmps9 rfl fun hlen w0 => ?_
  try simp [cPair, cToken, cExpr, cEdge, cGraph, cStep, cWalk, cChange, cBatch, cHistory, cPositions, cAutomaton, cProductStep, cPathAtom, cConjunction, cView, cDelta, cRegistered, cRegistry] at hlen
  skip
  refine AW.seq ?_
  refine AW.region ?_
  refine AWl.put (R_boxz rfl rfl rfl (.tmp rfl fun _ => rfl) (ts := _) (by rfl)) rfl ?_
  refine AWl.put (R_boxz rfl rfl rfl (.tmp rfl fun _ => rfl) (ts := _) (by rfl)) rfl ?_
  refine AWl.put (R_boxz rfl rfl rfl (.tmp rfl fun _ => rfl) (ts := _) (by rfl)) rfl ?_
  refine AWl.add (R_alloc 6 rfl rfl rfl in38 rfl rfl rfl) rfl ?_
  refine AWl.put (R_assign rfl (.no rfl) rfl (.const rfl)) rfl ?_
  refine AWl.nil ?_
  refine AW.seq ?_
  refine AW.region ?_
  refine AWl.put ((by exact R_load rfl (.no rfl) rfl (.tmp rfl fun _ => rfl) ty43 rfl rfl)) rfl ?_
  refine AWl.put ((by exact R_load rfl (.no rfl) rfl (.tmp rfl fun _ => rfl) ty46 rfl rfl)) rfl ?_
  refine AWl.put (R_callz (FnT.fr (specInsertEdge g e (by omega) hz2)) rfl (.no rfl) rfl (.cons (.tmp rfl fun _ => rfl) rfl (.cons (.tmp rfl fun _ => rfl) rfl .nil))) rfl ?_
  refine AWl.put (R_movet rfl (.no rfl) rfl rfl fun _ => rfl) rfl ?_
  refine AWl.put (R_extract rfl (.no rfl) rfl rfl (fun _ => rfl) rfl) rfl ?_
  refine AWl.put (R_extract rfl (.no rfl) rfl rfl (fun _ => rfl) rfl) rfl ?_
  refine AWl.add (R_alloc 8 rfl rfl rfl in43 rfl rfl rfl) rfl ?_
  refine AWl.chgb (R_store_pb rfl rfl rfl (.tmp rfl fun _ => rfl) (.tmp rfl fun _ => rfl) rfl ty43 rfl rfl rfl (by kernel_rfl) rfl) ?_
  refine AWl.le (σ' := ⟨_, [(0, _), (1, _), (2, _), (3, _), (4, _), (5, _), (6, _), (7, _), (8, _), (15, _)], [(6, _), (8, _)]⟩) (Le.sub0 rfl ⟨rfl, rfl, rfl, rfl, rfl, rfl, rfl, rfl, rfl, rfl, trivial⟩ ⟨rfl, rfl, trivial⟩) ?_
  refine AWl.put (R_assign rfl (.no rfl) rfl (.tmp rfl fun _ => rfl)) rfl ?_
  refine AWl.nil ?_
  refine AW.seq ?_
  refine AW.seq ?_
  refine AW.region ?_
  refine AWl.put (R_move rfl (.no rfl) rfl (.tmp rfl fun _ => rfl)) rfl ?_
  refine AWl.put (R_not rfl (.no rfl) rfl (.tmp rfl fun _ => rfl)) rfl ?_
  refine AWl.put (R_move rfl (.no rfl) rfl (.tmp rfl fun _ => rfl)) rfl ?_
  refine AWl.put ((by exact R_load rfl (by exact .not1 rfl rfl rfl rfl) rfl (.tmp rfl (by exact fun _ => rfl)) ty43 rfl rfl)) rfl ?_
  refine AWl.put ((by exact R_load rfl (by exact .not1 rfl rfl rfl rfl) rfl (.tmp rfl (by exact fun _ => rfl)) ty38 rfl rfl)) rfl ?_
  refine AWl.put (R_callz (FnT.fr (specIsValidView g v)) rfl (by exact .not1 rfl rfl rfl rfl) rfl (.cons (.tmp rfl (by exact id)) rfl (.cons (.tmp rfl (by exact id)) rfl .nil))) rfl ?_
  refine AWl.put (R_not rfl (by exact .not1 rfl rfl rfl rfl) rfl (.tmp rfl (by exact id))) rfl ?_
  refine AWl.put (R_or rfl (.no rfl) rfl (.tmp rfl fun _ => rfl) (.tmp rfl (by exact id))) rfl ?_
  refine AWl.nil ?_
  refine AW.cond (.tmp rfl fun _ => rfl) (fun h23 => ?_) (fun h23 => ?_)
  · skip
    skip
    have hc : ((insG g e).2 && validV g v) = false := by (have h23' : (!(insG g e).2 || !validV g v) = true := by simpa [validV] using h23); (cases hk0 : (insG g e).2 <;> cases hk1 : validV g v <;> simp_all)
    refine AW.seq ?_
    refine AW.le (σ' := ⟨_, [(0, _), (1, _), (2, _), (3, _), (4, _), (5, _), (6, _), (7, _), (8, _), (9, _)], [(6, _), (8, _)]⟩) (Le.sub0 rfl ⟨rfl, rfl, rfl, rfl, rfl, rfl, rfl, rfl, rfl, rfl, trivial⟩ ⟨rfl, rfl, trivial⟩) ?_
    refine AW.region ?_
    refine AWl.put ((by exact R_load rfl (.no rfl) rfl (.tmp rfl fun _ => rfl) ty38 rfl rfl)) rfl ?_
    refine AWl.adds (R_call 2500 (specl27Copy v hz) rfl rfl rfl (.cons (.tmp rfl fun _ => rfl) rfl .nil) rfl rfl) rfl ?_
    refine AWl.chgb (R_store_pb rfl rfl rfl (.tmp rfl fun _ => rfl) (.tmp rfl fun _ => rfl) rfl ty38 rfl rfl rfl (by kernel_rfl) rfl) ?_
    refine AWl.le (σ' := ⟨_, [(0, _), (1, _), (2, _), (3, _), (4, _), (5, _), (6, _), (7, _), (8, _), (9, _)], [(6, _), (8, _), (2500, _), (2501, _), (2502, _), (2503, _)]⟩) (Le.sub0 rfl ⟨rfl, rfl, rfl, rfl, rfl, rfl, rfl, rfl, rfl, rfl, trivial⟩ ⟨rfl, rfl, rfl, rfl, rfl, rfl, trivial⟩) ?_
    refine AWl.put (R_assign rfl (.no rfl) rfl (.const rfl)) rfl ?_
    refine AWl.nil ?_
    refine AW.ret ?_
    refine Res.many rfl (.cell rfl rfl ty38 rfl rfl (.tmp rfl .nil)) rfl ?_ (by simp)
    unfold viewAft; rw [hc]; rfl
  · skip
    skip
    have hc : (insG g e).2 = true ∧ validV g v = true := by (have h23' : (!(insG g e).2 || !validV g v) = false := by simpa [validV] using h23); (cases hk0 : (insG g e).2 <;> cases hk1 : validV g v <;> simp_all)
    have hD := insG_valid hc.1
    have hgd := good_del (validV_parts hc.2) hD.1 hD.2.1
    obtain ⟨hhg, hha, hhx⟩ := good_parts hgd
    refine AW.skip ?_
    refine AW.seq ?_
    refine AW.le (σ' := ⟨_, [(0, _), (1, _), (2, _), (3, _), (4, _), (5, _), (6, _), (7, _), (8, _), (9, _)], [(6, _), (8, _)]⟩) (Le.sub0 rfl ⟨rfl, rfl, rfl, rfl, rfl, rfl, rfl, rfl, rfl, rfl, trivial⟩ ⟨rfl, rfl, trivial⟩) ?_
    refine AW.region ?_
    refine AWl.put ((by exact R_load_pp rfl (.no rfl) rfl (.tmp rfl fun _ => rfl) rfl ty43 rfl rfl)) rfl ?_
    refine AWl.put ((by exact R_fieldAddr rfl (.no rfl) rfl (.tmp rfl fun _ => rfl) fl38_0)) rfl ?_
    refine AWl.put ((by exact R_load rfl (.no rfl) rfl (.tmp rfl fun _ => rfl) ty36 rfl rfl)) rfl ?_
    refine AWl.put ((by exact R_fieldAddr rfl (.no rfl) rfl (.tmp rfl fun _ => rfl) fl38_1)) rfl ?_
    refine AWl.put ((by exact R_load rfl (.no rfl) rfl (.tmp rfl fun _ => rfl) ty3 rfl rfl)) rfl ?_
    refine AWl.adds (R_call 3100 (specl27Build (insG g e).1 v.Automaton hha hhg v.Source hhx) rfl rfl rfl (.cons (.tmp rfl fun _ => rfl) rfl (.cons (.tmp rfl fun _ => rfl) rfl (.cons (.tmp rfl fun _ => rfl) rfl .nil))) rfl rfl) rfl ?_
    refine AWl.chgb (R_store_pb rfl rfl rfl (.tmp rfl fun _ => rfl) (.tmp rfl fun _ => rfl) rfl ty38 rfl rfl rfl (by kernel_rfl) rfl) ?_
    refine AWl.le (σ' := ⟨_, [(0, _), (1, _), (2, _), (3, _), (4, _), (5, _), (6, _), (7, _), (8, _), (9, _)], [(6, _), (8, _), (3100, _), (3101, _), (3102, _), (3103, _)]⟩) (Le.sub0 rfl ⟨rfl, rfl, rfl, rfl, rfl, rfl, rfl, rfl, rfl, rfl, trivial⟩ ⟨rfl, rfl, rfl, rfl, rfl, rfl, trivial⟩) ?_
    refine AWl.put (R_assign rfl (.no rfl) rfl (.const rfl)) rfl ?_
    refine AWl.nil ?_
    refine AW.ret ?_
    refine Res.many rfl (.cell rfl rfl ty38 rfl rfl (.tmp rfl .nil)) rfl ?_ (by simp)
    unfold viewAft; rw [if_pos (show ((insG g e).2 && validV g v) = true by rw [hc.1, hc.2]; rfl)]; rfl
end Go.Proofs.YtoealglkenhphaaGreat
