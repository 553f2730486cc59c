/- The vertices that lose their rank with an edge: both texts. -/
import Derived.Test.YtocnceglpkobaaaB39z
set_option linter.unusedVariables false
set_option linter.unusedSimpArgs false
set_option maxHeartbeats 1000000
set_option maxRecDepth 100000
namespace Go.Q
open Go.D
end Go.Q
namespace Go.Proofs.Ytocnceglpkobaaa
open Go.RowKit Go.Q Go.D
theorem implcopyView (v : TView) (hz : okView v) : FnT Try.prog 160 [.agg (cView v)] (.a (.agg (cView v))) := by
  refine FnT.walk Try.func160 rfl (by kernel_rfl) Try.ntmps160 rfl fun hlen w0 => ?_
  try simp [cPair, cToken, cExpr, cEdge, cGraph, cStep, cWalk, cChange, cBatch, cHistory, cPositions, cAutomaton, cProductStep, cPathAtom, cConjunction, cView, cDelta, cRegistered, cRegistry] at hlen
  have hz2 : v.Ranks.length ≤ 1048576 := hz.2.1
  have hz3 : v.Supports.length ≤ 1048576 := hz.2.2.1
  refine AW.seq ?_
  refine AW.region ?_
  refine AWl.put (R_boxz rfl rfl rfl (.tmp rfl fun _ => rfl) (ts := _) (by rfl)) rfl ?_
  refine AWl.add (R_alloc 2 rfl rfl rfl in58 rfl rfl rfl) rfl ?_
  refine AWl.nil ?_
  refine AW.seq ?_
  refine AW.drawn 12 (nthB [[], [0], [0, 1], [], [3], [], [5], [0, 1, 2, 5, 6], [], [8], [0, 1, 2, 5, 6, 7, 8, 9], [0, 1, 2, 3, 4, 5, 6, 7, 8, 9, 10]]) (by kernel_rfl) (by kernel_rfl) (by kernel_rfl) ?_
  refine DrawC.step rfl rfl rfl (Loc.of rfl fun σ' hs => (by exact R_fieldAddr rfl (.no rfl) (hd_sup hs rfl) (.tmp (hs.slots _ _ rfl) fun _ => rfl) fl58_0)) ?_
  refine DrawC.step rfl rfl rfl (Loc.of rfl fun σ' hs => (by exact R_load rfl (.no rfl) (hd_sup hs rfl) (.tmp (hs.slots _ _ rfl) fun _ => rfl) ty37 rfl rfl)) ?_
  refine DrawC.step rfl rfl rfl (Loc.ofs rfl fun σ' hs hf => R_call 500 (implcopyAutomatonZ v.Automaton hz.1) rfl rfl (hd_sup hs rfl) (.cons (.tmp (hs.slots _ _ rfl) fun _ => rfl) (readA_sup hs rfl) .nil) rfl (all_fresh hf)) ?_
  refine DrawC.step rfl rfl rfl (Loc.of rfl fun σ' hs => (by exact R_fieldAddr rfl (.no rfl) (hd_sup hs rfl) (.tmp (hs.slots _ _ rfl) fun _ => rfl) fl58_1)) ?_
  refine DrawC.step rfl rfl rfl (Loc.of rfl fun σ' hs => (by exact R_load rfl (.no rfl) (hd_sup hs rfl) (.tmp (hs.slots _ _ rfl) fun _ => rfl) ty3 rfl rfl)) ?_
  refine DrawC.step rfl rfl rfl (Loc.of rfl fun σ' hs => (by exact R_fieldAddr rfl (.no rfl) (hd_sup hs rfl) (.tmp (hs.slots _ _ rfl) fun _ => rfl) fl58_2)) ?_
  refine DrawC.step rfl rfl rfl (Loc.of rfl fun σ' hs => (by exact R_load rfl (.no rfl) (hd_sup hs rfl) (.tmp (hs.slots _ _ rfl) fun _ => rfl) ty22 rfl rfl)) ?_
  refine DrawC.step rfl rfl rfl (Loc.ofs rfl fun σ' hs hf => R_call 1000 (implcopyInts v.Ranks (by omega)) rfl rfl (hd_sup hs rfl) (.cons (.tmp (hs.slots _ _ rfl) fun _ => rfl) (readA_sup hs rfl) .nil) rfl (all_fresh hf)) ?_
  refine DrawC.step rfl rfl rfl (Loc.of rfl fun σ' hs => (by exact R_fieldAddr rfl (.no rfl) (hd_sup hs rfl) (.tmp (hs.slots _ _ rfl) fun _ => rfl) fl58_3)) ?_
  refine DrawC.step rfl rfl rfl (Loc.of rfl fun σ' hs => (by exact R_load rfl (.no rfl) (hd_sup hs rfl) (.tmp (hs.slots _ _ rfl) fun _ => rfl) ty22 rfl rfl)) ?_
  refine DrawC.step rfl rfl rfl (Loc.ofs rfl fun σ' hs hf => R_call 1300 (implcopyInts v.Supports (by omega)) rfl rfl (hd_sup hs rfl) (.cons (.tmp (hs.slots _ _ rfl) fun _ => rfl) (readA_sup hs rfl) .nil) rfl (all_fresh hf)) ?_
  refine DrawC.step rfl rfl rfl (Loc.of rfl fun σ' hs => R_build (ps := [(0, .tmp 5), (1, .tmp 7), (2, .tmp 10), (3, .tmp 13)]) rfl rfl (hd_sup hs rfl) in58 rfl rfl st58 (.cons (.tmp (hs.slots _ _ rfl) fun _ => rfl) rfl rfl fp58_0 (.cons (.tmp (hs.slots _ _ rfl) fun _ => rfl) rfl rfl fp58_1 (.cons (.tmp (hs.slots _ _ rfl) fun _ => rfl) rfl rfl fp58_2 (.cons (.tmp (hs.slots _ _ rfl) fun _ => rfl) rfl rfl fp58_3 .nil)))) rfl) ?_
  refine DrawC.fin rfl rfl ?_
  refine AWl.chgb (R_store_pb rfl rfl rfl (.tmp rfl fun _ => rfl) (.tmp rfl fun _ => rfl) rfl ty58 rfl rfl rfl (by kernel_rfl) rfl) ?_
  refine AWl.nil ?_
  refine AW.ret ?_
  refine Res.one rfl (.cell rfl rfl ty58 rfl rfl .nil) rfl ?_
  rfl
theorem implviewOf (g : TGraph) (v : TView) (h : TGraph) (ok : Bool) (hz : okView v) (hok : ok = true → validV g v = true → goodB h v.Automaton v.Source 0 = true) : FnT Try.prog 111 [.agg (cGraph g), .agg (cView v), .agg (cGraph h), .one (.v (.bool ok))] (.tup [.agg (cView (viewAft g v (h, ok)).1), .one (.v (.bool (viewAft g v (h, ok)).2))]) := by
  refine FnT.walk Try.func111 rfl (by kernel_rfl) Try.ntmps111 rfl fun hlen w0 => ?_
  try simp [cPair, cToken, cExpr, cEdge, cGraph, cStep, cWalk, cChange, cBatch, cHistory, cPositions, cAutomaton, cProductStep, cPathAtom, cConjunction, cView, cDelta, cRegistered, cRegistry] at hlen
  skip
  refine AW.seq ?_
  refine AW.region ?_
  refine AWl.put (R_boxz rfl rfl rfl (.tmp rfl fun _ => rfl) (ts := _) (by rfl)) rfl ?_
  refine AWl.put (R_boxz rfl rfl rfl (.tmp rfl fun _ => rfl) (ts := _) (by rfl)) rfl ?_
  refine AWl.put (R_boxz rfl rfl rfl (.tmp rfl fun _ => rfl) (ts := _) (by rfl)) rfl ?_
  refine AWl.add (R_alloc 8 rfl rfl rfl in58 rfl rfl rfl) rfl ?_
  refine AWl.put (R_assign rfl (.no rfl) rfl (.const rfl)) rfl ?_
  refine AWl.nil ?_
  refine AW.seq ?_
  refine AW.seq ?_
  refine AW.region ?_
  refine AWl.put (R_move rfl (.no rfl) rfl (.tmp rfl fun _ => rfl)) rfl ?_
  refine AWl.put (R_not rfl (.no rfl) rfl (.tmp rfl fun _ => rfl)) rfl ?_
  refine AWl.put (R_move rfl (.no rfl) rfl (.tmp rfl fun _ => rfl)) rfl ?_
  refine AWl.put ((by exact R_load rfl (by exact .not1 rfl rfl rfl rfl) rfl (.tmp rfl (by exact fun _ => rfl)) ty35 rfl rfl)) rfl ?_
  refine AWl.put ((by exact R_load rfl (by exact .not1 rfl rfl rfl rfl) rfl (.tmp rfl (by exact fun _ => rfl)) ty58 rfl rfl)) rfl ?_
  refine AWl.put (R_callz (FnT.fr (implIsValidView g v)) rfl (by exact .not1 rfl rfl rfl rfl) rfl (.cons (.tmp rfl (by exact id)) rfl (.cons (.tmp rfl (by exact id)) rfl .nil))) rfl ?_
  refine AWl.put (R_not rfl (by exact .not1 rfl rfl rfl rfl) rfl (.tmp rfl (by exact id))) rfl ?_
  refine AWl.put (R_or rfl (.no rfl) rfl (.tmp rfl fun _ => rfl) (.tmp rfl (by exact id))) rfl ?_
  refine AWl.nil ?_
  refine AW.cond (.tmp rfl fun _ => rfl) (fun h17 => ?_) (fun h17 => ?_)
  · skip
    skip
    have hc : (ok && validV g v) = false := by (have h17' : (!ok || !validV g v) = true := by simpa [validV] using h17); (cases hk0 : ok <;> cases hk1 : validV g v <;> simp_all)
    refine AW.seq ?_
    refine AW.le (σ' := ⟨_, [(0, _), (1, _), (2, _), (3, _), (4, _), (5, _), (6, _), (8, _), (9, _)], [(8, _)]⟩) (Le.sub0 rfl ⟨rfl, rfl, rfl, rfl, rfl, rfl, rfl, rfl, rfl, trivial⟩ ⟨rfl, trivial⟩) ?_
    refine AW.region ?_
    refine AWl.put ((by exact R_load rfl (.no rfl) rfl (.tmp rfl fun _ => rfl) ty58 rfl rfl)) rfl ?_
    refine AWl.adds (R_call 1900 (implcopyView v hz) rfl rfl rfl (.cons (.tmp rfl fun _ => rfl) rfl .nil) rfl rfl) rfl ?_
    refine AWl.chgb (R_store_pb rfl rfl rfl (.tmp rfl fun _ => rfl) (.tmp rfl fun _ => rfl) rfl ty58 rfl rfl rfl (by kernel_rfl) rfl) ?_
    refine AWl.le (σ' := ⟨_, [(0, _), (1, _), (2, _), (3, _), (4, _), (5, _), (6, _), (8, _), (9, _)], [(8, _), (1900, _), (1901, _), (1902, _), (1903, _)]⟩) (Le.sub0 rfl ⟨rfl, rfl, rfl, rfl, rfl, rfl, rfl, rfl, rfl, trivial⟩ ⟨rfl, rfl, rfl, rfl, rfl, trivial⟩) ?_
    refine AWl.put (R_assign rfl (.no rfl) rfl (.const rfl)) rfl ?_
    refine AWl.nil ?_
    refine AW.ret ?_
    refine Res.many rfl (.cell rfl rfl ty58 rfl rfl (.tmp rfl .nil)) rfl ?_ (by simp)
    unfold viewAft; rw [hc]; rfl
  · skip
    skip
    have hc : (ok && validV g v) = true := by (have h17' : (!ok || !validV g v) = false := by simpa [validV] using h17); (cases hk0 : ok <;> cases hk1 : validV g v <;> simp_all)
    refine AW.skip ?_
    refine AW.seq ?_
    refine AW.le (σ' := ⟨_, [(0, _), (1, _), (2, _), (3, _), (4, _), (5, _), (6, _), (8, _), (9, _)], [(8, _)]⟩) (Le.sub0 rfl ⟨rfl, rfl, rfl, rfl, rfl, rfl, rfl, rfl, rfl, trivial⟩ ⟨rfl, trivial⟩) ?_
    refine AW.region ?_
    refine AWl.put ((by exact R_load rfl (.no rfl) rfl (.tmp rfl fun _ => rfl) ty35 rfl rfl)) rfl ?_
    refine AWl.put ((by exact R_fieldAddr rfl (.no rfl) rfl (.tmp rfl fun _ => rfl) fl58_0)) rfl ?_
    refine AWl.put ((by exact R_load rfl (.no rfl) rfl (.tmp rfl fun _ => rfl) ty37 rfl rfl)) rfl ?_
    refine AWl.put ((by exact R_fieldAddr rfl (.no rfl) rfl (.tmp rfl fun _ => rfl) fl58_1)) rfl ?_
    refine AWl.put ((by exact R_load rfl (.no rfl) rfl (.tmp rfl fun _ => rfl) ty3 rfl rfl)) rfl ?_
    refine AWl.adds (R_call 2500 (implBuildView h v.Automaton v.Source) rfl rfl rfl (.cons (.tmp rfl fun _ => rfl) rfl (.cons (.tmp rfl fun _ => rfl) rfl (.cons (.tmp rfl fun _ => rfl) rfl .nil))) rfl rfl) rfl ?_
    refine AWl.put (R_extract rfl (.no rfl) rfl rfl (fun _ => rfl) rfl) rfl ?_
    refine AWl.put (R_extract rfl (.no rfl) rfl rfl (fun _ => rfl) rfl) rfl ?_
    refine AWl.chgb (R_store_pb rfl rfl rfl (.tmp rfl fun _ => rfl) (.tmp rfl fun _ => rfl) rfl ty58 rfl rfl rfl (by kernel_rfl) rfl) ?_
    refine AWl.le (σ' := ⟨_, [(0, _), (1, _), (2, _), (3, _), (4, _), (5, _), (6, _), (8, _), (9, _), (27, _)], [(8, _), (2500, _), (2501, _), (2502, _), (2503, _)]⟩) (Le.sub0 rfl ⟨rfl, rfl, rfl, rfl, rfl, rfl, rfl, rfl, rfl, rfl, trivial⟩ ⟨rfl, rfl, rfl, rfl, rfl, trivial⟩) ?_
    refine AWl.put (R_assign rfl (.no rfl) rfl (.tmp rfl fun _ => rfl)) rfl ?_
    refine AWl.nil ?_
    refine AW.ret ?_
    refine Res.many rfl (.cell rfl rfl ty58 rfl rfl (.tmp rfl .nil)) rfl ?_ (by simp)
    unfold viewAft buildV; rw [hc, if_pos (hok (by simp at hc; exact hc.1) (by simp at hc; exact hc.2))]; rfl
theorem implViewAfterDelete (g : TGraph) (v : TView) (id : Int) (hz : okView v) (hz1 : g.Values.length ≤ 1073741824) (hz2 : g.Edges.length ≤ 1073741824) : FnT Try.prog 59 [.agg (cGraph g), .agg (cView v), .one (.v (.int .i64 id))] (.tup [.agg (cView (viewAft g v (delG g id)).1), .one (.v (.bool (viewAft g v (delG g id)).2))]) := by
  refine FnT.walk Try.func59 rfl (by kernel_rfl) Try.ntmps59 rfl fun hlen w0 => ?_
  try simp [cPair, cToken, cExpr, cEdge, cGraph, cStep, cWalk, cChange, cBatch, cHistory, cPositions, cAutomaton, cProductStep, cPathAtom, cConjunction, cView, cDelta, cRegistered, cRegistry] at hlen
  skip
  refine AW.seq ?_
  refine AW.region ?_
  refine AWl.put (R_boxz rfl rfl rfl (.tmp rfl fun _ => rfl) (ts := _) (by rfl)) rfl ?_
  refine AWl.put (R_boxz rfl rfl rfl (.tmp rfl fun _ => rfl) (ts := _) (by rfl)) rfl ?_
  refine AWl.add (R_alloc 6 rfl rfl rfl in58 rfl rfl rfl) rfl ?_
  refine AWl.put (R_assign rfl (.no rfl) rfl (.const rfl)) rfl ?_
  refine AWl.nil ?_
  refine AW.seq ?_
  refine AW.region ?_
  refine AWl.put ((by exact R_load rfl (.no rfl) rfl (.tmp rfl fun _ => rfl) ty35 rfl rfl)) rfl ?_
  refine AWl.put (R_move rfl (.no rfl) rfl (.tmp rfl fun _ => rfl)) rfl ?_
  refine AWl.put (R_callz (FnT.fr (implDeleteEdge g id hz1 hz2)) rfl (.no rfl) rfl (.cons (.tmp rfl fun _ => rfl) rfl (.cons (.tmp rfl fun _ => rfl) rfl .nil))) rfl ?_
  refine AWl.put (R_movet rfl (.no rfl) rfl rfl fun _ => rfl) rfl ?_
  refine AWl.put (R_extract rfl (.no rfl) rfl rfl (fun _ => rfl) rfl) rfl ?_
  refine AWl.put (R_extract rfl (.no rfl) rfl rfl (fun _ => rfl) rfl) rfl ?_
  refine AWl.add (R_alloc 8 rfl rfl rfl in35 rfl rfl rfl) rfl ?_
  refine AWl.chgb (R_store_pb rfl rfl rfl (.tmp rfl fun _ => rfl) (.tmp rfl fun _ => rfl) rfl ty35 rfl rfl rfl (by kernel_rfl) rfl) ?_
  refine AWl.le (σ' := ⟨_, [(0, _), (1, _), (2, _), (3, _), (4, _), (6, _), (7, _), (8, _), (15, _)], [(6, _), (8, _)]⟩) (Le.sub0 rfl ⟨rfl, rfl, rfl, rfl, rfl, rfl, rfl, rfl, rfl, trivial⟩ ⟨rfl, rfl, trivial⟩) ?_
  refine AWl.put (R_assign rfl (.no rfl) rfl (.tmp rfl fun _ => rfl)) rfl ?_
  refine AWl.nil ?_
  refine AW.seq ?_
  refine AW.region ?_
  refine AWl.put ((by exact R_load rfl (.no rfl) rfl (.tmp rfl fun _ => rfl) ty35 rfl rfl)) rfl ?_
  refine AWl.put ((by exact R_load rfl (.no rfl) rfl (.tmp rfl fun _ => rfl) ty58 rfl rfl)) rfl ?_
  refine AWl.put ((by exact R_load_pp rfl (.no rfl) rfl (.tmp rfl fun _ => rfl) rfl ty35 rfl rfl)) rfl ?_
  refine AWl.put (R_move rfl (.no rfl) rfl (.tmp rfl fun _ => rfl)) rfl ?_
  refine AWl.adds (R_call 2000 (implviewOf g v (delG g id).1 (delG g id).2 hz (fun h1 h2 => good_del (validV_parts h2) (delG_valid h1).1 (delG_valid h1).2.1)) rfl rfl rfl (.cons (.tmp rfl fun _ => rfl) rfl (.cons (.tmp rfl fun _ => rfl) rfl (.cons (.tmp rfl fun _ => rfl) rfl (.cons (.tmp rfl fun _ => rfl) rfl .nil)))) rfl rfl) rfl ?_
  refine AWl.put (R_extract rfl (.no rfl) rfl rfl (fun _ => rfl) rfl) rfl ?_
  refine AWl.put (R_extract rfl (.no rfl) rfl rfl (fun _ => rfl) rfl) rfl ?_
  refine AWl.chgb (R_store_pb rfl rfl rfl (.tmp rfl fun _ => rfl) (.tmp rfl fun _ => rfl) rfl ty58 rfl rfl rfl (by kernel_rfl) rfl) ?_
  refine AWl.le (σ' := ⟨_, [(0, _), (1, _), (2, _), (3, _), (4, _), (6, _), (7, _), (8, _), (9, _), (22, _)], [(6, _), (8, _), (2000, _), (2001, _), (2002, _), (2003, _)]⟩) (Le.sub0 rfl ⟨rfl, rfl, rfl, rfl, rfl, rfl, rfl, rfl, rfl, rfl, trivial⟩ ⟨rfl, rfl, rfl, rfl, rfl, rfl, trivial⟩) ?_
  refine AWl.put (R_assign rfl (.no rfl) rfl (.tmp rfl fun _ => rfl)) rfl ?_
  refine AWl.nil ?_
  refine AW.ret ?_
  refine Res.many rfl (.cell rfl rfl ty58 rfl rfl (.tmp rfl .nil)) rfl ?_ (by simp)
  rfl
end Go.Proofs.Ytocnceglpkobaaa
