/- The helpers of the laws: copies, comparisons, sizes. -/
import Derived.Test.YtoealglkenhphaaDoorHAxb
set_option linter.unusedVariables false
set_option linter.unusedSimpArgs false
namespace Go.Proofs.YtoealglkenhphaaDoor
open Go.RowKit Go.Q Go.D
set_option maxRecDepth 100000 in
theorem HeqEdge (x : TEdge) : FnT Tryd.prog 56 [.agg (cEdge x), .agg (cEdge x)] (.a (.one (.v (.bool true)))) := by
  refine FnT.walk Tryd.func56 rfl (by kernel_rfl) Tryd.ntmps56 rfl fun hlen w0 => ?_
  try simp [cPair, cToken, cExpr, cEdge, cGraph, cStep, cWalk, cChange, cBatch, cHistory, cPositions, cAutomaton, cProductStep, cPathAtom, cConjunction, cView, cDelta, cRegistered, cRegistry] at hlen
  refine AW.seq ?_
  refine AW.region ?_
  refine AWl.put (R_boxz rfl rfl rfl (.tmp rfl fun _ => rfl) (ts := _) (by first | rfl | exact cells_t1 _ | exact cells_t2 _)) rfl ?_
  refine AWl.put (R_boxz rfl rfl rfl (.tmp rfl fun _ => rfl) (ts := _) (by first | rfl | exact cells_t1 _ | exact cells_t2 _)) rfl ?_
  refine AWl.put (R_assign rfl (.no rfl) rfl (.const rfl)) rfl ?_
  refine AWl.nil ?_
  refine AW.seq ?_
  refine AW.seq ?_
  refine AW.region ?_
  refine AWl.put ((by first | exact R_fieldAddr rfl (.no rfl) rfl (.tmp rfl fun _ => rfl) fl51_0 | exact R_fieldAddr_pp rfl (.no rfl) rfl (.tmp rfl fun _ => rfl) fl51_0 | exact R_fieldAddr_vw rfl (.no rfl) rfl (.tmp rfl fun _ => rfl) fl51_0 | exact R_fieldAddr_pr rfl (.no rfl) rfl (.tmp rfl fun _ => rfl) fl51_0)) rfl ?_
  refine AWl.put ((by first | exact R_load rfl (.no rfl) rfl (.tmp rfl fun _ => rfl) ty3 rfl rfl | exact R_load_pp rfl (.no rfl) rfl (.tmp rfl fun _ => rfl) rfl ty3 rfl rfl | exact R_load_vw rfl (.no rfl) rfl (.tmp rfl fun _ => rfl) ty3 rfl rfl | exact R_load_pr rfl (.no rfl) rfl (.tmp rfl fun _ => rfl) rfl (by first | assumption | exact map_get (by assumption)) ty3 rfl rfl)) rfl ?_
  refine AWl.put ((by first | exact R_fieldAddr rfl (.no rfl) rfl (.tmp rfl fun _ => rfl) fl51_0 | exact R_fieldAddr_pp rfl (.no rfl) rfl (.tmp rfl fun _ => rfl) fl51_0 | exact R_fieldAddr_vw rfl (.no rfl) rfl (.tmp rfl fun _ => rfl) fl51_0 | exact R_fieldAddr_pr rfl (.no rfl) rfl (.tmp rfl fun _ => rfl) fl51_0)) rfl ?_
  refine AWl.put ((by first | exact R_load rfl (.no rfl) rfl (.tmp rfl fun _ => rfl) ty3 rfl rfl | exact R_load_pp rfl (.no rfl) rfl (.tmp rfl fun _ => rfl) rfl ty3 rfl rfl | exact R_load_vw rfl (.no rfl) rfl (.tmp rfl fun _ => rfl) ty3 rfl rfl | exact R_load_pr rfl (.no rfl) rfl (.tmp rfl fun _ => rfl) rfl (by first | assumption | exact map_get (by assumption)) ty3 rfl rfl)) rfl ?_
  refine AWl.put (R_ne rfl (.no rfl) rfl (.tmp rfl fun _ => rfl) (.tmp rfl fun _ => rfl)) rfl ?_
  refine AWl.nil ?_
  refine AW.cond (.tmp rfl fun _ => rfl) (fun h9 => ?_) (fun h9 => ?_)
  · exact absurd h9 (by simp)
  · skip
    try simp at h9
    refine AW.skip ?_
    refine AW.seq ?_
    refine AW.seq ?_
    refine AW.region ?_
    refine AWl.put ((by first | exact R_fieldAddr rfl (.no rfl) rfl (.tmp rfl fun _ => rfl) fl51_1 | exact R_fieldAddr_pp rfl (.no rfl) rfl (.tmp rfl fun _ => rfl) fl51_1 | exact R_fieldAddr_vw rfl (.no rfl) rfl (.tmp rfl fun _ => rfl) fl51_1 | exact R_fieldAddr_pr rfl (.no rfl) rfl (.tmp rfl fun _ => rfl) fl51_1)) rfl ?_
    refine AWl.put ((by first | exact R_load rfl (.no rfl) rfl (.tmp rfl fun _ => rfl) ty3 rfl rfl | exact R_load_pp rfl (.no rfl) rfl (.tmp rfl fun _ => rfl) rfl ty3 rfl rfl | exact R_load_vw rfl (.no rfl) rfl (.tmp rfl fun _ => rfl) ty3 rfl rfl | exact R_load_pr rfl (.no rfl) rfl (.tmp rfl fun _ => rfl) rfl (by first | assumption | exact map_get (by assumption)) ty3 rfl rfl)) rfl ?_
    refine AWl.put ((by first | exact R_fieldAddr rfl (.no rfl) rfl (.tmp rfl fun _ => rfl) fl51_1 | exact R_fieldAddr_pp rfl (.no rfl) rfl (.tmp rfl fun _ => rfl) fl51_1 | exact R_fieldAddr_vw rfl (.no rfl) rfl (.tmp rfl fun _ => rfl) fl51_1 | exact R_fieldAddr_pr rfl (.no rfl) rfl (.tmp rfl fun _ => rfl) fl51_1)) rfl ?_
    refine AWl.put ((by first | exact R_load rfl (.no rfl) rfl (.tmp rfl fun _ => rfl) ty3 rfl rfl | exact R_load_pp rfl (.no rfl) rfl (.tmp rfl fun _ => rfl) rfl ty3 rfl rfl | exact R_load_vw rfl (.no rfl) rfl (.tmp rfl fun _ => rfl) ty3 rfl rfl | exact R_load_pr rfl (.no rfl) rfl (.tmp rfl fun _ => rfl) rfl (by first | assumption | exact map_get (by assumption)) ty3 rfl rfl)) rfl ?_
    refine AWl.put (R_ne rfl (.no rfl) rfl (.tmp rfl fun _ => rfl) (.tmp rfl fun _ => rfl)) rfl ?_
    refine AWl.nil ?_
    refine AW.cond (.tmp rfl fun _ => rfl) (fun h14 => ?_) (fun h14 => ?_)
    · exact absurd h14 (by simp)
    · skip
      try simp at h14
      refine AW.skip ?_
      refine AW.seq ?_
      refine AW.seq ?_
      refine AW.region ?_
      refine AWl.put ((by first | exact R_fieldAddr rfl (.no rfl) rfl (.tmp rfl fun _ => rfl) fl51_2 | exact R_fieldAddr_pp rfl (.no rfl) rfl (.tmp rfl fun _ => rfl) fl51_2 | exact R_fieldAddr_vw rfl (.no rfl) rfl (.tmp rfl fun _ => rfl) fl51_2 | exact R_fieldAddr_pr rfl (.no rfl) rfl (.tmp rfl fun _ => rfl) fl51_2)) rfl ?_
      refine AWl.put ((by first | exact R_load rfl (.no rfl) rfl (.tmp rfl fun _ => rfl) ty3 rfl rfl | exact R_load_pp rfl (.no rfl) rfl (.tmp rfl fun _ => rfl) rfl ty3 rfl rfl | exact R_load_vw rfl (.no rfl) rfl (.tmp rfl fun _ => rfl) ty3 rfl rfl | exact R_load_pr rfl (.no rfl) rfl (.tmp rfl fun _ => rfl) rfl (by first | assumption | exact map_get (by assumption)) ty3 rfl rfl)) rfl ?_
      refine AWl.put ((by first | exact R_fieldAddr rfl (.no rfl) rfl (.tmp rfl fun _ => rfl) fl51_2 | exact R_fieldAddr_pp rfl (.no rfl) rfl (.tmp rfl fun _ => rfl) fl51_2 | exact R_fieldAddr_vw rfl (.no rfl) rfl (.tmp rfl fun _ => rfl) fl51_2 | exact R_fieldAddr_pr rfl (.no rfl) rfl (.tmp rfl fun _ => rfl) fl51_2)) rfl ?_
      refine AWl.put ((by first | exact R_load rfl (.no rfl) rfl (.tmp rfl fun _ => rfl) ty3 rfl rfl | exact R_load_pp rfl (.no rfl) rfl (.tmp rfl fun _ => rfl) rfl ty3 rfl rfl | exact R_load_vw rfl (.no rfl) rfl (.tmp rfl fun _ => rfl) ty3 rfl rfl | exact R_load_pr rfl (.no rfl) rfl (.tmp rfl fun _ => rfl) rfl (by first | assumption | exact map_get (by assumption)) ty3 rfl rfl)) rfl ?_
      refine AWl.put (R_ne rfl (.no rfl) rfl (.tmp rfl fun _ => rfl) (.tmp rfl fun _ => rfl)) rfl ?_
      refine AWl.nil ?_
      refine AW.cond (.tmp rfl fun _ => rfl) (fun h19 => ?_) (fun h19 => ?_)
      · exact absurd h19 (by simp)
      · skip
        try simp at h19
        refine AW.skip ?_
        refine AW.seq ?_
        refine AW.seq ?_
        refine AW.region ?_
        refine AWl.put ((by first | exact R_fieldAddr rfl (.no rfl) rfl (.tmp rfl fun _ => rfl) fl51_3 | exact R_fieldAddr_pp rfl (.no rfl) rfl (.tmp rfl fun _ => rfl) fl51_3 | exact R_fieldAddr_vw rfl (.no rfl) rfl (.tmp rfl fun _ => rfl) fl51_3 | exact R_fieldAddr_pr rfl (.no rfl) rfl (.tmp rfl fun _ => rfl) fl51_3)) rfl ?_
        refine AWl.put ((by first | exact R_load rfl (.no rfl) rfl (.tmp rfl fun _ => rfl) ty3 rfl rfl | exact R_load_pp rfl (.no rfl) rfl (.tmp rfl fun _ => rfl) rfl ty3 rfl rfl | exact R_load_vw rfl (.no rfl) rfl (.tmp rfl fun _ => rfl) ty3 rfl rfl | exact R_load_pr rfl (.no rfl) rfl (.tmp rfl fun _ => rfl) rfl (by first | assumption | exact map_get (by assumption)) ty3 rfl rfl)) rfl ?_
        refine AWl.put ((by first | exact R_fieldAddr rfl (.no rfl) rfl (.tmp rfl fun _ => rfl) fl51_3 | exact R_fieldAddr_pp rfl (.no rfl) rfl (.tmp rfl fun _ => rfl) fl51_3 | exact R_fieldAddr_vw rfl (.no rfl) rfl (.tmp rfl fun _ => rfl) fl51_3 | exact R_fieldAddr_pr rfl (.no rfl) rfl (.tmp rfl fun _ => rfl) fl51_3)) rfl ?_
        refine AWl.put ((by first | exact R_load rfl (.no rfl) rfl (.tmp rfl fun _ => rfl) ty3 rfl rfl | exact R_load_pp rfl (.no rfl) rfl (.tmp rfl fun _ => rfl) rfl ty3 rfl rfl | exact R_load_vw rfl (.no rfl) rfl (.tmp rfl fun _ => rfl) ty3 rfl rfl | exact R_load_pr rfl (.no rfl) rfl (.tmp rfl fun _ => rfl) rfl (by first | assumption | exact map_get (by assumption)) ty3 rfl rfl)) rfl ?_
        refine AWl.put (R_ne rfl (.no rfl) rfl (.tmp rfl fun _ => rfl) (.tmp rfl fun _ => rfl)) rfl ?_
        refine AWl.nil ?_
        refine AW.cond (.tmp rfl fun _ => rfl) (fun h24 => ?_) (fun h24 => ?_)
        · exact absurd h24 (by simp)
        · skip
          try simp at h24
          refine AW.skip ?_
          refine AW.seq ?_
          refine AW.region ?_
          refine AWl.put (R_assign rfl (.no rfl) rfl (.const rfl)) rfl ?_
          refine AWl.nil ?_
          refine AW.ret ?_
          refine Res.v rfl rfl ?_
          rfl
set_option maxRecDepth 100000 in
theorem HeqChange (x : TChange) : FnT Tryd.prog 43 [.agg (cChange x), .agg (cChange x)] (.a (.one (.v (.bool true)))) := by
  refine FnT.walk Tryd.func43 rfl (by kernel_rfl) Tryd.ntmps43 rfl fun hlen w0 => ?_
  try simp [cPair, cToken, cExpr, cEdge, cGraph, cStep, cWalk, cChange, cBatch, cHistory, cPositions, cAutomaton, cProductStep, cPathAtom, cConjunction, cView, cDelta, cRegistered, cRegistry] at hlen
  refine AW.seq ?_
  refine AW.region ?_
  refine AWl.put (R_boxz rfl rfl rfl (.tmp rfl fun _ => rfl) (ts := _) (by first | rfl | exact cells_t1 _ | exact cells_t2 _)) rfl ?_
  refine AWl.put (R_boxz rfl rfl rfl (.tmp rfl fun _ => rfl) (ts := _) (by first | rfl | exact cells_t1 _ | exact cells_t2 _)) rfl ?_
  refine AWl.put (R_assign rfl (.no rfl) rfl (.const rfl)) rfl ?_
  refine AWl.nil ?_
  refine AW.seq ?_
  refine AW.seq ?_
  refine AW.region ?_
  refine AWl.put ((by first | exact R_fieldAddr rfl (.no rfl) rfl (.tmp rfl fun _ => rfl) fl55_0 | exact R_fieldAddr_pp rfl (.no rfl) rfl (.tmp rfl fun _ => rfl) fl55_0 | exact R_fieldAddr_vw rfl (.no rfl) rfl (.tmp rfl fun _ => rfl) fl55_0 | exact R_fieldAddr_pr rfl (.no rfl) rfl (.tmp rfl fun _ => rfl) fl55_0)) rfl ?_
  refine AWl.put ((by first | exact R_load rfl (.no rfl) rfl (.tmp rfl fun _ => rfl) ty4 rfl rfl | exact R_load_pp rfl (.no rfl) rfl (.tmp rfl fun _ => rfl) rfl ty4 rfl rfl | exact R_load_vw rfl (.no rfl) rfl (.tmp rfl fun _ => rfl) ty4 rfl rfl | exact R_load_pr rfl (.no rfl) rfl (.tmp rfl fun _ => rfl) rfl (by first | assumption | exact map_get (by assumption)) ty4 rfl rfl)) rfl ?_
  refine AWl.put ((by first | exact R_fieldAddr rfl (.no rfl) rfl (.tmp rfl fun _ => rfl) fl55_0 | exact R_fieldAddr_pp rfl (.no rfl) rfl (.tmp rfl fun _ => rfl) fl55_0 | exact R_fieldAddr_vw rfl (.no rfl) rfl (.tmp rfl fun _ => rfl) fl55_0 | exact R_fieldAddr_pr rfl (.no rfl) rfl (.tmp rfl fun _ => rfl) fl55_0)) rfl ?_
  refine AWl.put ((by first | exact R_load rfl (.no rfl) rfl (.tmp rfl fun _ => rfl) ty4 rfl rfl | exact R_load_pp rfl (.no rfl) rfl (.tmp rfl fun _ => rfl) rfl ty4 rfl rfl | exact R_load_vw rfl (.no rfl) rfl (.tmp rfl fun _ => rfl) ty4 rfl rfl | exact R_load_pr rfl (.no rfl) rfl (.tmp rfl fun _ => rfl) rfl (by first | assumption | exact map_get (by assumption)) ty4 rfl rfl)) rfl ?_
  refine AWl.put (R_neb rfl (.no rfl) rfl (.tmp rfl fun _ => rfl) (.tmp rfl fun _ => rfl) Tryd.underlying4) rfl ?_
  refine AWl.nil ?_
  refine AW.cond (.tmp rfl fun _ => rfl) (fun h9 => ?_) (fun h9 => ?_)
  · exact absurd h9 (by simp)
  · skip
    try simp at h9
    refine AW.skip ?_
    refine AW.seq ?_
    refine AW.seq ?_
    refine AW.region ?_
    refine AWl.put ((by first | exact R_fieldAddr rfl (.no rfl) rfl (.tmp rfl fun _ => rfl) fl55_1 | exact R_fieldAddr_pp rfl (.no rfl) rfl (.tmp rfl fun _ => rfl) fl55_1 | exact R_fieldAddr_vw rfl (.no rfl) rfl (.tmp rfl fun _ => rfl) fl55_1 | exact R_fieldAddr_pr rfl (.no rfl) rfl (.tmp rfl fun _ => rfl) fl55_1)) rfl ?_
    refine AWl.put ((by first | exact R_load rfl (.no rfl) rfl (.tmp rfl fun _ => rfl) ty51 rfl rfl | exact R_load_pp rfl (.no rfl) rfl (.tmp rfl fun _ => rfl) rfl ty51 rfl rfl | exact R_load_vw rfl (.no rfl) rfl (.tmp rfl fun _ => rfl) ty51 rfl rfl | exact R_load_pr rfl (.no rfl) rfl (.tmp rfl fun _ => rfl) rfl (by first | assumption | exact map_get (by assumption)) ty51 rfl rfl)) rfl ?_
    refine AWl.put ((by first | exact R_fieldAddr rfl (.no rfl) rfl (.tmp rfl fun _ => rfl) fl55_1 | exact R_fieldAddr_pp rfl (.no rfl) rfl (.tmp rfl fun _ => rfl) fl55_1 | exact R_fieldAddr_vw rfl (.no rfl) rfl (.tmp rfl fun _ => rfl) fl55_1 | exact R_fieldAddr_pr rfl (.no rfl) rfl (.tmp rfl fun _ => rfl) fl55_1)) rfl ?_
    refine AWl.put ((by first | exact R_load rfl (.no rfl) rfl (.tmp rfl fun _ => rfl) ty51 rfl rfl | exact R_load_pp rfl (.no rfl) rfl (.tmp rfl fun _ => rfl) rfl ty51 rfl rfl | exact R_load_vw rfl (.no rfl) rfl (.tmp rfl fun _ => rfl) ty51 rfl rfl | exact R_load_pr rfl (.no rfl) rfl (.tmp rfl fun _ => rfl) rfl (by first | assumption | exact map_get (by assumption)) ty51 rfl rfl)) rfl ?_
    refine AWl.put (R_callz (FnT.fr (HeqEdge _)) rfl (.no rfl) rfl (.cons (.tmp rfl fun _ => rfl) rfl (.cons (.tmp rfl fun _ => rfl) rfl .nil))) rfl ?_
    refine AWl.put (R_not rfl (.no rfl) rfl (.tmp rfl fun _ => rfl)) rfl ?_
    refine AWl.nil ?_
    refine AW.cond (.tmp rfl fun _ => rfl) (fun h15 => ?_) (fun h15 => ?_)
    · exact absurd h15 (by simp)
    · skip
      try simp at h15
      refine AW.skip ?_
      refine AW.seq ?_
      refine AW.region ?_
      refine AWl.put (R_assign rfl (.no rfl) rfl (.const rfl)) rfl ?_
      refine AWl.nil ?_
      refine AW.ret ?_
      refine Res.v rfl rfl ?_
      rfl
set_option maxRecDepth 100000 in
theorem HeqChangeS (x : (List TChange)) : FnT Tryd.prog 26 [.one (.sl 5 (x.map cChange)), .one (.sl 5 (x.map cChange))] (.a (.one (.v (.bool true)))) := by
  refine FnT.walk Tryd.func26 rfl (by kernel_rfl) Tryd.ntmps26 rfl fun hlen w0 => ?_
  try simp [cPair, cToken, cExpr, cEdge, cGraph, cStep, cWalk, cChange, cBatch, cHistory, cPositions, cAutomaton, cProductStep, cPathAtom, cConjunction, cView, cDelta, cRegistered, cRegistry] at hlen
  refine AW.seq ?_
  refine AW.region ?_
  refine AWl.put (R_assign rfl (.no rfl) rfl (.const rfl)) rfl ?_
  refine AWl.nil ?_
  refine AW.seq ?_
  refine AW.seq ?_
  refine AW.region ?_
  refine AWl.put (R_move rfl (.no rfl) rfl (.tmp rfl fun _ => rfl)) rfl ?_
  refine AWl.put ((by first | exact R_lenm rfl (.no rfl) rfl (.tmp rfl fun _ => rfl) (by first | exact .t | exact .rf rfl | exact .vw | exact .nil) Tryd.underlying22 | exact R_len rfl (.no rfl) rfl (.tmp rfl fun _ => rfl) (by first | exact .t | exact .rf rfl | exact .vw | exact .nil) Tryd.underlying22)) rfl ?_
  refine AWl.put (R_move rfl (.no rfl) rfl (.tmp rfl fun _ => rfl)) rfl ?_
  refine AWl.put ((by first | exact R_lenm rfl (.no rfl) rfl (.tmp rfl fun _ => rfl) (by first | exact .t | exact .rf rfl | exact .vw | exact .nil) Tryd.underlying22 | exact R_len rfl (.no rfl) rfl (.tmp rfl fun _ => rfl) (by first | exact .t | exact .rf rfl | exact .vw | exact .nil) Tryd.underlying22)) rfl ?_
  refine AWl.put (R_ne rfl (.no rfl) rfl (.tmp rfl fun _ => rfl) (.tmp rfl fun _ => rfl)) rfl ?_
  refine AWl.nil ?_
  refine AW.cond (.tmp rfl fun _ => rfl) (fun h10 => ?_) (fun h10 => ?_)
  · exact absurd h10 (by simp)
  · skip
    try simp at h10
    refine AW.skip ?_
    refine AW.seq ?_
    refine AW.seq ?_
    refine AW.region ?_
    refine AWl.put (R_assign rfl (.no rfl) rfl (.const rfl)) rfl ?_
    refine AWl.nil ?_
    refine AW.block ?_
    refine AW.loop (β := Nat) (fun i => i ≤ x.length) (fun i => ⟨_, [(5, (true, .a (.one (.t (.v (.int .i64 (i : Nat))))))), (0, _), (1, _)], []⟩) (fun i => x.length - i) (0) (Nat.zero_le _) (Le.sub0 rfl ⟨rfl, rfl, rfl, trivial⟩ trivial) ?_
    intro k hk
    refine AW.seq ?_
    refine AW.seq ?_
    refine AW.region ?_
    refine AWl.put (R_move rfl (.no rfl) rfl (.tmp rfl fun _ => rfl)) rfl ?_
    refine AWl.put (R_move rfl (.no rfl) rfl (.tmp rfl fun _ => rfl)) rfl ?_
    refine AWl.put ((by first | exact R_lenm rfl (.no rfl) rfl (.tmp rfl fun _ => rfl) (by first | exact .t | exact .rf rfl | exact .vw | exact .nil) Tryd.underlying22 | exact R_len rfl (.no rfl) rfl (.tmp rfl fun _ => rfl) (by first | exact .t | exact .rf rfl | exact .vw | exact .nil) Tryd.underlying22)) rfl ?_
    refine AWl.put (R_lt rfl (.no rfl) rfl (.tmp rfl fun _ => rfl) (.tmp rfl fun _ => rfl)) rfl ?_
    refine AWl.nil ?_
    refine AW.cond (.tmp rfl fun _ => rfl) (fun hlt => ?_) (fun hlt => ?_)
    · skip
      try simp at hlt
      obtain ⟨y, hx⟩ : ∃ y, x[k]? = some y := ⟨_, List.getElem?_eq_getElem hlt⟩
      refine AW.skip ?_
      refine AW.seq ?_
      refine AW.block ?_
      refine AW.seq ?_
      refine AW.drawn 10 (nthB [[], [], [0, 1], [0, 1, 2], [], [], [4, 5], [4, 5, 6], [0, 1, 2, 3, 4, 5, 6, 7], [0, 1, 2, 3, 4, 5, 6, 7, 8]]) (by kernel_rfl) (by kernel_rfl) (by kernel_rfl) ?_
      refine DrawC.step rfl rfl rfl (Loc.of rfl fun σ' hs => R_move rfl (.no rfl) (hd_sup hs rfl) (.tmp (hs.slots _ _ rfl) fun _ => rfl)) ?_
      refine DrawC.step rfl rfl rfl (Loc.of rfl fun σ' hs => R_move rfl (.no rfl) (hd_sup hs rfl) (.tmp (hs.slots _ _ rfl) fun _ => rfl)) ?_
      refine DrawC.step rfl rfl rfl (Loc.of rfl fun σ' hs => (by first | exact R_indexAddr rfl (.no rfl) (hd_sup hs rfl) (.tmp (hs.slots _ _ rfl) fun _ => rfl) (.tmp (hs.slots _ _ rfl) fun _ => rfl) Tryd.underlying22 ty55 (fun _ => ⟨by omega, (by first | assumption | exact map_get (by assumption))⟩) | exact R_indexAddr_vw rfl (.no rfl) (hd_sup hs rfl) (.tmp (hs.slots _ _ rfl) fun _ => rfl) (.tmp (hs.slots _ _ rfl) fun _ => rfl) Tryd.underlying22 ty55 (fun _ => ⟨by omega, (by first | assumption | exact map_get (by assumption))⟩) | exact R_indexAddr_rf rfl (.no rfl) (hd_sup hs rfl) (.tmp (hs.slots _ _ rfl) fun _ => rfl) (hs.res _ _ rfl) (.tmp (hs.slots _ _ rfl) fun _ => rfl) Tryd.underlying22 ty55 (fun _ => ⟨by omega, (by first | assumption | exact map_get (by assumption))⟩))) ?_
      refine DrawC.step rfl rfl rfl (Loc.of rfl fun σ' hs => (by first | exact R_load rfl (.no rfl) (hd_sup hs rfl) (.tmp (hs.slots _ _ rfl) fun _ => rfl) ty55 rfl rfl | exact R_load_pp rfl (.no rfl) (hd_sup hs rfl) (.tmp (hs.slots _ _ rfl) fun _ => rfl) (hs.res _ _ rfl) ty55 rfl rfl | exact R_load_vw rfl (.no rfl) (hd_sup hs rfl) (.tmp (hs.slots _ _ rfl) fun _ => rfl) ty55 rfl rfl | exact R_load_pr rfl (.no rfl) (hd_sup hs rfl) (.tmp (hs.slots _ _ rfl) fun _ => rfl) (hs.res _ _ rfl) (by first | assumption | exact map_get (by assumption)) ty55 rfl rfl)) ?_
      refine DrawC.step rfl rfl rfl (Loc.of rfl fun σ' hs => R_move rfl (.no rfl) (hd_sup hs rfl) (.tmp (hs.slots _ _ rfl) fun _ => rfl)) ?_
      refine DrawC.step rfl rfl rfl (Loc.of rfl fun σ' hs => R_move rfl (.no rfl) (hd_sup hs rfl) (.tmp (hs.slots _ _ rfl) fun _ => rfl)) ?_
      refine DrawC.step rfl rfl rfl (Loc.of rfl fun σ' hs => (by first | exact R_indexAddr rfl (.no rfl) (hd_sup hs rfl) (.tmp (hs.slots _ _ rfl) fun _ => rfl) (.tmp (hs.slots _ _ rfl) fun _ => rfl) Tryd.underlying22 ty55 (fun _ => ⟨by omega, (by first | assumption | exact map_get (by assumption))⟩) | exact R_indexAddr_vw rfl (.no rfl) (hd_sup hs rfl) (.tmp (hs.slots _ _ rfl) fun _ => rfl) (.tmp (hs.slots _ _ rfl) fun _ => rfl) Tryd.underlying22 ty55 (fun _ => ⟨by omega, (by first | assumption | exact map_get (by assumption))⟩) | exact R_indexAddr_rf rfl (.no rfl) (hd_sup hs rfl) (.tmp (hs.slots _ _ rfl) fun _ => rfl) (hs.res _ _ rfl) (.tmp (hs.slots _ _ rfl) fun _ => rfl) Tryd.underlying22 ty55 (fun _ => ⟨by omega, (by first | assumption | exact map_get (by assumption))⟩))) ?_
      refine DrawC.step rfl rfl rfl (Loc.of rfl fun σ' hs => (by first | exact R_load rfl (.no rfl) (hd_sup hs rfl) (.tmp (hs.slots _ _ rfl) fun _ => rfl) ty55 rfl rfl | exact R_load_pp rfl (.no rfl) (hd_sup hs rfl) (.tmp (hs.slots _ _ rfl) fun _ => rfl) (hs.res _ _ rfl) ty55 rfl rfl | exact R_load_vw rfl (.no rfl) (hd_sup hs rfl) (.tmp (hs.slots _ _ rfl) fun _ => rfl) ty55 rfl rfl | exact R_load_pr rfl (.no rfl) (hd_sup hs rfl) (.tmp (hs.slots _ _ rfl) fun _ => rfl) (hs.res _ _ rfl) (by first | assumption | exact map_get (by assumption)) ty55 rfl rfl)) ?_
      refine DrawC.step rfl rfl rfl (Loc.of rfl fun σ' hs => R_callz (FnT.fr (HeqChange _)) rfl (.no rfl) (hd_sup hs rfl) (.cons (.tmp (hs.slots _ _ rfl) fun _ => rfl) (readA_sup hs rfl) (.cons (.tmp (hs.slots _ _ rfl) fun _ => rfl) (readA_sup hs rfl) .nil))) ?_
      refine DrawC.step rfl rfl rfl (Loc.of rfl fun σ' hs => R_not rfl (.no rfl) (hd_sup hs rfl) (.tmp (hs.slots _ _ rfl) fun _ => rfl)) ?_
      refine DrawC.fin rfl rfl ?_
      refine AWl.nil ?_
      refine AW.cond (.tmp rfl fun _ => rfl) (fun h26 => ?_) (fun h26 => ?_)
      · exact absurd h26 (by simp)
      · skip
        try simp at h26
        refine AW.skip ?_
        refine AW.region ?_
        refine AWl.put (R_move rfl (.no rfl) rfl (.tmp rfl fun _ => rfl)) rfl ?_
        refine AWl.put (R_add rfl (.no rfl) rfl (.tmp rfl fun _ => rfl) (.const rfl) (fun _ => by omega)) rfl ?_
        refine AWl.put (R_assign rfl (.no rfl) rfl (.tmp rfl fun _ => rfl)) rfl ?_
        refine AWl.nil ?_
        refine Round.next (k + 1) (by omega) (by omega) (Le.sub0 rfl ⟨rfl, rfl, rfl, trivial⟩ trivial)
    · skip
      try simp at hlt
      refine AW.exit ?_
      refine AW.seq ?_
      refine AW.region ?_
      refine AWl.put (R_assign rfl (.no rfl) rfl (.const rfl)) rfl ?_
      refine AWl.nil ?_
      refine AW.ret ?_
      refine Res.v rfl rfl ?_
      rfl
set_option maxRecDepth 100000 in
theorem HeqBatch (x : TBatch) : FnT Tryd.prog 7 [.agg (cBatch x), .agg (cBatch x)] (.a (.one (.v (.bool true)))) := by
  refine FnT.walk Tryd.func7 rfl (by kernel_rfl) Tryd.ntmps7 rfl fun hlen w0 => ?_
  try simp [cPair, cToken, cExpr, cEdge, cGraph, cStep, cWalk, cChange, cBatch, cHistory, cPositions, cAutomaton, cProductStep, cPathAtom, cConjunction, cView, cDelta, cRegistered, cRegistry] at hlen
  refine AW.seq ?_
  refine AW.region ?_
  refine AWl.put (R_boxz rfl rfl rfl (.tmp rfl fun _ => rfl) (ts := _) (by first | rfl | exact cells_t1 _ | exact cells_t2 _)) rfl ?_
  refine AWl.put (R_boxz rfl rfl rfl (.tmp rfl fun _ => rfl) (ts := _) (by first | rfl | exact cells_t1 _ | exact cells_t2 _)) rfl ?_
  refine AWl.put (R_assign rfl (.no rfl) rfl (.const rfl)) rfl ?_
  refine AWl.nil ?_
  refine AW.seq ?_
  refine AW.seq ?_
  refine AW.region ?_
  refine AWl.put ((by first | exact R_fieldAddr rfl (.no rfl) rfl (.tmp rfl fun _ => rfl) fl24_0 | exact R_fieldAddr_pp rfl (.no rfl) rfl (.tmp rfl fun _ => rfl) fl24_0 | exact R_fieldAddr_vw rfl (.no rfl) rfl (.tmp rfl fun _ => rfl) fl24_0 | exact R_fieldAddr_pr rfl (.no rfl) rfl (.tmp rfl fun _ => rfl) fl24_0)) rfl ?_
  refine AWl.put ((by first | exact R_load rfl (.no rfl) rfl (.tmp rfl fun _ => rfl) ty22 rfl rfl | exact R_load_pp rfl (.no rfl) rfl (.tmp rfl fun _ => rfl) rfl ty22 rfl rfl | exact R_load_vw rfl (.no rfl) rfl (.tmp rfl fun _ => rfl) ty22 rfl rfl | exact R_load_pr rfl (.no rfl) rfl (.tmp rfl fun _ => rfl) rfl (by first | assumption | exact map_get (by assumption)) ty22 rfl rfl)) rfl ?_
  refine AWl.put ((by first | exact R_fieldAddr rfl (.no rfl) rfl (.tmp rfl fun _ => rfl) fl24_0 | exact R_fieldAddr_pp rfl (.no rfl) rfl (.tmp rfl fun _ => rfl) fl24_0 | exact R_fieldAddr_vw rfl (.no rfl) rfl (.tmp rfl fun _ => rfl) fl24_0 | exact R_fieldAddr_pr rfl (.no rfl) rfl (.tmp rfl fun _ => rfl) fl24_0)) rfl ?_
  refine AWl.put ((by first | exact R_load rfl (.no rfl) rfl (.tmp rfl fun _ => rfl) ty22 rfl rfl | exact R_load_pp rfl (.no rfl) rfl (.tmp rfl fun _ => rfl) rfl ty22 rfl rfl | exact R_load_vw rfl (.no rfl) rfl (.tmp rfl fun _ => rfl) ty22 rfl rfl | exact R_load_pr rfl (.no rfl) rfl (.tmp rfl fun _ => rfl) rfl (by first | assumption | exact map_get (by assumption)) ty22 rfl rfl)) rfl ?_
  refine AWl.put (R_callz (FnT.fr (HeqChangeS _)) rfl (.no rfl) rfl (.cons (.tmp rfl fun _ => rfl) rfl (.cons (.tmp rfl fun _ => rfl) rfl .nil))) rfl ?_
  refine AWl.put (R_not rfl (.no rfl) rfl (.tmp rfl fun _ => rfl)) rfl ?_
  refine AWl.nil ?_
  refine AW.cond (.tmp rfl fun _ => rfl) (fun h10 => ?_) (fun h10 => ?_)
  · exact absurd h10 (by simp)
  · skip
    try simp at h10
    refine AW.skip ?_
    refine AW.seq ?_
    refine AW.region ?_
    refine AWl.put (R_assign rfl (.no rfl) rfl (.const rfl)) rfl ?_
    refine AWl.nil ?_
    refine AW.ret ?_
    refine Res.v rfl rfl ?_
    rfl
set_option maxRecDepth 100000 in
theorem HeqBatchS (x : (List TBatch)) : FnT Tryd.prog 13 [.one (.sl 1 (x.map cBatch)), .one (.sl 1 (x.map cBatch))] (.a (.one (.v (.bool true)))) := by
  refine FnT.walk Tryd.func13 rfl (by kernel_rfl) Tryd.ntmps13 rfl fun hlen w0 => ?_
  try simp [cPair, cToken, cExpr, cEdge, cGraph, cStep, cWalk, cChange, cBatch, cHistory, cPositions, cAutomaton, cProductStep, cPathAtom, cConjunction, cView, cDelta, cRegistered, cRegistry] at hlen
  refine AW.seq ?_
  refine AW.region ?_
  refine AWl.put (R_assign rfl (.no rfl) rfl (.const rfl)) rfl ?_
  refine AWl.nil ?_
  refine AW.seq ?_
  refine AW.seq ?_
  refine AW.region ?_
  refine AWl.put (R_move rfl (.no rfl) rfl (.tmp rfl fun _ => rfl)) rfl ?_
  refine AWl.put ((by first | exact R_lenm rfl (.no rfl) rfl (.tmp rfl fun _ => rfl) (by first | exact .t | exact .rf rfl | exact .vw | exact .nil) Tryd.underlying31 | exact R_len rfl (.no rfl) rfl (.tmp rfl fun _ => rfl) (by first | exact .t | exact .rf rfl | exact .vw | exact .nil) Tryd.underlying31)) rfl ?_
  refine AWl.put (R_move rfl (.no rfl) rfl (.tmp rfl fun _ => rfl)) rfl ?_
  refine AWl.put ((by first | exact R_lenm rfl (.no rfl) rfl (.tmp rfl fun _ => rfl) (by first | exact .t | exact .rf rfl | exact .vw | exact .nil) Tryd.underlying31 | exact R_len rfl (.no rfl) rfl (.tmp rfl fun _ => rfl) (by first | exact .t | exact .rf rfl | exact .vw | exact .nil) Tryd.underlying31)) rfl ?_
  refine AWl.put (R_ne rfl (.no rfl) rfl (.tmp rfl fun _ => rfl) (.tmp rfl fun _ => rfl)) rfl ?_
  refine AWl.nil ?_
  refine AW.cond (.tmp rfl fun _ => rfl) (fun h10 => ?_) (fun h10 => ?_)
  · exact absurd h10 (by simp)
  · skip
    try simp at h10
    refine AW.skip ?_
    refine AW.seq ?_
    refine AW.seq ?_
    refine AW.region ?_
    refine AWl.put (R_assign rfl (.no rfl) rfl (.const rfl)) rfl ?_
    refine AWl.nil ?_
    refine AW.block ?_
    refine AW.loop (β := Nat) (fun i => i ≤ x.length) (fun i => ⟨_, [(5, (true, .a (.one (.t (.v (.int .i64 (i : Nat))))))), (0, _), (1, _)], []⟩) (fun i => x.length - i) (0) (Nat.zero_le _) (Le.sub0 rfl ⟨rfl, rfl, rfl, trivial⟩ trivial) ?_
    intro k hk
    refine AW.seq ?_
    refine AW.seq ?_
    refine AW.region ?_
    refine AWl.put (R_move rfl (.no rfl) rfl (.tmp rfl fun _ => rfl)) rfl ?_
    refine AWl.put (R_move rfl (.no rfl) rfl (.tmp rfl fun _ => rfl)) rfl ?_
    refine AWl.put ((by first | exact R_lenm rfl (.no rfl) rfl (.tmp rfl fun _ => rfl) (by first | exact .t | exact .rf rfl | exact .vw | exact .nil) Tryd.underlying31 | exact R_len rfl (.no rfl) rfl (.tmp rfl fun _ => rfl) (by first | exact .t | exact .rf rfl | exact .vw | exact .nil) Tryd.underlying31)) rfl ?_
    refine AWl.put (R_lt rfl (.no rfl) rfl (.tmp rfl fun _ => rfl) (.tmp rfl fun _ => rfl)) rfl ?_
    refine AWl.nil ?_
    refine AW.cond (.tmp rfl fun _ => rfl) (fun hlt => ?_) (fun hlt => ?_)
    · skip
      try simp at hlt
      obtain ⟨y, hx⟩ : ∃ y, x[k]? = some y := ⟨_, List.getElem?_eq_getElem hlt⟩
      refine AW.skip ?_
      refine AW.seq ?_
      refine AW.block ?_
      refine AW.seq ?_
      refine AW.drawn 10 (nthB [[], [], [0, 1], [0, 1, 2], [], [], [4, 5], [4, 5, 6], [0, 1, 2, 3, 4, 5, 6, 7], [0, 1, 2, 3, 4, 5, 6, 7, 8]]) (by kernel_rfl) (by kernel_rfl) (by kernel_rfl) ?_
      refine DrawC.step rfl rfl rfl (Loc.of rfl fun σ' hs => R_move rfl (.no rfl) (hd_sup hs rfl) (.tmp (hs.slots _ _ rfl) fun _ => rfl)) ?_
      refine DrawC.step rfl rfl rfl (Loc.of rfl fun σ' hs => R_move rfl (.no rfl) (hd_sup hs rfl) (.tmp (hs.slots _ _ rfl) fun _ => rfl)) ?_
      refine DrawC.step rfl rfl rfl (Loc.of rfl fun σ' hs => (by first | exact R_indexAddr rfl (.no rfl) (hd_sup hs rfl) (.tmp (hs.slots _ _ rfl) fun _ => rfl) (.tmp (hs.slots _ _ rfl) fun _ => rfl) Tryd.underlying31 ty24 (fun _ => ⟨by omega, (by first | assumption | exact map_get (by assumption))⟩) | exact R_indexAddr_vw rfl (.no rfl) (hd_sup hs rfl) (.tmp (hs.slots _ _ rfl) fun _ => rfl) (.tmp (hs.slots _ _ rfl) fun _ => rfl) Tryd.underlying31 ty24 (fun _ => ⟨by omega, (by first | assumption | exact map_get (by assumption))⟩) | exact R_indexAddr_rf rfl (.no rfl) (hd_sup hs rfl) (.tmp (hs.slots _ _ rfl) fun _ => rfl) (hs.res _ _ rfl) (.tmp (hs.slots _ _ rfl) fun _ => rfl) Tryd.underlying31 ty24 (fun _ => ⟨by omega, (by first | assumption | exact map_get (by assumption))⟩))) ?_
      refine DrawC.step rfl rfl rfl (Loc.of rfl fun σ' hs => (by first | exact R_load rfl (.no rfl) (hd_sup hs rfl) (.tmp (hs.slots _ _ rfl) fun _ => rfl) ty24 rfl rfl | exact R_load_pp rfl (.no rfl) (hd_sup hs rfl) (.tmp (hs.slots _ _ rfl) fun _ => rfl) (hs.res _ _ rfl) ty24 rfl rfl | exact R_load_vw rfl (.no rfl) (hd_sup hs rfl) (.tmp (hs.slots _ _ rfl) fun _ => rfl) ty24 rfl rfl | exact R_load_pr rfl (.no rfl) (hd_sup hs rfl) (.tmp (hs.slots _ _ rfl) fun _ => rfl) (hs.res _ _ rfl) (by first | assumption | exact map_get (by assumption)) ty24 rfl rfl)) ?_
      refine DrawC.step rfl rfl rfl (Loc.of rfl fun σ' hs => R_move rfl (.no rfl) (hd_sup hs rfl) (.tmp (hs.slots _ _ rfl) fun _ => rfl)) ?_
      refine DrawC.step rfl rfl rfl (Loc.of rfl fun σ' hs => R_move rfl (.no rfl) (hd_sup hs rfl) (.tmp (hs.slots _ _ rfl) fun _ => rfl)) ?_
      refine DrawC.step rfl rfl rfl (Loc.of rfl fun σ' hs => (by first | exact R_indexAddr rfl (.no rfl) (hd_sup hs rfl) (.tmp (hs.slots _ _ rfl) fun _ => rfl) (.tmp (hs.slots _ _ rfl) fun _ => rfl) Tryd.underlying31 ty24 (fun _ => ⟨by omega, (by first | assumption | exact map_get (by assumption))⟩) | exact R_indexAddr_vw rfl (.no rfl) (hd_sup hs rfl) (.tmp (hs.slots _ _ rfl) fun _ => rfl) (.tmp (hs.slots _ _ rfl) fun _ => rfl) Tryd.underlying31 ty24 (fun _ => ⟨by omega, (by first | assumption | exact map_get (by assumption))⟩) | exact R_indexAddr_rf rfl (.no rfl) (hd_sup hs rfl) (.tmp (hs.slots _ _ rfl) fun _ => rfl) (hs.res _ _ rfl) (.tmp (hs.slots _ _ rfl) fun _ => rfl) Tryd.underlying31 ty24 (fun _ => ⟨by omega, (by first | assumption | exact map_get (by assumption))⟩))) ?_
      refine DrawC.step rfl rfl rfl (Loc.of rfl fun σ' hs => (by first | exact R_load rfl (.no rfl) (hd_sup hs rfl) (.tmp (hs.slots _ _ rfl) fun _ => rfl) ty24 rfl rfl | exact R_load_pp rfl (.no rfl) (hd_sup hs rfl) (.tmp (hs.slots _ _ rfl) fun _ => rfl) (hs.res _ _ rfl) ty24 rfl rfl | exact R_load_vw rfl (.no rfl) (hd_sup hs rfl) (.tmp (hs.slots _ _ rfl) fun _ => rfl) ty24 rfl rfl | exact R_load_pr rfl (.no rfl) (hd_sup hs rfl) (.tmp (hs.slots _ _ rfl) fun _ => rfl) (hs.res _ _ rfl) (by first | assumption | exact map_get (by assumption)) ty24 rfl rfl)) ?_
      refine DrawC.step rfl rfl rfl (Loc.of rfl fun σ' hs => R_callz (FnT.fr (HeqBatch _)) rfl (.no rfl) (hd_sup hs rfl) (.cons (.tmp (hs.slots _ _ rfl) fun _ => rfl) (readA_sup hs rfl) (.cons (.tmp (hs.slots _ _ rfl) fun _ => rfl) (readA_sup hs rfl) .nil))) ?_
      refine DrawC.step rfl rfl rfl (Loc.of rfl fun σ' hs => R_not rfl (.no rfl) (hd_sup hs rfl) (.tmp (hs.slots _ _ rfl) fun _ => rfl)) ?_
      refine DrawC.fin rfl rfl ?_
      refine AWl.nil ?_
      refine AW.cond (.tmp rfl fun _ => rfl) (fun h26 => ?_) (fun h26 => ?_)
      · exact absurd h26 (by simp)
      · skip
        try simp at h26
        refine AW.skip ?_
        refine AW.region ?_
        refine AWl.put (R_move rfl (.no rfl) rfl (.tmp rfl fun _ => rfl)) rfl ?_
        refine AWl.put (R_add rfl (.no rfl) rfl (.tmp rfl fun _ => rfl) (.const rfl) (fun _ => by omega)) rfl ?_
        refine AWl.put (R_assign rfl (.no rfl) rfl (.tmp rfl fun _ => rfl)) rfl ?_
        refine AWl.nil ?_
        refine Round.next (k + 1) (by omega) (by omega) (Le.sub0 rfl ⟨rfl, rfl, rfl, trivial⟩ trivial)
    · skip
      try simp at hlt
      refine AW.exit ?_
      refine AW.seq ?_
      refine AW.region ?_
      refine AWl.put (R_assign rfl (.no rfl) rfl (.const rfl)) rfl ?_
      refine AWl.nil ?_
      refine AW.ret ?_
      refine Res.v rfl rfl ?_
      rfl
end Go.Proofs.YtoealglkenhphaaDoor
