/- FnExactComposeDeltas: the law returns true for every input, and its arguments read as they did. No condition. -/
import Derived.Test.YtjmefmdeghggeaaRows
import Derived.Test.YtjmefmdeghggeaaHC
import Derived.Test.YtjmefmdeghggeaaHM
import Derived.Test.YtjmefmdeghggeaaOpenT
import Derived.Test.YtjmefmdeghggeaaB33
set_option linter.unusedVariables false
set_option linter.unusedSimpArgs false
namespace Go.Proofs.Ytjmefmdeghggeaa
open Go.RowKit Go.Q Go.D Go.ChangeShapes Go.WideShapes Go.ChangeAt Go.Deep
open Go.ChangeMaps (open_string shut_string)
set_option maxRecDepth 100000 in
set_option maxHeartbeats 1000000 in
theorem lawFnExactComposeDeltas (aA : TDelta) (aB : TDelta) : FnT Try.prog 7 [.agg (cDelta aA), .agg (cDelta aB)] (.a (.one (.v (.bool true)))) := by
  refine FnT.walk Try.func7 rfl (by kernel_rfl) Try.ntmps7 rfl fun hlen w0 => ?_
  try simp [cPair, cToken, cExpr, cEdge, cGraph, cStep, cWalk, cChange, cBatch, cHistory, cPositions, cAutomaton, cProductStep, cPathAtom, cConjunction, cView, cDelta, cRegistered, cRegistry] at hlen
  clear hlen
  refine AW.seq ?_
  -- region 0
  refine AW.region ?_
  refine AWl.put (R_boxz rfl rfl rfl (.tmp rfl fun _ => rfl) (ts := _) (by first | rfl | exact cells_t1 _ | exact cells_t2 _)) rfl ?_
  refine AWl.put (R_boxz rfl rfl rfl (.tmp rfl fun _ => rfl) (ts := _) (by first | rfl | exact cells_t1 _ | exact cells_t2 _)) rfl ?_
  refine AWl.put (R_assign rfl (.no rfl) rfl (.const rfl)) rfl ?_
  refine AWl.nil ?_
  refine AW.seq ?_
  -- region 1
  refine AW.region ?_
  refine AWl.put (R_assign rfl (.no rfl) rfl (.const rfl)) rfl ?_
  refine AWl.nil ?_
  refine AW.seq ?_
  -- region 2
  refine AW.region ?_
  refine AWl.put ((by first | exact R_load rfl (.no rfl) rfl (.tmp rfl fun _ => rfl) ty58 rfl rfl | exact R_load_pp rfl (.no rfl) rfl (.tmp rfl fun _ => rfl) rfl ty58 rfl rfl | exact R_load_vw rfl (.no rfl) rfl (.tmp rfl fun _ => rfl) ty58 rfl rfl | exact R_load_pr rfl (.no rfl) rfl (.tmp rfl fun _ => rfl) rfl (by first | assumption | exact map_get (by assumption)) ty58 rfl rfl)) rfl ?_
  refine AWl.put (R_move rfl (.no rfl) rfl (.tmp rfl fun _ => rfl)) rfl ?_
  refine AWl.put (R_callz (FnT.fr (HszDelta _ _ (by omega))) rfl (.no rfl) rfl (.cons (.tmp rfl fun _ => rfl) rfl (.cons (.tmp rfl fun _ => rfl) rfl .nil))) rfl ?_
  refine AWl.put (R_assign rfl (.no rfl) rfl (.tmp rfl fun _ => rfl)) rfl ?_
  refine AWl.nil ?_
  refine AW.seq ?_
  refine AW.seq ?_
  -- region 3
  refine AW.region ?_
  refine AWl.put (R_move rfl (.no rfl) rfl (.tmp rfl fun _ => rfl)) rfl ?_
  refine AWl.put (R_lt rfl (.no rfl) rfl (.tmp rfl fun _ => rfl) (.const rfl)) rfl ?_
  refine AWl.nil ?_
  refine AW.cond (.tmp rfl fun _ => rfl) (fun h21 => ?_) (fun h21 => ?_)
  · skip
    try simp at h21
    refine AW.seq ?_
    -- region 4
    refine AW.region ?_
    refine AWl.put (R_assign rfl (.no rfl) rfl (.const rfl)) rfl ?_
    refine AWl.nil ?_
    refine AW.ret ?_
    refine Res.v rfl rfl ?_
    rfl
  · skip
    try simp at h21
    have hb0 := szDelta_ok aA 1048576 (by omega) (by omega)
    have hz0 := hb0.2 (by omega)
    refine AW.skip ?_
    refine AW.seq ?_
    -- region 5
    refine AW.region ?_
    refine AWl.put ((by first | exact R_load rfl (.no rfl) rfl (.tmp rfl fun _ => rfl) ty58 rfl rfl | exact R_load_pp rfl (.no rfl) rfl (.tmp rfl fun _ => rfl) rfl ty58 rfl rfl | exact R_load_vw rfl (.no rfl) rfl (.tmp rfl fun _ => rfl) ty58 rfl rfl | exact R_load_pr rfl (.no rfl) rfl (.tmp rfl fun _ => rfl) rfl (by first | assumption | exact map_get (by assumption)) ty58 rfl rfl)) rfl ?_
    refine AWl.put (R_move rfl (.no rfl) rfl (.tmp rfl fun _ => rfl)) rfl ?_
    refine AWl.put (R_callz (FnT.fr (HszDelta _ _ (by omega))) rfl (.no rfl) rfl (.cons (.tmp rfl fun _ => rfl) rfl (.cons (.tmp rfl fun _ => rfl) rfl .nil))) rfl ?_
    refine AWl.put (R_assign rfl (.no rfl) rfl (.tmp rfl fun _ => rfl)) rfl ?_
    refine AWl.nil ?_
    refine AW.seq ?_
    refine AW.seq ?_
    -- region 6
    refine AW.region ?_
    refine AWl.put (R_move rfl (.no rfl) rfl (.tmp rfl fun _ => rfl)) rfl ?_
    refine AWl.put (R_lt rfl (.no rfl) rfl (.tmp rfl fun _ => rfl) (.const rfl)) rfl ?_
    refine AWl.nil ?_
    refine AW.cond (.tmp rfl fun _ => rfl) (fun h26 => ?_) (fun h26 => ?_)
    · skip
      try simp at h26
      refine AW.seq ?_
      -- region 7
      refine AW.region ?_
      refine AWl.put (R_assign rfl (.no rfl) rfl (.const rfl)) rfl ?_
      refine AWl.nil ?_
      refine AW.ret ?_
      refine Res.v rfl rfl ?_
      rfl
    · skip
      try simp at h26
      have hb1 := szDelta_ok aB (szDelta aA 1048576) (by omega) (by omega)
      have hz1 := hb1.2 (by omega)
      have hcn0 := cpDelta_nn aA
      have hco0 := cpDelta_ok (by first | exact (hz0 : okDelta aA) | exact (hz1 : okDelta aA))
      have hcn1 := cpDelta_nn aB
      have hco1 := cpDelta_ok (by first | exact (hz0 : okDelta aB) | exact (hz1 : okDelta aB))
      have hbd0 := composeD_cnt (a := aA) (b := aB) hz0.1 hz0.2.1 hz1.1 hz1.2.1
      have hbd1 := cpDelta_nn (composeD aA aB).1
      refine AW.skip ?_
      refine AW.seq ?_
      -- region 8
      refine AW.drawnS 9 7 (nthB [[], [0], [], [0, 1, 2], [0, 1, 2, 3], [0, 1, 2, 3, 4], [0, 1, 2, 3, 4, 5], [0, 1, 2, 3, 4, 5], [], [0, 1, 2, 3, 4, 5, 6, 8]]) (by kernel_rfl) (by kernel_rfl) (by kernel_rfl) (by kernel_rfl) rfl ?_
      refine DrawG.step rfl rfl (Loc.of rfl fun σ' hs => (by first | exact R_load rfl (.no rfl) (hd_sup hs rfl) (.tmp (hs.slots _ _ rfl) fun _ => rfl) ty58 rfl rfl | exact R_load_pp rfl (.no rfl) (hd_sup hs rfl) (.tmp (hs.slots _ _ rfl) fun _ => rfl) (hs.res _ _ rfl) ty58 rfl rfl | exact R_load_vw rfl (.no rfl) (hd_sup hs rfl) (.tmp (hs.slots _ _ rfl) fun _ => rfl) ty58 rfl rfl | exact R_load_pr rfl (.no rfl) (hd_sup hs rfl) (.tmp (hs.slots _ _ rfl) fun _ => rfl) (hs.res _ _ rfl) (by first | assumption | exact map_get (by assumption)) ty58 rfl rfl)) ?_
      refine DrawG.step rfl rfl (Loc.ofs rfl fun σ' hs hf => R_call 2900 (HtoDelta _ (by first | exact hz0 | exact hz1)) rfl rfl (hd_sup hs rfl) (.cons (.tmp (hs.slots _ _ rfl) fun _ => rfl) (readA_sup hs rfl) .nil) rfl (all_fresh hf)) ?_
      refine DrawG.step rfl rfl (Loc.of rfl fun σ' hs => (by first | exact R_load rfl (.no rfl) (hd_sup hs rfl) (.tmp (hs.slots _ _ rfl) fun _ => rfl) ty58 rfl rfl | exact R_load_pp rfl (.no rfl) (hd_sup hs rfl) (.tmp (hs.slots _ _ rfl) fun _ => rfl) (hs.res _ _ rfl) ty58 rfl rfl | exact R_load_vw rfl (.no rfl) (hd_sup hs rfl) (.tmp (hs.slots _ _ rfl) fun _ => rfl) ty58 rfl rfl | exact R_load_pr rfl (.no rfl) (hd_sup hs rfl) (.tmp (hs.slots _ _ rfl) fun _ => rfl) (hs.res _ _ rfl) (by first | assumption | exact map_get (by assumption)) ty58 rfl rfl)) ?_
      refine DrawG.step rfl rfl (Loc.ofs rfl fun σ' hs hf => R_call 3100 (HtoDelta _ (by first | exact hz0 | exact hz1)) rfl rfl (hd_sup hs rfl) (.cons (.tmp (hs.slots _ _ rfl) fun _ => rfl) (readA_sup hs rfl) .nil) rfl (all_fresh hf)) ?_
      refine DrawG.step rfl rfl (Loc.of rfl fun σ' hs => R_callz (FnT.fr (specComposeDeltas _ _ (by exact hz0.1) (by exact hz0.2.1) (by exact hz1.1) (by exact hz1.2.1))) rfl (.no rfl) (hd_sup hs rfl) (.cons (.tmp (hs.slots _ _ rfl) fun _ => rfl) (readA_sup hs rfl) (.cons (.tmp (hs.slots _ _ rfl) fun _ => rfl) (readA_sup hs rfl) .nil))) ?_
      refine DrawG.step rfl rfl (Loc.of rfl fun σ' hs => R_movet rfl (.no rfl) (hd_sup hs rfl) (hs.slots _ _ rfl) fun _ => rfl) ?_
      refine DrawG.step rfl rfl (Loc.of rfl fun σ' hs => R_extract rfl (.no rfl) (hd_sup hs rfl) (hs.slots _ _ rfl) (fun _ => rfl) rfl) ?_
      refine DrawG.step rfl rfl (Loc.of rfl fun σ' hs => R_extract rfl (.no rfl) (hd_sup hs rfl) (hs.slots _ _ rfl) (fun _ => rfl) rfl) ?_
      refine DrawG.step rfl rfl (Loc.of1 rfl fun σ' hs hf => R_alloc 6 rfl rfl (hd_sup hs rfl) in39 rfl rfl hf) ?_
      refine DrawG.fin rfl (FinS.mk ⟨_, [(0, _), (1, _), (2, _), (3, _), (4, _), (5, _), (6, _), (21, _), (26, _), (34, _)], [(2900, _), (2901, _), (3100, _), (3101, _), (6, _)]⟩ rfl rfl rfl rfl (R_store_pb rfl rfl rfl (.tmp rfl fun _ => rfl) (.tmp rfl fun _ => rfl) rfl ty39 rfl rfl rfl (by kernel_rfl) rfl) (R_store_pb rfl rfl rfl (.tmp rfl fun _ => rfl) (.tmp rfl fun _ => rfl) rfl ty39 rfl rfl rfl (by kernel_rfl) rfl) (R_extract rfl (.no rfl) rfl rfl (fun _ => rfl) rfl) (Sup.sub0 rfl ⟨rfl, rfl, rfl, rfl, rfl, rfl, rfl, rfl, rfl, rfl, trivial⟩ ⟨rfl, rfl, rfl, rfl, rfl, trivial⟩) (Sup.sub0 rfl ⟨rfl, rfl, rfl, rfl, rfl, rfl, rfl, rfl, rfl, rfl, trivial⟩ ⟨rfl, rfl, rfl, rfl, rfl, trivial⟩) ?_)
      refine AWl.put (R_assign rfl (.no rfl) rfl (.tmp rfl fun _ => rfl)) rfl ?_
      refine AWl.nil ?_
      refine AW.seq ?_
      -- region 9
      refine AW.region ?_
      refine AWl.put ((by first | exact R_load rfl (.no rfl) rfl (.tmp rfl fun _ => rfl) ty58 rfl rfl | exact R_load_pp rfl (.no rfl) rfl (.tmp rfl fun _ => rfl) rfl ty58 rfl rfl | exact R_load_vw rfl (.no rfl) rfl (.tmp rfl fun _ => rfl) ty58 rfl rfl | exact R_load_pr rfl (.no rfl) rfl (.tmp rfl fun _ => rfl) rfl (by first | assumption | exact map_get (by assumption)) ty58 rfl rfl)) rfl ?_
      refine AWl.adds (R_call 3600 (HtoDelta _ (by first | exact hz0 | exact hz1)) rfl rfl rfl (.cons (.tmp rfl fun _ => rfl) rfl .nil) rfl rfl) rfl ?_
      refine AWl.add (R_alloc 8 rfl rfl rfl in39 rfl rfl rfl) rfl ?_
      refine AWl.chgb (R_store_pb rfl rfl rfl (.tmp rfl fun _ => rfl) (.tmp rfl fun _ => rfl) rfl ty39 rfl rfl rfl (by kernel_rfl) rfl) ?_
      refine AWl.nil ?_
      refine AW.seq ?_
      -- region 10
      refine AW.region ?_
      refine AWl.put ((by first | exact R_load rfl (.no rfl) rfl (.tmp rfl fun _ => rfl) ty58 rfl rfl | exact R_load_pp rfl (.no rfl) rfl (.tmp rfl fun _ => rfl) rfl ty58 rfl rfl | exact R_load_vw rfl (.no rfl) rfl (.tmp rfl fun _ => rfl) ty58 rfl rfl | exact R_load_pr rfl (.no rfl) rfl (.tmp rfl fun _ => rfl) rfl (by first | assumption | exact map_get (by assumption)) ty58 rfl rfl)) rfl ?_
      refine AWl.adds (R_call 3800 (HtoDelta _ (by first | exact hz0 | exact hz1)) rfl rfl rfl (.cons (.tmp rfl fun _ => rfl) rfl .nil) rfl rfl) rfl ?_
      refine AWl.add (R_alloc 9 rfl rfl rfl in39 rfl rfl rfl) rfl ?_
      refine AWl.chgb (R_store_pb rfl rfl rfl (.tmp rfl fun _ => rfl) (.tmp rfl fun _ => rfl) rfl ty39 rfl rfl rfl (by kernel_rfl) rfl) ?_
      refine AWl.nil ?_
      refine AW.seq ?_
      -- region 11
      refine AW.region ?_
      refine AWl.put ((by first | exact R_load rfl (.no rfl) rfl (.tmp rfl fun _ => rfl) ty39 rfl rfl | exact R_load_pp rfl (.no rfl) rfl (.tmp rfl fun _ => rfl) rfl ty39 rfl rfl | exact R_load_vw rfl (.no rfl) rfl (.tmp rfl fun _ => rfl) ty39 rfl rfl | exact R_load_pr rfl (.no rfl) rfl (.tmp rfl fun _ => rfl) rfl (by first | assumption | exact map_get (by assumption)) ty39 rfl rfl)) rfl ?_
      refine AWl.put ((by first | exact R_load rfl (.no rfl) rfl (.tmp rfl fun _ => rfl) ty39 rfl rfl | exact R_load_pp rfl (.no rfl) rfl (.tmp rfl fun _ => rfl) rfl ty39 rfl rfl | exact R_load_vw rfl (.no rfl) rfl (.tmp rfl fun _ => rfl) ty39 rfl rfl | exact R_load_pr rfl (.no rfl) rfl (.tmp rfl fun _ => rfl) rfl (by first | assumption | exact map_get (by assumption)) ty39 rfl rfl)) rfl ?_
      refine AWl.adds (R_call 4200 (implComposeDeltas _ _ (by exact hz0.1) (by exact hz0.2.1) (by exact hz1.1) (by exact hz1.2.1)) rfl rfl rfl (.cons (.tmp rfl fun _ => rfl) rfl (.cons (.tmp rfl fun _ => rfl) rfl .nil)) rfl rfl) rfl ?_
      refine AWl.put (R_movet rfl (.no rfl) rfl rfl fun _ => rfl) rfl ?_
      refine AWl.put (R_extract rfl (.no rfl) rfl rfl (fun _ => rfl) rfl) rfl ?_
      refine AWl.put (R_extract rfl (.no rfl) rfl rfl (fun _ => rfl) rfl) rfl ?_
      refine AWl.add (R_alloc 10 rfl rfl rfl in39 rfl rfl rfl) rfl ?_
      refine AWl.chgb (R_store_pb rfl rfl rfl (.tmp rfl fun _ => rfl) (.tmp rfl fun _ => rfl) rfl ty39 rfl rfl rfl (by kernel_rfl) rfl) ?_
      refine AWl.put (R_assign rfl (.no rfl) rfl (.tmp rfl fun _ => rfl)) rfl ?_
      refine AWl.nil ?_
      refine AW.seq ?_
      refine AW.seq ?_
      -- region 12
      refine AW.region ?_
      refine AWl.put ((by first | exact R_load rfl (.no rfl) rfl (.tmp rfl fun _ => rfl) ty39 rfl rfl | exact R_load_pp rfl (.no rfl) rfl (.tmp rfl fun _ => rfl) rfl ty39 rfl rfl | exact R_load_vw rfl (.no rfl) rfl (.tmp rfl fun _ => rfl) ty39 rfl rfl | exact R_load_pr rfl (.no rfl) rfl (.tmp rfl fun _ => rfl) rfl (by first | assumption | exact map_get (by assumption)) ty39 rfl rfl)) rfl ?_
      refine AWl.put ((by first | exact R_load rfl (.no rfl) rfl (.tmp rfl fun _ => rfl) ty39 rfl rfl | exact R_load_pp rfl (.no rfl) rfl (.tmp rfl fun _ => rfl) rfl ty39 rfl rfl | exact R_load_vw rfl (.no rfl) rfl (.tmp rfl fun _ => rfl) ty39 rfl rfl | exact R_load_pr rfl (.no rfl) rfl (.tmp rfl fun _ => rfl) rfl (by first | assumption | exact map_get (by assumption)) ty39 rfl rfl)) rfl ?_
      refine AWl.put (R_callz (FnT.fr (HeqDelta _)) rfl (.no rfl) rfl (.cons (.tmp rfl fun _ => rfl) rfl (.cons (.tmp rfl fun _ => rfl) rfl .nil))) rfl ?_
      refine AWl.put (R_not rfl (.no rfl) rfl (.tmp rfl fun _ => rfl)) rfl ?_
      refine AWl.put (R_move rfl (.no rfl) rfl (.tmp rfl fun _ => rfl)) rfl ?_
      refine AWl.put (R_move rfl (by first | exact .not1 rfl rfl rfl rfl | exact .not rfl rfl rfl rfl) rfl (.tmp rfl (by first | exact fun _ => rfl | exact id | simp))) rfl ?_
      refine AWl.put (R_move rfl (by first | exact .not1 rfl rfl rfl rfl | exact .not rfl rfl rfl rfl) rfl (.tmp rfl (by first | exact fun _ => rfl | exact id | simp))) rfl ?_
      refine AWl.put (R_neb rfl (by first | exact .not1 rfl rfl rfl rfl | exact .not rfl rfl rfl rfl) rfl (.tmp rfl (by first | exact fun _ => rfl | exact id | simp)) (.tmp rfl (by first | exact fun _ => rfl | exact id | simp)) Try.underlying4) rfl ?_
      refine AWl.put (R_or rfl (.no rfl) rfl (.tmp rfl fun _ => rfl) (.tmp rfl (by first | exact fun _ => rfl | exact id | simp))) rfl ?_
      refine AWl.nil ?_
      refine AW.cond (.tmp rfl fun _ => rfl) (fun h53 => ?_) (fun h53 => ?_)
      · (exfalso; revert h53; simp; try omega)
      · skip
        try simp at h53
        refine AW.skip ?_
        refine AW.seq ?_
        refine AW.seq ?_
        -- region 14
        refine AW.drawn 5 (nthB [[], [], [1], [0, 1, 2], [0, 1, 2, 3]]) (by kernel_rfl) (by kernel_rfl) (by kernel_rfl) ?_
        refine DrawC.step rfl rfl rfl (Loc.of rfl fun σ' hs => (by first | exact R_load rfl (.no rfl) (hd_sup hs rfl) (.tmp (hs.slots _ _ rfl) fun _ => rfl) ty39 rfl rfl | exact R_load_pp rfl (.no rfl) (hd_sup hs rfl) (.tmp (hs.slots _ _ rfl) fun _ => rfl) (hs.res _ _ rfl) ty39 rfl rfl | exact R_load_vw rfl (.no rfl) (hd_sup hs rfl) (.tmp (hs.slots _ _ rfl) fun _ => rfl) ty39 rfl rfl | exact R_load_pr rfl (.no rfl) (hd_sup hs rfl) (.tmp (hs.slots _ _ rfl) fun _ => rfl) (hs.res _ _ rfl) (by first | assumption | exact map_get (by assumption)) ty39 rfl rfl)) ?_
        refine DrawC.step rfl rfl rfl (Loc.of rfl fun σ' hs => (by first | exact R_load rfl (.no rfl) (hd_sup hs rfl) (.tmp (hs.slots _ _ rfl) fun _ => rfl) ty58 rfl rfl | exact R_load_pp rfl (.no rfl) (hd_sup hs rfl) (.tmp (hs.slots _ _ rfl) fun _ => rfl) (hs.res _ _ rfl) ty58 rfl rfl | exact R_load_vw rfl (.no rfl) (hd_sup hs rfl) (.tmp (hs.slots _ _ rfl) fun _ => rfl) ty58 rfl rfl | exact R_load_pr rfl (.no rfl) (hd_sup hs rfl) (.tmp (hs.slots _ _ rfl) fun _ => rfl) (hs.res _ _ rfl) (by first | assumption | exact map_get (by assumption)) ty58 rfl rfl)) ?_
        refine DrawC.step rfl rfl rfl (Loc.ofs rfl fun σ' hs hf => R_call 5600 (HtoDelta _ (by first | exact hz0 | exact hz1)) rfl rfl (hd_sup hs rfl) (.cons (.tmp (hs.slots _ _ rfl) fun _ => rfl) (readA_sup hs rfl) .nil) rfl (all_fresh hf)) ?_
        refine DrawC.step rfl rfl rfl (Loc.of rfl fun σ' hs => R_callz (FnT.fr (HeqDelta _)) rfl (.no rfl) (hd_sup hs rfl) (.cons (.tmp (hs.slots _ _ rfl) fun _ => rfl) (readA_sup hs rfl) (.cons (.tmp (hs.slots _ _ rfl) fun _ => rfl) (readA_sup hs rfl) .nil))) ?_
        refine DrawC.step rfl rfl rfl (Loc.of rfl fun σ' hs => R_not rfl (.no rfl) (hd_sup hs rfl) (.tmp (hs.slots _ _ rfl) fun _ => rfl)) ?_
        refine DrawC.fin rfl rfl ?_
        refine AWl.nil ?_
        refine AW.cond (.tmp rfl fun _ => rfl) (fun h58 => ?_) (fun h58 => ?_)
        · (exfalso; revert h58; simp; try omega)
        · skip
          try simp at h58
          refine AW.skip ?_
          refine AW.seq ?_
          refine AW.seq ?_
          -- region 16
          refine AW.drawn 5 (nthB [[], [], [1], [0, 1, 2], [0, 1, 2, 3]]) (by kernel_rfl) (by kernel_rfl) (by kernel_rfl) ?_
          refine DrawC.step rfl rfl rfl (Loc.of rfl fun σ' hs => (by first | exact R_load rfl (.no rfl) (hd_sup hs rfl) (.tmp (hs.slots _ _ rfl) fun _ => rfl) ty39 rfl rfl | exact R_load_pp rfl (.no rfl) (hd_sup hs rfl) (.tmp (hs.slots _ _ rfl) fun _ => rfl) (hs.res _ _ rfl) ty39 rfl rfl | exact R_load_vw rfl (.no rfl) (hd_sup hs rfl) (.tmp (hs.slots _ _ rfl) fun _ => rfl) ty39 rfl rfl | exact R_load_pr rfl (.no rfl) (hd_sup hs rfl) (.tmp (hs.slots _ _ rfl) fun _ => rfl) (hs.res _ _ rfl) (by first | assumption | exact map_get (by assumption)) ty39 rfl rfl)) ?_
          refine DrawC.step rfl rfl rfl (Loc.of rfl fun σ' hs => (by first | exact R_load rfl (.no rfl) (hd_sup hs rfl) (.tmp (hs.slots _ _ rfl) fun _ => rfl) ty58 rfl rfl | exact R_load_pp rfl (.no rfl) (hd_sup hs rfl) (.tmp (hs.slots _ _ rfl) fun _ => rfl) (hs.res _ _ rfl) ty58 rfl rfl | exact R_load_vw rfl (.no rfl) (hd_sup hs rfl) (.tmp (hs.slots _ _ rfl) fun _ => rfl) ty58 rfl rfl | exact R_load_pr rfl (.no rfl) (hd_sup hs rfl) (.tmp (hs.slots _ _ rfl) fun _ => rfl) (hs.res _ _ rfl) (by first | assumption | exact map_get (by assumption)) ty58 rfl rfl)) ?_
          refine DrawC.step rfl rfl rfl (Loc.ofs rfl fun σ' hs hf => R_call 6100 (HtoDelta _ (by first | exact hz0 | exact hz1)) rfl rfl (hd_sup hs rfl) (.cons (.tmp (hs.slots _ _ rfl) fun _ => rfl) (readA_sup hs rfl) .nil) rfl (all_fresh hf)) ?_
          refine DrawC.step rfl rfl rfl (Loc.of rfl fun σ' hs => R_callz (FnT.fr (HeqDelta _)) rfl (.no rfl) (hd_sup hs rfl) (.cons (.tmp (hs.slots _ _ rfl) fun _ => rfl) (readA_sup hs rfl) (.cons (.tmp (hs.slots _ _ rfl) fun _ => rfl) (readA_sup hs rfl) .nil))) ?_
          refine DrawC.step rfl rfl rfl (Loc.of rfl fun σ' hs => R_not rfl (.no rfl) (hd_sup hs rfl) (.tmp (hs.slots _ _ rfl) fun _ => rfl)) ?_
          refine DrawC.fin rfl rfl ?_
          refine AWl.nil ?_
          refine AW.cond (.tmp rfl fun _ => rfl) (fun h63 => ?_) (fun h63 => ?_)
          · (exfalso; revert h63; simp; try omega)
          · skip
            try simp at h63
            refine AW.skip ?_
            refine AW.seq ?_
            -- region 18
            refine AW.region ?_
            refine AWl.put (R_assign rfl (.no rfl) rfl (.const rfl)) rfl ?_
            refine AWl.nil ?_
            refine AW.seq ?_
            -- region 19
            refine AW.region ?_
            refine AWl.put ((by first | exact R_load rfl (.no rfl) rfl (.tmp rfl fun _ => rfl) ty39 rfl rfl | exact R_load_pp rfl (.no rfl) rfl (.tmp rfl fun _ => rfl) rfl ty39 rfl rfl | exact R_load_vw rfl (.no rfl) rfl (.tmp rfl fun _ => rfl) ty39 rfl rfl | exact R_load_pr rfl (.no rfl) rfl (.tmp rfl fun _ => rfl) rfl (by first | assumption | exact map_get (by assumption)) ty39 rfl rfl)) rfl ?_
            refine AWl.put (R_move rfl (.no rfl) rfl (.tmp rfl fun _ => rfl)) rfl ?_
            refine AWl.marks (R_markc rfl rfl rfl (.tmp rfl fun _ => rfl) (.tmp rfl fun _ => rfl) (MmarkDelta _ _ (by omega)) (.rf rfl rfl (.rf rfl rfl .nil)) rfl rfl) rfl ?_
            refine AWl.put (R_assign rfl (.no rfl) rfl (.tmp rfl fun _ => rfl)) rfl ?_
            refine AWl.nil ?_
            refine AW.seq ?_
            -- region 20
            refine AW.region ?_
            refine AWl.put ((by first | exact R_load rfl (.no rfl) rfl (.tmp rfl fun _ => rfl) ty39 rfl rfl | exact R_load_pp rfl (.no rfl) rfl (.tmp rfl fun _ => rfl) rfl ty39 rfl rfl | exact R_load_vw rfl (.no rfl) rfl (.tmp rfl fun _ => rfl) ty39 rfl rfl | exact R_load_pr rfl (.no rfl) rfl (.tmp rfl fun _ => rfl) rfl (by first | assumption | exact map_get (by assumption)) ty39 rfl rfl)) rfl ?_
            refine AWl.put (R_move rfl (.no rfl) rfl (.tmp rfl fun _ => rfl)) rfl ?_
            refine AWl.marks (R_markc rfl rfl rfl (.tmp rfl fun _ => rfl) (.tmp rfl fun _ => rfl) (MmarkDelta _ _ (by omega)) (.rf rfl rfl (.rf rfl rfl .nil)) rfl rfl) rfl ?_
            refine AWl.put (R_assign rfl (.no rfl) rfl (.tmp rfl fun _ => rfl)) rfl ?_
            refine AWl.nil ?_
            refine AW.seq ?_
            refine AW.seq ?_
            -- region 21
            refine AW.region ?_
            refine AWl.put (R_move rfl (.no rfl) rfl (.tmp rfl fun _ => rfl)) rfl ?_
            refine AWl.put (R_lt rfl (.no rfl) rfl (.tmp rfl fun _ => rfl) (.const rfl)) rfl ?_
            refine AWl.put (R_move rfl (.no rfl) rfl (.tmp rfl fun _ => rfl)) rfl ?_
            refine AWl.put ((by first | exact R_load rfl (by first | exact .not1 rfl rfl rfl rfl | exact .not rfl rfl rfl rfl) rfl (.tmp rfl (by first | exact fun _ => rfl | exact id | simp)) ty39 rfl rfl | exact R_load_pp rfl (by first | exact .not1 rfl rfl rfl rfl | exact .not rfl rfl rfl rfl) rfl (.tmp rfl (by first | exact fun _ => rfl | exact id | simp)) rfl ty39 rfl rfl | exact R_load_vw rfl (by first | exact .not1 rfl rfl rfl rfl | exact .not rfl rfl rfl rfl) rfl (.tmp rfl (by first | exact fun _ => rfl | exact id | simp)) ty39 rfl rfl | exact R_load_pr rfl (by first | exact .not1 rfl rfl rfl rfl | exact .not rfl rfl rfl rfl) rfl (.tmp rfl (by first | exact fun _ => rfl | exact id | simp)) rfl (by first | assumption | exact map_get (by assumption)) ty39 rfl rfl)) rfl ?_
            refine AWl.put ((by first | exact R_load rfl (by first | exact .not1 rfl rfl rfl rfl | exact .not rfl rfl rfl rfl) rfl (.tmp rfl (by first | exact fun _ => rfl | exact id | simp)) ty39 rfl rfl | exact R_load_pp rfl (by first | exact .not1 rfl rfl rfl rfl | exact .not rfl rfl rfl rfl) rfl (.tmp rfl (by first | exact fun _ => rfl | exact id | simp)) rfl ty39 rfl rfl | exact R_load_vw rfl (by first | exact .not1 rfl rfl rfl rfl | exact .not rfl rfl rfl rfl) rfl (.tmp rfl (by first | exact fun _ => rfl | exact id | simp)) ty39 rfl rfl | exact R_load_pr rfl (by first | exact .not1 rfl rfl rfl rfl | exact .not rfl rfl rfl rfl) rfl (.tmp rfl (by first | exact fun _ => rfl | exact id | simp)) rfl (by first | assumption | exact map_get (by assumption)) ty39 rfl rfl)) rfl ?_
            refine AWl.put (R_callz (FnT.fr (HeqDelta _)) rfl (by first | exact .not1 rfl rfl rfl rfl | exact .not rfl rfl rfl rfl) rfl (.cons (.tmp rfl (by first | exact fun _ => rfl | exact id | simp)) rfl (.cons (.tmp rfl (by first | exact fun _ => rfl | exact id | simp)) rfl .nil))) rfl ?_
            refine AWl.put (R_not rfl (by first | exact .not1 rfl rfl rfl rfl | exact .not rfl rfl rfl rfl) rfl (.tmp rfl (by first | exact fun _ => rfl | exact id | simp))) rfl ?_
            refine AWl.put (R_or rfl (.no rfl) rfl (.tmp rfl fun _ => rfl) (.tmp rfl (by first | exact fun _ => rfl | exact id | simp))) rfl ?_
            refine AWl.put (R_move rfl (.no rfl) rfl (.tmp rfl fun _ => rfl)) rfl ?_
            refine AWl.put (R_move rfl (by first | exact .not1 rfl rfl rfl rfl | exact .not rfl rfl rfl rfl) rfl (.tmp rfl (by first | exact fun _ => rfl | exact id | simp))) rfl ?_
            refine AWl.put (R_move rfl (by first | exact .not1 rfl rfl rfl rfl | exact .not rfl rfl rfl rfl) rfl (.tmp rfl (by first | exact fun _ => rfl | exact id | simp))) rfl ?_
            refine AWl.put (R_neb rfl (by first | exact .not1 rfl rfl rfl rfl | exact .not rfl rfl rfl rfl) rfl (.tmp rfl (by first | exact fun _ => rfl | exact id | simp)) (.tmp rfl (by first | exact fun _ => rfl | exact id | simp)) Try.underlying4) rfl ?_
            refine AWl.put (R_or rfl (.no rfl) rfl (.tmp rfl fun _ => rfl) (.tmp rfl (by first | exact fun _ => rfl | exact id | simp))) rfl ?_
            refine AWl.nil ?_
            refine AW.cond (.tmp rfl fun _ => rfl) (fun h82 => ?_) (fun h82 => ?_)
            · (exfalso; revert h82; simp; try omega)
            · skip
              try simp at h82
              refine AW.skip ?_
              refine AW.seq ?_
              -- region 23
              refine AW.region ?_
              refine AWl.put (R_assign rfl (.no rfl) rfl (.const rfl)) rfl ?_
              refine AWl.nil ?_
              refine AW.seq ?_
              -- region 24
              refine AW.region ?_
              refine AWl.put ((by first | exact R_load rfl (.no rfl) rfl (.tmp rfl fun _ => rfl) ty39 rfl rfl | exact R_load_pp rfl (.no rfl) rfl (.tmp rfl fun _ => rfl) rfl ty39 rfl rfl | exact R_load_vw rfl (.no rfl) rfl (.tmp rfl fun _ => rfl) ty39 rfl rfl | exact R_load_pr rfl (.no rfl) rfl (.tmp rfl fun _ => rfl) rfl (by first | assumption | exact map_get (by assumption)) ty39 rfl rfl)) rfl ?_
              refine AWl.put (R_move rfl (.no rfl) rfl (.tmp rfl fun _ => rfl)) rfl ?_
              refine AWl.marks (R_markc rfl rfl rfl (.tmp rfl fun _ => rfl) (.tmp rfl fun _ => rfl) (MmarkDelta _ _ (by omega)) (.rf rfl rfl (.rf rfl rfl .nil)) rfl rfl) rfl ?_
              refine AWl.put (R_assign rfl (.no rfl) rfl (.tmp rfl fun _ => rfl)) rfl ?_
              refine AWl.nil ?_
              refine AW.seq ?_
              -- region 25
              refine AW.region ?_
              refine AWl.put (R_assign rfl (.no rfl) rfl (.const rfl)) rfl ?_
              refine AWl.nil ?_
              refine AW.seq ?_
              -- region 26
              refine AW.region ?_
              refine AWl.put ((by first | exact R_load rfl (.no rfl) rfl (.tmp rfl fun _ => rfl) ty39 rfl rfl | exact R_load_pp rfl (.no rfl) rfl (.tmp rfl fun _ => rfl) rfl ty39 rfl rfl | exact R_load_vw rfl (.no rfl) rfl (.tmp rfl fun _ => rfl) ty39 rfl rfl | exact R_load_pr rfl (.no rfl) rfl (.tmp rfl fun _ => rfl) rfl (by first | assumption | exact map_get (by assumption)) ty39 rfl rfl)) rfl ?_
              refine AWl.put (R_move rfl (.no rfl) rfl (.tmp rfl fun _ => rfl)) rfl ?_
              refine AWl.put (R_callz (FnT.fr (MheldDelta _ _ (by omega))) rfl (.no rfl) rfl (.cons (.tmp rfl fun _ => rfl) rfl (.cons (.tmp rfl fun _ => rfl) rfl .nil))) rfl ?_
              refine AWl.put (R_assign rfl (.no rfl) rfl (.tmp rfl fun _ => rfl)) rfl ?_
              refine AWl.nil ?_
              refine AW.seq ?_
              refine AW.seq ?_
              -- region 27
              refine AW.region ?_
              refine AWl.put (R_move rfl (.no rfl) rfl (.tmp rfl fun _ => rfl)) rfl ?_
              refine AWl.put (R_lt rfl (.no rfl) rfl (.tmp rfl fun _ => rfl) (.const rfl)) rfl ?_
              refine AWl.nil ?_
              refine AW.cond (.tmp rfl fun _ => rfl) (fun h90 => ?_) (fun h90 => ?_)
              · (exfalso; revert h90; simp; try omega)
              · skip
                try simp at h90
                refine AW.skip ?_
                refine AW.seq ?_
                refine AW.seq ?_
                -- region 29
                refine AW.region ?_
                refine AWl.put (R_move rfl (.no rfl) rfl (.tmp rfl fun _ => rfl)) rfl ?_
                refine AWl.put (R_move rfl (.no rfl) rfl (.tmp rfl fun _ => rfl)) rfl ?_
                refine AWl.put (R_ne rfl (.no rfl) rfl (.tmp rfl fun _ => rfl) (.tmp rfl fun _ => rfl)) rfl ?_
                refine AWl.nil ?_
                refine AW.cond (.tmp rfl fun _ => rfl) (fun h93 => ?_) (fun h93 => ?_)
                · (exfalso; revert h93; simp; try omega)
                · skip
                  try simp at h93
                  refine AW.skip ?_
                  refine AW.seq ?_
                  -- region 31
                  refine AW.drawnS 9 7 (nthB [[], [0], [], [0, 1, 2], [0, 1, 2, 3], [0, 1, 2, 3, 4], [0, 1, 2, 3, 4, 5], [0, 1, 2, 3, 4, 5], [], [0, 1, 2, 3, 4, 5, 6, 8]]) (by kernel_rfl) (by kernel_rfl) (by kernel_rfl) (by kernel_rfl) rfl ?_
                  refine DrawG.step rfl rfl (Loc.of rfl fun σ' hs => (by first | exact R_load rfl (.no rfl) (hd_sup hs rfl) (.tmp (hs.slots _ _ rfl) fun _ => rfl) ty58 rfl rfl | exact R_load_pp rfl (.no rfl) (hd_sup hs rfl) (.tmp (hs.slots _ _ rfl) fun _ => rfl) (hs.res _ _ rfl) ty58 rfl rfl | exact R_load_vw rfl (.no rfl) (hd_sup hs rfl) (.tmp (hs.slots _ _ rfl) fun _ => rfl) ty58 rfl rfl | exact R_load_pr rfl (.no rfl) (hd_sup hs rfl) (.tmp (hs.slots _ _ rfl) fun _ => rfl) (hs.res _ _ rfl) (by first | assumption | exact map_get (by assumption)) ty58 rfl rfl)) ?_
                  refine DrawG.step rfl rfl (Loc.ofs rfl fun σ' hs hf => R_call 9600 (HtoDelta _ (by first | exact hz0 | exact hz1)) rfl rfl (hd_sup hs rfl) (.cons (.tmp (hs.slots _ _ rfl) fun _ => rfl) (readA_sup hs rfl) .nil) rfl (all_fresh hf)) ?_
                  refine DrawG.step rfl rfl (Loc.of rfl fun σ' hs => (by first | exact R_load rfl (.no rfl) (hd_sup hs rfl) (.tmp (hs.slots _ _ rfl) fun _ => rfl) ty58 rfl rfl | exact R_load_pp rfl (.no rfl) (hd_sup hs rfl) (.tmp (hs.slots _ _ rfl) fun _ => rfl) (hs.res _ _ rfl) ty58 rfl rfl | exact R_load_vw rfl (.no rfl) (hd_sup hs rfl) (.tmp (hs.slots _ _ rfl) fun _ => rfl) ty58 rfl rfl | exact R_load_pr rfl (.no rfl) (hd_sup hs rfl) (.tmp (hs.slots _ _ rfl) fun _ => rfl) (hs.res _ _ rfl) (by first | assumption | exact map_get (by assumption)) ty58 rfl rfl)) ?_
                  refine DrawG.step rfl rfl (Loc.ofs rfl fun σ' hs hf => R_call 9800 (HtoDelta _ (by first | exact hz0 | exact hz1)) rfl rfl (hd_sup hs rfl) (.cons (.tmp (hs.slots _ _ rfl) fun _ => rfl) (readA_sup hs rfl) .nil) rfl (all_fresh hf)) ?_
                  refine DrawG.step rfl rfl (Loc.ofs rfl fun σ' hs hf => R_call 9900 (implComposeDeltas _ _ (by exact hz0.1) (by exact hz0.2.1) (by exact hz1.1) (by exact hz1.2.1)) rfl rfl (hd_sup hs rfl) (.cons (.tmp (hs.slots _ _ rfl) fun _ => rfl) (readA_sup hs rfl) (.cons (.tmp (hs.slots _ _ rfl) fun _ => rfl) (readA_sup hs rfl) .nil)) rfl (all_fresh hf)) ?_
                  refine DrawG.step rfl rfl (Loc.of rfl fun σ' hs => R_movet rfl (.no rfl) (hd_sup hs rfl) (hs.slots _ _ rfl) fun _ => rfl) ?_
                  refine DrawG.step rfl rfl (Loc.of rfl fun σ' hs => R_extract rfl (.no rfl) (hd_sup hs rfl) (hs.slots _ _ rfl) (fun _ => rfl) rfl) ?_
                  refine DrawG.step rfl rfl (Loc.of rfl fun σ' hs => R_extract rfl (.no rfl) (hd_sup hs rfl) (hs.slots _ _ rfl) (fun _ => rfl) rfl) ?_
                  refine DrawG.step rfl rfl (Loc.of1 rfl fun σ' hs hf => R_alloc 15 rfl rfl (hd_sup hs rfl) in39 rfl rfl hf) ?_
                  refine DrawG.fin rfl (FinS.mk ⟨_, [(0, _), (1, _), (2, _), (3, _), (4, _), (5, _), (6, _), (7, _), (8, _), (9, _), (10, _), (11, _), (12, _), (13, _), (14, _), (15, _), (21, _), (26, _), (53, _), (58, _), (63, _), (82, _), (90, _), (93, _), (101, _)], [(2900, _), (2901, _), (3100, _), (3101, _), (6, _), (3600, _), (3601, _), (8, _), (3800, _), (3801, _), (9, _), (4200, _), (4201, _), (10, _), (5600, _), (5601, _), (6100, _), (6101, _), (9600, _), (9601, _), (9800, _), (9801, _), (9900, _), (9901, _), (15, _)]⟩ rfl rfl rfl rfl (R_store_pb rfl rfl rfl (.tmp rfl fun _ => rfl) (.tmp rfl fun _ => rfl) rfl ty39 rfl rfl rfl (by kernel_rfl) rfl) (R_store_pb rfl rfl rfl (.tmp rfl fun _ => rfl) (.tmp rfl fun _ => rfl) rfl ty39 rfl rfl rfl (by kernel_rfl) rfl) (R_extract rfl (.no rfl) rfl rfl (fun _ => rfl) rfl) (Sup.sub0 rfl ⟨rfl, rfl, rfl, rfl, rfl, rfl, rfl, rfl, rfl, rfl, rfl, rfl, rfl, rfl, rfl, rfl, rfl, rfl, rfl, rfl, rfl, rfl, rfl, rfl, rfl, trivial⟩ ⟨rfl, rfl, rfl, rfl, rfl, rfl, rfl, rfl, rfl, rfl, rfl, rfl, rfl, rfl, rfl, rfl, rfl, rfl, rfl, rfl, rfl, rfl, rfl, rfl, rfl, trivial⟩) (Sup.sub0 rfl ⟨rfl, rfl, rfl, rfl, rfl, rfl, rfl, rfl, rfl, rfl, rfl, rfl, rfl, rfl, rfl, rfl, rfl, rfl, rfl, rfl, rfl, rfl, rfl, rfl, rfl, trivial⟩ ⟨rfl, rfl, rfl, rfl, rfl, rfl, rfl, rfl, rfl, rfl, rfl, rfl, rfl, rfl, rfl, rfl, rfl, rfl, rfl, rfl, rfl, rfl, rfl, rfl, rfl, trivial⟩) ?_)
                  refine AWl.put (R_assign rfl (.no rfl) rfl (.tmp rfl fun _ => rfl)) rfl ?_
                  refine AWl.nil ?_
                  refine AW.seq ?_
                  refine AW.seq ?_
                  -- region 32
                  refine AW.region ?_
                  refine AWl.put ((by first | exact R_load rfl (.no rfl) rfl (.tmp rfl fun _ => rfl) ty39 rfl rfl | exact R_load_pp rfl (.no rfl) rfl (.tmp rfl fun _ => rfl) rfl ty39 rfl rfl | exact R_load_vw rfl (.no rfl) rfl (.tmp rfl fun _ => rfl) ty39 rfl rfl | exact R_load_pr rfl (.no rfl) rfl (.tmp rfl fun _ => rfl) rfl (by first | assumption | exact map_get (by assumption)) ty39 rfl rfl)) rfl ?_
                  refine AWl.put ((by first | exact R_load rfl (.no rfl) rfl (.tmp rfl fun _ => rfl) ty39 rfl rfl | exact R_load_pp rfl (.no rfl) rfl (.tmp rfl fun _ => rfl) rfl ty39 rfl rfl | exact R_load_vw rfl (.no rfl) rfl (.tmp rfl fun _ => rfl) ty39 rfl rfl | exact R_load_pr rfl (.no rfl) rfl (.tmp rfl fun _ => rfl) rfl (by first | assumption | exact map_get (by assumption)) ty39 rfl rfl)) rfl ?_
                  refine AWl.put (R_callz (FnT.fr (HeqDelta _)) rfl (.no rfl) rfl (.cons (.tmp rfl fun _ => rfl) rfl (.cons (.tmp rfl fun _ => rfl) rfl .nil))) rfl ?_
                  refine AWl.put (R_not rfl (.no rfl) rfl (.tmp rfl fun _ => rfl)) rfl ?_
                  refine AWl.put (R_move rfl (.no rfl) rfl (.tmp rfl fun _ => rfl)) rfl ?_
                  refine AWl.put (R_move rfl (by first | exact .not1 rfl rfl rfl rfl | exact .not rfl rfl rfl rfl) rfl (.tmp rfl (by first | exact fun _ => rfl | exact id | simp))) rfl ?_
                  refine AWl.put (R_move rfl (by first | exact .not1 rfl rfl rfl rfl | exact .not rfl rfl rfl rfl) rfl (.tmp rfl (by first | exact fun _ => rfl | exact id | simp))) rfl ?_
                  refine AWl.put (R_neb rfl (by first | exact .not1 rfl rfl rfl rfl | exact .not rfl rfl rfl rfl) rfl (.tmp rfl (by first | exact fun _ => rfl | exact id | simp)) (.tmp rfl (by first | exact fun _ => rfl | exact id | simp)) Try.underlying4) rfl ?_
                  refine AWl.put (R_or rfl (.no rfl) rfl (.tmp rfl fun _ => rfl) (.tmp rfl (by first | exact fun _ => rfl | exact id | simp))) rfl ?_
                  refine AWl.nil ?_
                  refine AW.cond (.tmp rfl fun _ => rfl) (fun h110 => ?_) (fun h110 => ?_)
                  · (exfalso; revert h110; simp; try omega)
                  · skip
                    try simp at h110
                    refine AW.skip ?_
                    refine AW.seq ?_
                    -- region 34
                    refine AW.region ?_
                    refine AWl.put (R_assign rfl (.no rfl) rfl (.const rfl)) rfl ?_
                    refine AWl.nil ?_
                    refine AW.seq ?_
                    -- region 35
                    refine AW.region ?_
                    refine AWl.put ((by first | exact R_load rfl (.no rfl) rfl (.tmp rfl fun _ => rfl) ty39 rfl rfl | exact R_load_pp rfl (.no rfl) rfl (.tmp rfl fun _ => rfl) rfl ty39 rfl rfl | exact R_load_vw rfl (.no rfl) rfl (.tmp rfl fun _ => rfl) ty39 rfl rfl | exact R_load_pr rfl (.no rfl) rfl (.tmp rfl fun _ => rfl) rfl (by first | assumption | exact map_get (by assumption)) ty39 rfl rfl)) rfl ?_
                    refine AWl.put (R_move rfl (.no rfl) rfl (.tmp rfl fun _ => rfl)) rfl ?_
                    refine AWl.put (R_callz (FnT.fr (MheldDelta _ _ (by omega))) rfl (.no rfl) rfl (.cons (.tmp rfl fun _ => rfl) rfl (.cons (.tmp rfl fun _ => rfl) rfl .nil))) rfl ?_
                    refine AWl.put (R_assign rfl (.no rfl) rfl (.tmp rfl fun _ => rfl)) rfl ?_
                    refine AWl.nil ?_
                    refine AW.seq ?_
                    refine AW.seq ?_
                    -- region 36
                    refine AW.region ?_
                    refine AWl.put (R_move rfl (.no rfl) rfl (.tmp rfl fun _ => rfl)) rfl ?_
                    refine AWl.put (R_lt rfl (.no rfl) rfl (.tmp rfl fun _ => rfl) (.const rfl)) rfl ?_
                    refine AWl.nil ?_
                    refine AW.cond (.tmp rfl fun _ => rfl) (fun h115 => ?_) (fun h115 => ?_)
                    · (exfalso; revert h115; simp; try omega)
                    · skip
                      try simp at h115
                      refine AW.skip ?_
                      refine AW.seq ?_
                      refine AW.seq ?_
                      -- region 38
                      refine AW.region ?_
                      refine AWl.put (R_move rfl (.no rfl) rfl (.tmp rfl fun _ => rfl)) rfl ?_
                      refine AWl.put (R_move rfl (.no rfl) rfl (.tmp rfl fun _ => rfl)) rfl ?_
                      refine AWl.put (R_ne rfl (.no rfl) rfl (.tmp rfl fun _ => rfl) (.tmp rfl fun _ => rfl)) rfl ?_
                      refine AWl.nil ?_
                      refine AW.cond (.tmp rfl fun _ => rfl) (fun h118 => ?_) (fun h118 => ?_)
                      · (exfalso; revert h118; simp; try omega)
                      · skip
                        try simp at h118
                        refine AW.skip ?_
                        refine AW.seq ?_
                        -- region 40
                        refine AW.region ?_
                        refine AWl.put (R_assign rfl (.no rfl) rfl (.const rfl)) rfl ?_
                        refine AWl.nil ?_
                        refine AW.ret ?_
                        refine Res.v rfl rfl ?_
                        rfl
namespace LFnExactComposeDeltas
theorem opensInt : OpensT cInt Try.prog 3 := opensTInt Try.underlying3
set_option maxRecDepth 100000 in
theorem opensPair : OpensT cPair Try.prog 120 := by
  intro H enc w base spare held fuel cs x h
  obtain ⟨xs, n, _, _, hlen, hxl, hf⟩ := DataW.trod_struct Try.underlying120 h
  rw [show Try.prog.cellsOf 120 = 2 from by kernel_rfl] at hlen
  have kInt : Try.prog.cellsOf 3 = 1 := by kernel_rfl
  match cs, hlen, xs, hxl with
  | [c0, c1], _, [y0, y1], _ =>
    have g0 : DataW.trod enc Try.prog w base spare held n 3 [c0] = some y0 := by simpa [kInt] using hf 0 _ rfl
    obtain ⟨x0, F0, e0⟩ := opensInt g0
    have g1 : DataW.trod enc Try.prog w base spare held n 3 [c1] = some y1 := by simpa [kInt] using hf 1 _ rfl
    obtain ⟨x1, F1, e1⟩ := opensInt g1
    exact ⟨⟨x0, x1⟩, _, (e0.append e1)⟩
theorem opensPairS : OpensT cPairS Try.prog 35 := opensTSlice (c := cPair) Try.underlying35 (by kernel_rfl) (by decide) (fun _ => rfl) opensPair
set_option maxRecDepth 100000 in
theorem opensDelta : OpensT cDelta Try.prog 58 := by
  intro H enc w base spare held fuel cs x h
  obtain ⟨xs, n, _, _, hlen, hxl, hf⟩ := DataW.trod_struct Try.underlying58 h
  rw [show Try.prog.cellsOf 58 = 2 from by kernel_rfl] at hlen
  have kPairS : Try.prog.cellsOf 35 = 1 := by kernel_rfl
  match cs, hlen, xs, hxl with
  | [c0, c1], _, [y0, y1], _ =>
    have g0 : DataW.trod enc Try.prog w base spare held n 35 [c0] = some y0 := by simpa [kPairS] using hf 0 _ rfl
    obtain ⟨x0, F0, e0⟩ := opensPairS g0
    have g1 : DataW.trod enc Try.prog w base spare held n 35 [c1] = some y1 := by simpa [kPairS] using hf 1 _ rfl
    obtain ⟨x1, F1, e1⟩ := opensPairS g1
    exact ⟨⟨x0, x1⟩, _, (e0.append e1)⟩
theorem ownFnExactComposeDeltas : ownKnob Try.prog.godebug = none := by kernel_rfl
theorem laidOutFnExactComposeDeltas : laidOutB Try.prog = true := by kernel_rfl
set_option maxRecDepth 100000 in
theorem liftedFnExactComposeDeltas (os : Os) (started : os.Started) (H : Type) (enc : TypeId × Value → H) :
    ReturnsInHanded {} Try.checked os 7 .any (Rows.fnExactComposeDeltasSpec.pre6 enc Try.prog Try.f7 Rows.fnExactComposeDeltasRow.domain false) (Rows.fnExactComposeDeltasSpec.post enc Try.prog Try.f7 false true false false) := by
  refine returnsInHanded_of_change (C := Try.checked) ownFnExactComposeDeltas started (by kernel_rfl) Try.func7
    (ChangeSpec.witness6 (enc := enc) (C := Try.checked) false ⟨#[], #[.agg #[.slice none 0 0, .slice none 0 0], .agg #[.slice none 0 0, .slice none 0 0]], []⟩ 8 (by kernel_rfl) (by kernel_rfl) (by kernel_rfl) (by kernel_rfl)) ?_
  intro W base args ds gs before hval0 hW hcnd _
  have hval : ∀ (j : Nat) t v, Try.f7.params[j]? = some t → args[j]? = some v → Value.okWide Try.prog W .any base t v := hval0
  have hW' := hW
  obtain ⟨p, q, hA0, hV, rfl, hfz, hnd⟩ := hW
  have hA : DataW.TrodAll enc Try.prog W 0 (fun _ => true) true Try.f7.params.toList args.toList ds p := hA0
  rw [Try.params7] at hA hval
  obtain ⟨v0, vs0, d0, ds0, p0, q0, hargs, rfl, rfl, h0, r0⟩ := trodAll_cons hA
  obtain ⟨v1, vs1, d1, ds1, p1, q1, rfl, rfl, rfl, h1, r1⟩ := trodAll_cons r0
  obtain ⟨rfl, rfl, rfl⟩ := trodAll_nil r1
  obtain rfl : args = #[v0, v1] := by cases args; simp_all
  obtain ⟨rfl, rfl⟩ := trodVars_none hV
  obtain ⟨cs0, rfl, _⟩ := okWide_struct Try.underlying58 (hval 0 58 v0 rfl rfl)
  have k0 := h0
  have lt0 : ∀ x ∈ p0, x.block < W.heap.size := by obtain ⟨m, hm⟩ := k0; exact DataW.trod_lt m _ _ _ hm
  obtain ⟨x0, F0, hs0⟩ := OpensT.vl opensDelta h0
  obtain ⟨cs1, rfl, _⟩ := okWide_struct Try.underlying58 (hval 1 58 v1 rfl rfl)
  have k1 := h1
  have lt1 : ∀ x ∈ p1, x.block < W.heap.size := by obtain ⟨m, hm⟩ := k1; exact DataW.trod_lt m _ _ _ hm
  obtain ⟨x1, F1, hs1⟩ := OpensT.vl opensDelta h1
  clear hA0 hval0
  refine ((lawFnExactComposeDeltas x0 x1).2 W _ _ ⟨_, _, _, _, rfl, (show V0r false W (.agg (cDelta x0)) _ _ from ⟨cs0.toList, by simp, hs0⟩), ⟨_, _, _, _, rfl, (show V0r false W (.agg (cDelta x1)) _ _ from ⟨cs1.toList, by simp, hs1⟩), ⟨rfl, rfl⟩, rfl⟩, rfl⟩).mono fun e W' ⟨v, F, he, hv, _, _, bel⟩ => ?_
  have hv2 : v = .bool true := by unfold Vr V0r C at hv; exact hv.1
  subst hv2
  subst he
  exact ⟨_, rfl, _, _, _, [], _, [], hW', trodAll_mk1 (shut_bool Try.underlying4 _), (trodAll_cons_mk (Below.trod laidOutFnExactComposeDeltas (by kernel_rfl) (of_decide_eq_true (by kernel_rfl)) k0 bel lt0) (trodAll_cons_mk (Below.trod laidOutFnExactComposeDeltas (by kernel_rfl) (of_decide_eq_true (by kernel_rfl)) k1 bel lt1) trodAll_mk0)), rfl, Below.frame bel _, fun h => by cases h⟩
theorem jfa : (Rows.fnExactComposeDeltasRow.inPlace == Try.prog.inPlace 7) = true := by kernel_rfl
theorem jfb : (Rows.fnExactComposeDeltasRow.unfollowed == Try.prog.unfollowed 7) = true := by kernel_rfl
theorem jfc : (Rows.fnExactComposeDeltasRow.recurses == Try.prog.recurses 7) = true := by kernel_rfl
theorem jfd : (Rows.fnExactComposeDeltasRow.named == Try.prog.varsNamed 7) = true := by kernel_rfl
theorem jfe : mapsRowed Try.prog = true := by kernel_rfl
theorem jff : joinedFacts Try.prog 7 Try.f7 Rows.fnExactComposeDeltasSpec Rows.fnExactComposeDeltasRow = true := by
  unfold joinedFacts
  rw [laidOutFnExactComposeDeltas, jfa, jfb, jfc, jfd, jfe]
  kernel_rfl
set_option maxRecDepth 100000 in
/-- The statement. -/
theorem provedFnExactComposeDeltas : Rows.FnExactComposeDeltasSaid :=
  OpenClaim.holds_of_wide 7 Try.f7 rfl rfl rfl rfl rfl rfl rfl ⟨rfl, rfl, rfl, rfl, rfl⟩ rfl rfl rfl rfl rfl (by kernel_rfl) Try.func7 jff
    (of_decide_eq_true (by kernel_rfl)) (by unfold Func.isWrapper; first | (rw [if_pos (by decide +kernel)]; kernel_rfl) | (rw [if_neg (by decide +kernel)]; exact ⟨rfl, rfl⟩))
    (fun os started H enc _ => liftedFnExactComposeDeltas os started H enc)
#print axioms provedFnExactComposeDeltas
end LFnExactComposeDeltas
end Go.Proofs.Ytjmefmdeghggeaa
