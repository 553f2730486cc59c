/- FnExactApplyDelta: the law returns true for every input, and its arguments read as they did. No condition. -/
import Derived.Test.YtjmefmdeghggeaaRows
import Derived.Test.YtjmefmdeghggeaaHC
import Derived.Test.YtjmefmdeghggeaaHM
import Derived.Test.YtjmefmdeghggeaaOpenT
import Derived.Test.YtjmefmdeghggeaaB33
set_option linter.unusedVariables false
set_option linter.unusedSimpArgs false
namespace Go.Proofs.Ytjmefmdeghggeaa
open Go.RowKit Go.Q Go.D Go.ChangeShapes Go.WideShapes Go.ChangeAt Go.Deep
open Go.ChangeMaps (open_string shut_string)
set_option maxRecDepth 100000 in
set_option maxHeartbeats 1000000 in
theorem lawFnExactApplyDelta (aL : List TPair) (aD : TDelta) : FnT Try.prog 6 [.one (.sl 2 (aL.map cPair)), .agg (cDelta aD)] (.a (.one (.v (.bool true)))) := by
  refine FnT.walk Try.func6 rfl (by kernel_rfl) Try.ntmps6 rfl fun hlen w0 => ?_
  try simp [cPair, cToken, cExpr, cEdge, cGraph, cStep, cWalk, cChange, cBatch, cHistory, cPositions, cAutomaton, cProductStep, cPathAtom, cConjunction, cView, cDelta, cRegistered, cRegistry] at hlen
  clear hlen
  refine AW.seq ?_
  -- region 0
  refine AW.region ?_
  refine AWl.put (R_boxz rfl rfl rfl (.tmp rfl fun _ => rfl) (ts := _) (by first | rfl | exact cells_t1 _ | exact cells_t2 _)) rfl ?_
  refine AWl.put (R_assign rfl (.no rfl) rfl (.const rfl)) rfl ?_
  refine AWl.nil ?_
  refine AW.seq ?_
  -- region 1
  refine AW.region ?_
  refine AWl.put (R_assign rfl (.no rfl) rfl (.const rfl)) rfl ?_
  refine AWl.nil ?_
  refine AW.seq ?_
  -- region 2
  refine AW.region ?_
  refine AWl.put (R_move rfl (.no rfl) rfl (.tmp rfl fun _ => rfl)) rfl ?_
  refine AWl.put (R_move rfl (.no rfl) rfl (.tmp rfl fun _ => rfl)) rfl ?_
  refine AWl.put (R_callz (FnT.fr (HszPairS _ _ (by omega))) rfl (.no rfl) rfl (.cons (.tmp rfl fun _ => rfl) rfl (.cons (.tmp rfl fun _ => rfl) rfl .nil))) rfl ?_
  refine AWl.put (R_assign rfl (.no rfl) rfl (.tmp rfl fun _ => rfl)) rfl ?_
  refine AWl.nil ?_
  refine AW.seq ?_
  refine AW.seq ?_
  -- region 3
  refine AW.region ?_
  refine AWl.put (R_move rfl (.no rfl) rfl (.tmp rfl fun _ => rfl)) rfl ?_
  refine AWl.put (R_lt rfl (.no rfl) rfl (.tmp rfl fun _ => rfl) (.const rfl)) rfl ?_
  refine AWl.nil ?_
  refine AW.cond (.tmp rfl fun _ => rfl) (fun h21 => ?_) (fun h21 => ?_)
  · skip
    try simp at h21
    refine AW.seq ?_
    -- region 4
    refine AW.region ?_
    refine AWl.put (R_assign rfl (.no rfl) rfl (.const rfl)) rfl ?_
    refine AWl.nil ?_
    refine AW.ret ?_
    refine Res.v rfl rfl ?_
    rfl
  · skip
    try simp at h21
    have hb0 := szPairS_ok aL 1048576 (by omega) (by omega)
    have hz0 := hb0.2 (by omega)
    refine AW.skip ?_
    refine AW.seq ?_
    -- region 5
    refine AW.region ?_
    refine AWl.put ((by first | exact R_load rfl (.no rfl) rfl (.tmp rfl fun _ => rfl) ty58 rfl rfl | exact R_load_pp rfl (.no rfl) rfl (.tmp rfl fun _ => rfl) rfl ty58 rfl rfl | exact R_load_vw rfl (.no rfl) rfl (.tmp rfl fun _ => rfl) ty58 rfl rfl | exact R_load_pr rfl (.no rfl) rfl (.tmp rfl fun _ => rfl) rfl (by first | assumption | exact map_get (by assumption)) ty58 rfl rfl)) rfl ?_
    refine AWl.put (R_move rfl (.no rfl) rfl (.tmp rfl fun _ => rfl)) rfl ?_
    refine AWl.put (R_callz (FnT.fr (HszDelta _ _ (by omega))) rfl (.no rfl) rfl (.cons (.tmp rfl fun _ => rfl) rfl (.cons (.tmp rfl fun _ => rfl) rfl .nil))) rfl ?_
    refine AWl.put (R_assign rfl (.no rfl) rfl (.tmp rfl fun _ => rfl)) rfl ?_
    refine AWl.nil ?_
    refine AW.seq ?_
    refine AW.seq ?_
    -- region 6
    refine AW.region ?_
    refine AWl.put (R_move rfl (.no rfl) rfl (.tmp rfl fun _ => rfl)) rfl ?_
    refine AWl.put (R_lt rfl (.no rfl) rfl (.tmp rfl fun _ => rfl) (.const rfl)) rfl ?_
    refine AWl.nil ?_
    refine AW.cond (.tmp rfl fun _ => rfl) (fun h26 => ?_) (fun h26 => ?_)
    · skip
      try simp at h26
      refine AW.seq ?_
      -- region 7
      refine AW.region ?_
      refine AWl.put (R_assign rfl (.no rfl) rfl (.const rfl)) rfl ?_
      refine AWl.nil ?_
      refine AW.ret ?_
      refine Res.v rfl rfl ?_
      rfl
    · skip
      try simp at h26
      have hb1 := szDelta_ok aD (szPairS aL 1048576) (by omega) (by omega)
      have hz1 := hb1.2 (by omega)
      have hcn0 := cntPairS_nn aL
      have hco0 := cntPairS_ok (by first | exact (hz0 : okPairS aL) | exact (hz1 : okPairS aL))
      have hcn1 := cpDelta_nn aD
      have hco1 := cpDelta_ok (by first | exact (hz0 : okDelta aD) | exact (hz1 : okDelta aD))
      have hbd0 := applyD_cnt (l := aL) (d := aD) hz0 hz1.1
      have hbd1 := cntPairS_nn (applyD aL aD).1
      refine AW.skip ?_
      refine AW.seq ?_
      -- region 8
      refine AW.drawn 10 (nthB [[], [0], [], [0, 1, 2], [0, 1, 2, 3], [0, 1, 2, 3, 4], [0, 1, 2, 3, 4, 5], [0, 1, 2, 3, 4, 5], [0, 1, 2, 3, 4, 5, 6], [0, 1, 2, 3, 4, 5, 6, 7, 8]]) (by kernel_rfl) (by kernel_rfl) (by kernel_rfl) ?_
      refine DrawC.step rfl rfl rfl (Loc.of rfl fun σ' hs => R_move rfl (.no rfl) (hd_sup hs rfl) (.tmp (hs.slots _ _ rfl) fun _ => rfl)) ?_
      refine DrawC.step rfl rfl rfl (Loc.ofs rfl fun σ' hs hf => R_call 2900 (HtoPairS _ (by first | exact hz0 | exact hz1)) rfl rfl (hd_sup hs rfl) (.cons (.tmp (hs.slots _ _ rfl) fun _ => rfl) (readA_sup hs rfl) .nil) rfl (all_fresh hf)) ?_
      refine DrawC.step rfl rfl rfl (Loc.of rfl fun σ' hs => (by first | exact R_load rfl (.no rfl) (hd_sup hs rfl) (.tmp (hs.slots _ _ rfl) fun _ => rfl) ty58 rfl rfl | exact R_load_pp rfl (.no rfl) (hd_sup hs rfl) (.tmp (hs.slots _ _ rfl) fun _ => rfl) (hs.res _ _ rfl) ty58 rfl rfl | exact R_load_vw rfl (.no rfl) (hd_sup hs rfl) (.tmp (hs.slots _ _ rfl) fun _ => rfl) ty58 rfl rfl | exact R_load_pr rfl (.no rfl) (hd_sup hs rfl) (.tmp (hs.slots _ _ rfl) fun _ => rfl) (hs.res _ _ rfl) (by first | assumption | exact map_get (by assumption)) ty58 rfl rfl)) ?_
      refine DrawC.step rfl rfl rfl (Loc.ofs rfl fun σ' hs hf => R_call 3100 (HtoDelta _ (by first | exact hz0 | exact hz1)) rfl rfl (hd_sup hs rfl) (.cons (.tmp (hs.slots _ _ rfl) fun _ => rfl) (readA_sup hs rfl) .nil) rfl (all_fresh hf)) ?_
      refine DrawC.step rfl rfl rfl (Loc.of rfl fun σ' hs => R_callz (FnT.fr (specApplyDelta _ _ (by exact hz0) (by exact hz1.1) (by exact hz1.2.1))) rfl (.no rfl) (hd_sup hs rfl) (.cons (.tmp (hs.slots _ _ rfl) fun _ => rfl) (readA_sup hs rfl) (.cons (.tmp (hs.slots _ _ rfl) fun _ => rfl) (readA_sup hs rfl) .nil))) ?_
      refine DrawC.step rfl rfl rfl (Loc.of rfl fun σ' hs => R_movet rfl (.no rfl) (hd_sup hs rfl) (hs.slots _ _ rfl) fun _ => rfl) ?_
      refine DrawC.step rfl rfl rfl (Loc.of rfl fun σ' hs => R_extract rfl (.no rfl) (hd_sup hs rfl) (hs.slots _ _ rfl) (fun _ => rfl) rfl) ?_
      refine DrawC.step rfl rfl rfl (Loc.of rfl fun σ' hs => R_extract rfl (.no rfl) (hd_sup hs rfl) (hs.slots _ _ rfl) (fun _ => rfl) rfl) ?_
      refine DrawC.step rfl rfl rfl (Loc.of rfl fun σ' hs => R_assign rfl (.no rfl) (hd_sup hs rfl) (.tmp (hs.slots _ _ rfl) fun _ => rfl)) ?_
      refine DrawC.step rfl rfl rfl (Loc.of rfl fun σ' hs => R_assign rfl (.no rfl) (hd_sup hs rfl) (.tmp (hs.slots _ _ rfl) fun _ => rfl)) ?_
      refine DrawC.fin rfl rfl ?_
      refine AWl.nil ?_
      refine AW.seq ?_
      -- region 9
      refine AW.region ?_
      refine AWl.put (R_move rfl (.no rfl) rfl (.tmp rfl fun _ => rfl)) rfl ?_
      refine AWl.adds (R_call 3600 (HtoPairS _ (by first | exact hz0 | exact hz1)) rfl rfl rfl (.cons (.tmp rfl fun _ => rfl) rfl .nil) rfl rfl) rfl ?_
      refine AWl.put (R_assign rfl (.no rfl) rfl (.tmp rfl fun _ => rfl)) rfl ?_
      refine AWl.nil ?_
      refine AW.seq ?_
      -- region 10
      refine AW.region ?_
      refine AWl.put ((by first | exact R_load rfl (.no rfl) rfl (.tmp rfl fun _ => rfl) ty58 rfl rfl | exact R_load_pp rfl (.no rfl) rfl (.tmp rfl fun _ => rfl) rfl ty58 rfl rfl | exact R_load_vw rfl (.no rfl) rfl (.tmp rfl fun _ => rfl) ty58 rfl rfl | exact R_load_pr rfl (.no rfl) rfl (.tmp rfl fun _ => rfl) rfl (by first | assumption | exact map_get (by assumption)) ty58 rfl rfl)) rfl ?_
      refine AWl.adds (R_call 3800 (HtoDelta _ (by first | exact hz0 | exact hz1)) rfl rfl rfl (.cons (.tmp rfl fun _ => rfl) rfl .nil) rfl rfl) rfl ?_
      refine AWl.add (R_alloc 9 rfl rfl rfl in39 rfl rfl rfl) rfl ?_
      refine AWl.chgb (R_store_pb rfl rfl rfl (.tmp rfl fun _ => rfl) (.tmp rfl fun _ => rfl) rfl ty39 rfl rfl rfl (by kernel_rfl) rfl) ?_
      refine AWl.nil ?_
      refine AW.seq ?_
      -- region 11
      refine AW.region ?_
      refine AWl.put (R_move rfl (.no rfl) rfl (.tmp rfl fun _ => rfl)) rfl ?_
      refine AWl.put ((by first | exact R_load rfl (.no rfl) rfl (.tmp rfl fun _ => rfl) ty39 rfl rfl | exact R_load_pp rfl (.no rfl) rfl (.tmp rfl fun _ => rfl) rfl ty39 rfl rfl | exact R_load_vw rfl (.no rfl) rfl (.tmp rfl fun _ => rfl) ty39 rfl rfl | exact R_load_pr rfl (.no rfl) rfl (.tmp rfl fun _ => rfl) rfl (by first | assumption | exact map_get (by assumption)) ty39 rfl rfl)) rfl ?_
      refine AWl.adds (R_call 4200 (implApplyDelta _ _ (by exact hz0) (by exact hz1.1) (by exact hz1.2.1)) rfl rfl rfl (.cons (.tmp rfl fun _ => rfl) rfl (.cons (.tmp rfl fun _ => rfl) rfl .nil)) rfl rfl) rfl ?_
      refine AWl.put (R_movet rfl (.no rfl) rfl rfl fun _ => rfl) rfl ?_
      refine AWl.put (R_extract rfl (.no rfl) rfl rfl (fun _ => rfl) rfl) rfl ?_
      refine AWl.put (R_extract rfl (.no rfl) rfl rfl (fun _ => rfl) rfl) rfl ?_
      refine AWl.put (R_assign rfl (.no rfl) rfl (.tmp rfl fun _ => rfl)) rfl ?_
      refine AWl.put (R_assign rfl (.no rfl) rfl (.tmp rfl fun _ => rfl)) rfl ?_
      refine AWl.nil ?_
      refine AW.seq ?_
      refine AW.seq ?_
      -- region 12
      refine AW.region ?_
      refine AWl.put (R_move rfl (.no rfl) rfl (.tmp rfl fun _ => rfl)) rfl ?_
      refine AWl.put (R_move rfl (.no rfl) rfl (.tmp rfl fun _ => rfl)) rfl ?_
      refine AWl.put (R_callz (FnT.fr (HeqPairS _)) rfl (.no rfl) rfl (.cons (.tmp rfl fun _ => rfl) rfl (.cons (.tmp rfl fun _ => rfl) rfl .nil))) rfl ?_
      refine AWl.put (R_not rfl (.no rfl) rfl (.tmp rfl fun _ => rfl)) rfl ?_
      refine AWl.put (R_move rfl (.no rfl) rfl (.tmp rfl fun _ => rfl)) rfl ?_
      refine AWl.put (R_move rfl (by first | exact .not1 rfl rfl rfl rfl | exact .not rfl rfl rfl rfl) rfl (.tmp rfl (by first | exact fun _ => rfl | exact id | simp))) rfl ?_
      refine AWl.put (R_move rfl (by first | exact .not1 rfl rfl rfl rfl | exact .not rfl rfl rfl rfl) rfl (.tmp rfl (by first | exact fun _ => rfl | exact id | simp))) rfl ?_
      refine AWl.put (R_neb rfl (by first | exact .not1 rfl rfl rfl rfl | exact .not rfl rfl rfl rfl) rfl (.tmp rfl (by first | exact fun _ => rfl | exact id | simp)) (.tmp rfl (by first | exact fun _ => rfl | exact id | simp)) Try.underlying4) rfl ?_
      refine AWl.put (R_or rfl (.no rfl) rfl (.tmp rfl fun _ => rfl) (.tmp rfl (by first | exact fun _ => rfl | exact id | simp))) rfl ?_
      refine AWl.nil ?_
      refine AW.cond (.tmp rfl fun _ => rfl) (fun h53 => ?_) (fun h53 => ?_)
      · (exfalso; revert h53; simp; try omega)
      · skip
        try simp at h53
        refine AW.skip ?_
        refine AW.seq ?_
        refine AW.seq ?_
        -- region 14
        refine AW.region ?_
        refine AWl.put (R_move rfl (.no rfl) rfl (.tmp rfl fun _ => rfl)) rfl ?_
        refine AWl.put (R_move rfl (.no rfl) rfl (.tmp rfl fun _ => rfl)) rfl ?_
        refine AWl.adds (R_call 5600 (HtoPairS _ (by first | exact hz0 | exact hz1)) rfl rfl rfl (.cons (.tmp rfl fun _ => rfl) rfl .nil) rfl rfl) rfl ?_
        refine AWl.put (R_callz (FnT.fr (HeqPairS _)) rfl (.no rfl) rfl (.cons (.tmp rfl fun _ => rfl) rfl (.cons (.tmp rfl fun _ => rfl) rfl .nil))) rfl ?_
        refine AWl.put (R_not rfl (.no rfl) rfl (.tmp rfl fun _ => rfl)) rfl ?_
        refine AWl.nil ?_
        refine AW.cond (.tmp rfl fun _ => rfl) (fun h58 => ?_) (fun h58 => ?_)
        · (exfalso; revert h58; simp; try omega)
        · skip
          try simp at h58
          refine AW.skip ?_
          refine AW.seq ?_
          refine AW.seq ?_
          -- region 16
          refine AW.drawn 5 (nthB [[], [], [1], [0, 1, 2], [0, 1, 2, 3]]) (by kernel_rfl) (by kernel_rfl) (by kernel_rfl) ?_
          refine DrawC.step rfl rfl rfl (Loc.of rfl fun σ' hs => (by first | exact R_load rfl (.no rfl) (hd_sup hs rfl) (.tmp (hs.slots _ _ rfl) fun _ => rfl) ty39 rfl rfl | exact R_load_pp rfl (.no rfl) (hd_sup hs rfl) (.tmp (hs.slots _ _ rfl) fun _ => rfl) (hs.res _ _ rfl) ty39 rfl rfl | exact R_load_vw rfl (.no rfl) (hd_sup hs rfl) (.tmp (hs.slots _ _ rfl) fun _ => rfl) ty39 rfl rfl | exact R_load_pr rfl (.no rfl) (hd_sup hs rfl) (.tmp (hs.slots _ _ rfl) fun _ => rfl) (hs.res _ _ rfl) (by first | assumption | exact map_get (by assumption)) ty39 rfl rfl)) ?_
          refine DrawC.step rfl rfl rfl (Loc.of rfl fun σ' hs => (by first | exact R_load rfl (.no rfl) (hd_sup hs rfl) (.tmp (hs.slots _ _ rfl) fun _ => rfl) ty58 rfl rfl | exact R_load_pp rfl (.no rfl) (hd_sup hs rfl) (.tmp (hs.slots _ _ rfl) fun _ => rfl) (hs.res _ _ rfl) ty58 rfl rfl | exact R_load_vw rfl (.no rfl) (hd_sup hs rfl) (.tmp (hs.slots _ _ rfl) fun _ => rfl) ty58 rfl rfl | exact R_load_pr rfl (.no rfl) (hd_sup hs rfl) (.tmp (hs.slots _ _ rfl) fun _ => rfl) (hs.res _ _ rfl) (by first | assumption | exact map_get (by assumption)) ty58 rfl rfl)) ?_
          refine DrawC.step rfl rfl rfl (Loc.ofs rfl fun σ' hs hf => R_call 6100 (HtoDelta _ (by first | exact hz0 | exact hz1)) rfl rfl (hd_sup hs rfl) (.cons (.tmp (hs.slots _ _ rfl) fun _ => rfl) (readA_sup hs rfl) .nil) rfl (all_fresh hf)) ?_
          refine DrawC.step rfl rfl rfl (Loc.of rfl fun σ' hs => R_callz (FnT.fr (HeqDelta _)) rfl (.no rfl) (hd_sup hs rfl) (.cons (.tmp (hs.slots _ _ rfl) fun _ => rfl) (readA_sup hs rfl) (.cons (.tmp (hs.slots _ _ rfl) fun _ => rfl) (readA_sup hs rfl) .nil))) ?_
          refine DrawC.step rfl rfl rfl (Loc.of rfl fun σ' hs => R_not rfl (.no rfl) (hd_sup hs rfl) (.tmp (hs.slots _ _ rfl) fun _ => rfl)) ?_
          refine DrawC.fin rfl rfl ?_
          refine AWl.nil ?_
          refine AW.cond (.tmp rfl fun _ => rfl) (fun h63 => ?_) (fun h63 => ?_)
          · (exfalso; revert h63; simp; try omega)
          · skip
            try simp at h63
            refine AW.skip ?_
            refine AW.seq ?_
            -- region 18
            refine AW.region ?_
            refine AWl.put (R_assign rfl (.no rfl) rfl (.const rfl)) rfl ?_
            refine AWl.nil ?_
            refine AW.seq ?_
            -- region 19
            refine AW.region ?_
            refine AWl.put (R_move rfl (.no rfl) rfl (.tmp rfl fun _ => rfl)) rfl ?_
            refine AWl.put (R_move rfl (.no rfl) rfl (.tmp rfl fun _ => rfl)) rfl ?_
            refine AWl.marks (R_markc rfl rfl rfl (.tmp rfl fun _ => rfl) (.tmp rfl fun _ => rfl) (MmarkPairS _ _ (by omega)) (.rf rfl rfl .nil) rfl rfl) rfl ?_
            refine AWl.put (R_assign rfl (.no rfl) rfl (.tmp rfl fun _ => rfl)) rfl ?_
            refine AWl.nil ?_
            refine AW.seq ?_
            -- region 20
            refine AW.region ?_
            refine AWl.put ((by first | exact R_load rfl (.no rfl) rfl (.tmp rfl fun _ => rfl) ty39 rfl rfl | exact R_load_pp rfl (.no rfl) rfl (.tmp rfl fun _ => rfl) rfl ty39 rfl rfl | exact R_load_vw rfl (.no rfl) rfl (.tmp rfl fun _ => rfl) ty39 rfl rfl | exact R_load_pr rfl (.no rfl) rfl (.tmp rfl fun _ => rfl) rfl (by first | assumption | exact map_get (by assumption)) ty39 rfl rfl)) rfl ?_
            refine AWl.put (R_move rfl (.no rfl) rfl (.tmp rfl fun _ => rfl)) rfl ?_
            refine AWl.marks (R_markc rfl rfl rfl (.tmp rfl fun _ => rfl) (.tmp rfl fun _ => rfl) (MmarkDelta _ _ (by omega)) (.rf rfl rfl (.rf rfl rfl .nil)) rfl rfl) rfl ?_
            refine AWl.put (R_assign rfl (.no rfl) rfl (.tmp rfl fun _ => rfl)) rfl ?_
            refine AWl.nil ?_
            refine AW.seq ?_
            refine AW.seq ?_
            -- region 21
            refine AW.region ?_
            refine AWl.put (R_move rfl (.no rfl) rfl (.tmp rfl fun _ => rfl)) rfl ?_
            refine AWl.put (R_lt rfl (.no rfl) rfl (.tmp rfl fun _ => rfl) (.const rfl)) rfl ?_
            refine AWl.put (R_move rfl (.no rfl) rfl (.tmp rfl fun _ => rfl)) rfl ?_
            refine AWl.put (R_move rfl (by first | exact .not1 rfl rfl rfl rfl | exact .not rfl rfl rfl rfl) rfl (.tmp rfl (by first | exact fun _ => rfl | exact id | simp))) rfl ?_
            refine AWl.put (R_move rfl (by first | exact .not1 rfl rfl rfl rfl | exact .not rfl rfl rfl rfl) rfl (.tmp rfl (by first | exact fun _ => rfl | exact id | simp))) rfl ?_
            refine AWl.put (R_callz (FnT.fr (HeqPairS _)) rfl (by first | exact .not1 rfl rfl rfl rfl | exact .not rfl rfl rfl rfl) rfl (.cons (.tmp rfl (by first | exact fun _ => rfl | exact id | simp)) rfl (.cons (.tmp rfl (by first | exact fun _ => rfl | exact id | simp)) rfl .nil))) rfl ?_
            refine AWl.put (R_not rfl (by first | exact .not1 rfl rfl rfl rfl | exact .not rfl rfl rfl rfl) rfl (.tmp rfl (by first | exact fun _ => rfl | exact id | simp))) rfl ?_
            refine AWl.put (R_or rfl (.no rfl) rfl (.tmp rfl fun _ => rfl) (.tmp rfl (by first | exact fun _ => rfl | exact id | simp))) rfl ?_
            refine AWl.put (R_move rfl (.no rfl) rfl (.tmp rfl fun _ => rfl)) rfl ?_
            refine AWl.put (R_move rfl (by first | exact .not1 rfl rfl rfl rfl | exact .not rfl rfl rfl rfl) rfl (.tmp rfl (by first | exact fun _ => rfl | exact id | simp))) rfl ?_
            refine AWl.put (R_move rfl (by first | exact .not1 rfl rfl rfl rfl | exact .not rfl rfl rfl rfl) rfl (.tmp rfl (by first | exact fun _ => rfl | exact id | simp))) rfl ?_
            refine AWl.put (R_neb rfl (by first | exact .not1 rfl rfl rfl rfl | exact .not rfl rfl rfl rfl) rfl (.tmp rfl (by first | exact fun _ => rfl | exact id | simp)) (.tmp rfl (by first | exact fun _ => rfl | exact id | simp)) Try.underlying4) rfl ?_
            refine AWl.put (R_or rfl (.no rfl) rfl (.tmp rfl fun _ => rfl) (.tmp rfl (by first | exact fun _ => rfl | exact id | simp))) rfl ?_
            refine AWl.nil ?_
            refine AW.cond (.tmp rfl fun _ => rfl) (fun h82 => ?_) (fun h82 => ?_)
            · (exfalso; revert h82; simp; try omega)
            · skip
              try simp at h82
              refine AW.skip ?_
              refine AW.seq ?_
              -- region 23
              refine AW.region ?_
              refine AWl.put (R_assign rfl (.no rfl) rfl (.const rfl)) rfl ?_
              refine AWl.nil ?_
              refine AW.seq ?_
              -- region 24
              refine AW.region ?_
              refine AWl.put (R_move rfl (.no rfl) rfl (.tmp rfl fun _ => rfl)) rfl ?_
              refine AWl.put (R_move rfl (.no rfl) rfl (.tmp rfl fun _ => rfl)) rfl ?_
              refine AWl.marks (R_markc rfl rfl rfl (.tmp rfl fun _ => rfl) (.tmp rfl fun _ => rfl) (MmarkPairS _ _ (by omega)) (.rf rfl rfl .nil) rfl rfl) rfl ?_
              refine AWl.put (R_assign rfl (.no rfl) rfl (.tmp rfl fun _ => rfl)) rfl ?_
              refine AWl.nil ?_
              refine AW.seq ?_
              -- region 25
              refine AW.region ?_
              refine AWl.put (R_assign rfl (.no rfl) rfl (.const rfl)) rfl ?_
              refine AWl.nil ?_
              refine AW.seq ?_
              -- region 26
              refine AW.region ?_
              refine AWl.put (R_move rfl (.no rfl) rfl (.tmp rfl fun _ => rfl)) rfl ?_
              refine AWl.put (R_move rfl (.no rfl) rfl (.tmp rfl fun _ => rfl)) rfl ?_
              refine AWl.put (R_callz (FnT.fr (MheldPairS _ _ (by omega))) rfl (.no rfl) rfl (.cons (.tmp rfl fun _ => rfl) rfl (.cons (.tmp rfl fun _ => rfl) rfl .nil))) rfl ?_
              refine AWl.put (R_assign rfl (.no rfl) rfl (.tmp rfl fun _ => rfl)) rfl ?_
              refine AWl.nil ?_
              refine AW.seq ?_
              refine AW.seq ?_
              -- region 27
              refine AW.region ?_
              refine AWl.put (R_move rfl (.no rfl) rfl (.tmp rfl fun _ => rfl)) rfl ?_
              refine AWl.put (R_lt rfl (.no rfl) rfl (.tmp rfl fun _ => rfl) (.const rfl)) rfl ?_
              refine AWl.nil ?_
              refine AW.cond (.tmp rfl fun _ => rfl) (fun h90 => ?_) (fun h90 => ?_)
              · (exfalso; revert h90; simp; try omega)
              · skip
                try simp at h90
                refine AW.skip ?_
                refine AW.seq ?_
                refine AW.seq ?_
                -- region 29
                refine AW.region ?_
                refine AWl.put (R_move rfl (.no rfl) rfl (.tmp rfl fun _ => rfl)) rfl ?_
                refine AWl.put (R_move rfl (.no rfl) rfl (.tmp rfl fun _ => rfl)) rfl ?_
                refine AWl.put (R_ne rfl (.no rfl) rfl (.tmp rfl fun _ => rfl) (.tmp rfl fun _ => rfl)) rfl ?_
                refine AWl.nil ?_
                refine AW.cond (.tmp rfl fun _ => rfl) (fun h93 => ?_) (fun h93 => ?_)
                · (exfalso; revert h93; simp; try omega)
                · skip
                  try simp at h93
                  refine AW.skip ?_
                  refine AW.seq ?_
                  -- region 31
                  refine AW.drawn 10 (nthB [[], [0], [], [0, 1, 2], [0, 1, 2, 3], [0, 1, 2, 3, 4], [0, 1, 2, 3, 4, 5], [0, 1, 2, 3, 4, 5], [0, 1, 2, 3, 4, 5, 6], [0, 1, 2, 3, 4, 5, 6, 7, 8]]) (by kernel_rfl) (by kernel_rfl) (by kernel_rfl) ?_
                  refine DrawC.step rfl rfl rfl (Loc.of rfl fun σ' hs => R_move rfl (.no rfl) (hd_sup hs rfl) (.tmp (hs.slots _ _ rfl) fun _ => rfl)) ?_
                  refine DrawC.step rfl rfl rfl (Loc.ofs rfl fun σ' hs hf => R_call 9600 (HtoPairS _ (by first | exact hz0 | exact hz1)) rfl rfl (hd_sup hs rfl) (.cons (.tmp (hs.slots _ _ rfl) fun _ => rfl) (readA_sup hs rfl) .nil) rfl (all_fresh hf)) ?_
                  refine DrawC.step rfl rfl rfl (Loc.of rfl fun σ' hs => (by first | exact R_load rfl (.no rfl) (hd_sup hs rfl) (.tmp (hs.slots _ _ rfl) fun _ => rfl) ty58 rfl rfl | exact R_load_pp rfl (.no rfl) (hd_sup hs rfl) (.tmp (hs.slots _ _ rfl) fun _ => rfl) (hs.res _ _ rfl) ty58 rfl rfl | exact R_load_vw rfl (.no rfl) (hd_sup hs rfl) (.tmp (hs.slots _ _ rfl) fun _ => rfl) ty58 rfl rfl | exact R_load_pr rfl (.no rfl) (hd_sup hs rfl) (.tmp (hs.slots _ _ rfl) fun _ => rfl) (hs.res _ _ rfl) (by first | assumption | exact map_get (by assumption)) ty58 rfl rfl)) ?_
                  refine DrawC.step rfl rfl rfl (Loc.ofs rfl fun σ' hs hf => R_call 9800 (HtoDelta _ (by first | exact hz0 | exact hz1)) rfl rfl (hd_sup hs rfl) (.cons (.tmp (hs.slots _ _ rfl) fun _ => rfl) (readA_sup hs rfl) .nil) rfl (all_fresh hf)) ?_
                  refine DrawC.step rfl rfl rfl (Loc.ofs rfl fun σ' hs hf => R_call 9900 (implApplyDelta _ _ (by exact hz0) (by exact hz1.1) (by exact hz1.2.1)) rfl rfl (hd_sup hs rfl) (.cons (.tmp (hs.slots _ _ rfl) fun _ => rfl) (readA_sup hs rfl) (.cons (.tmp (hs.slots _ _ rfl) fun _ => rfl) (readA_sup hs rfl) .nil)) rfl (all_fresh hf)) ?_
                  refine DrawC.step rfl rfl rfl (Loc.of rfl fun σ' hs => R_movet rfl (.no rfl) (hd_sup hs rfl) (hs.slots _ _ rfl) fun _ => rfl) ?_
                  refine DrawC.step rfl rfl rfl (Loc.of rfl fun σ' hs => R_extract rfl (.no rfl) (hd_sup hs rfl) (hs.slots _ _ rfl) (fun _ => rfl) rfl) ?_
                  refine DrawC.step rfl rfl rfl (Loc.of rfl fun σ' hs => R_extract rfl (.no rfl) (hd_sup hs rfl) (hs.slots _ _ rfl) (fun _ => rfl) rfl) ?_
                  refine DrawC.step rfl rfl rfl (Loc.of rfl fun σ' hs => R_assign rfl (.no rfl) (hd_sup hs rfl) (.tmp (hs.slots _ _ rfl) fun _ => rfl)) ?_
                  refine DrawC.step rfl rfl rfl (Loc.of rfl fun σ' hs => R_assign rfl (.no rfl) (hd_sup hs rfl) (.tmp (hs.slots _ _ rfl) fun _ => rfl)) ?_
                  refine DrawC.fin rfl rfl ?_
                  refine AWl.nil ?_
                  refine AW.seq ?_
                  refine AW.seq ?_
                  -- region 32
                  refine AW.region ?_
                  refine AWl.put (R_move rfl (.no rfl) rfl (.tmp rfl fun _ => rfl)) rfl ?_
                  refine AWl.put (R_move rfl (.no rfl) rfl (.tmp rfl fun _ => rfl)) rfl ?_
                  refine AWl.put (R_callz (FnT.fr (HeqPairS _)) rfl (.no rfl) rfl (.cons (.tmp rfl fun _ => rfl) rfl (.cons (.tmp rfl fun _ => rfl) rfl .nil))) rfl ?_
                  refine AWl.put (R_not rfl (.no rfl) rfl (.tmp rfl fun _ => rfl)) rfl ?_
                  refine AWl.put (R_move rfl (.no rfl) rfl (.tmp rfl fun _ => rfl)) rfl ?_
                  refine AWl.put (R_move rfl (by first | exact .not1 rfl rfl rfl rfl | exact .not rfl rfl rfl rfl) rfl (.tmp rfl (by first | exact fun _ => rfl | exact id | simp))) rfl ?_
                  refine AWl.put (R_move rfl (by first | exact .not1 rfl rfl rfl rfl | exact .not rfl rfl rfl rfl) rfl (.tmp rfl (by first | exact fun _ => rfl | exact id | simp))) rfl ?_
                  refine AWl.put (R_neb rfl (by first | exact .not1 rfl rfl rfl rfl | exact .not rfl rfl rfl rfl) rfl (.tmp rfl (by first | exact fun _ => rfl | exact id | simp)) (.tmp rfl (by first | exact fun _ => rfl | exact id | simp)) Try.underlying4) rfl ?_
                  refine AWl.put (R_or rfl (.no rfl) rfl (.tmp rfl fun _ => rfl) (.tmp rfl (by first | exact fun _ => rfl | exact id | simp))) rfl ?_
                  refine AWl.nil ?_
                  refine AW.cond (.tmp rfl fun _ => rfl) (fun h110 => ?_) (fun h110 => ?_)
                  · (exfalso; revert h110; simp; try omega)
                  · skip
                    try simp at h110
                    refine AW.skip ?_
                    refine AW.seq ?_
                    -- region 34
                    refine AW.region ?_
                    refine AWl.put (R_assign rfl (.no rfl) rfl (.const rfl)) rfl ?_
                    refine AWl.nil ?_
                    refine AW.seq ?_
                    -- region 35
                    refine AW.region ?_
                    refine AWl.put (R_move rfl (.no rfl) rfl (.tmp rfl fun _ => rfl)) rfl ?_
                    refine AWl.put (R_move rfl (.no rfl) rfl (.tmp rfl fun _ => rfl)) rfl ?_
                    refine AWl.put (R_callz (FnT.fr (MheldPairS _ _ (by omega))) rfl (.no rfl) rfl (.cons (.tmp rfl fun _ => rfl) rfl (.cons (.tmp rfl fun _ => rfl) rfl .nil))) rfl ?_
                    refine AWl.put (R_assign rfl (.no rfl) rfl (.tmp rfl fun _ => rfl)) rfl ?_
                    refine AWl.nil ?_
                    refine AW.seq ?_
                    refine AW.seq ?_
                    -- region 36
                    refine AW.region ?_
                    refine AWl.put (R_move rfl (.no rfl) rfl (.tmp rfl fun _ => rfl)) rfl ?_
                    refine AWl.put (R_lt rfl (.no rfl) rfl (.tmp rfl fun _ => rfl) (.const rfl)) rfl ?_
                    refine AWl.nil ?_
                    refine AW.cond (.tmp rfl fun _ => rfl) (fun h115 => ?_) (fun h115 => ?_)
                    · (exfalso; revert h115; simp; try omega)
                    · skip
                      try simp at h115
                      refine AW.skip ?_
                      refine AW.seq ?_
                      refine AW.seq ?_
                      -- region 38
                      refine AW.region ?_
                      refine AWl.put (R_move rfl (.no rfl) rfl (.tmp rfl fun _ => rfl)) rfl ?_
                      refine AWl.put (R_move rfl (.no rfl) rfl (.tmp rfl fun _ => rfl)) rfl ?_
                      refine AWl.put (R_ne rfl (.no rfl) rfl (.tmp rfl fun _ => rfl) (.tmp rfl fun _ => rfl)) rfl ?_
                      refine AWl.nil ?_
                      refine AW.cond (.tmp rfl fun _ => rfl) (fun h118 => ?_) (fun h118 => ?_)
                      · (exfalso; revert h118; simp; try omega)
                      · skip
                        try simp at h118
                        refine AW.skip ?_
                        refine AW.seq ?_
                        -- region 40
                        refine AW.region ?_
                        refine AWl.put (R_assign rfl (.no rfl) rfl (.const rfl)) rfl ?_
                        refine AWl.nil ?_
                        refine AW.ret ?_
                        refine Res.v rfl rfl ?_
                        rfl
namespace LFnExactApplyDelta
theorem opensInt : OpensT cInt Try.prog 3 := opensTInt Try.underlying3
set_option maxRecDepth 100000 in
theorem opensPair : OpensT cPair Try.prog 120 := by
  intro H enc w base spare held fuel cs x h
  obtain ⟨xs, n, _, _, hlen, hxl, hf⟩ := DataW.trod_struct Try.underlying120 h
  rw [show Try.prog.cellsOf 120 = 2 from by kernel_rfl] at hlen
  have kInt : Try.prog.cellsOf 3 = 1 := by kernel_rfl
  match cs, hlen, xs, hxl with
  | [c0, c1], _, [y0, y1], _ =>
    have g0 : DataW.trod enc Try.prog w base spare held n 3 [c0] = some y0 := by simpa [kInt] using hf 0 _ rfl
    obtain ⟨x0, F0, e0⟩ := opensInt g0
    have g1 : DataW.trod enc Try.prog w base spare held n 3 [c1] = some y1 := by simpa [kInt] using hf 1 _ rfl
    obtain ⟨x1, F1, e1⟩ := opensInt g1
    exact ⟨⟨x0, x1⟩, _, (e0.append e1)⟩
theorem opensPairS : OpensT cPairS Try.prog 35 := opensTSlice (c := cPair) Try.underlying35 (by kernel_rfl) (by decide) (fun _ => rfl) opensPair
set_option maxRecDepth 100000 in
theorem opensDelta : OpensT cDelta Try.prog 58 := by
  intro H enc w base spare held fuel cs x h
  obtain ⟨xs, n, _, _, hlen, hxl, hf⟩ := DataW.trod_struct Try.underlying58 h
  rw [show Try.prog.cellsOf 58 = 2 from by kernel_rfl] at hlen
  have kPairS : Try.prog.cellsOf 35 = 1 := by kernel_rfl
  match cs, hlen, xs, hxl with
  | [c0, c1], _, [y0, y1], _ =>
    have g0 : DataW.trod enc Try.prog w base spare held n 35 [c0] = some y0 := by simpa [kPairS] using hf 0 _ rfl
    obtain ⟨x0, F0, e0⟩ := opensPairS g0
    have g1 : DataW.trod enc Try.prog w base spare held n 35 [c1] = some y1 := by simpa [kPairS] using hf 1 _ rfl
    obtain ⟨x1, F1, e1⟩ := opensPairS g1
    exact ⟨⟨x0, x1⟩, _, (e0.append e1)⟩
theorem ownFnExactApplyDelta : ownKnob Try.prog.godebug = none := by kernel_rfl
theorem laidOutFnExactApplyDelta : laidOutB Try.prog = true := by kernel_rfl
set_option maxRecDepth 100000 in
theorem liftedFnExactApplyDelta (os : Os) (started : os.Started) (H : Type) (enc : TypeId × Value → H) :
    ReturnsInHanded {} Try.checked os 6 .any (Rows.fnExactApplyDeltaSpec.pre6 enc Try.prog Try.f6 Rows.fnExactApplyDeltaRow.domain false) (Rows.fnExactApplyDeltaSpec.post enc Try.prog Try.f6 false true false false) := by
  refine returnsInHanded_of_change (C := Try.checked) ownFnExactApplyDelta started (by kernel_rfl) Try.func6
    (ChangeSpec.witness6 (enc := enc) (C := Try.checked) false ⟨#[], #[.slice none 0 0, .agg #[.slice none 0 0, .slice none 0 0]], []⟩ 8 (by kernel_rfl) (by kernel_rfl) (by kernel_rfl) (by kernel_rfl)) ?_
  intro W base args ds gs before hval0 hW hcnd _
  have hval : ∀ (j : Nat) t v, Try.f6.params[j]? = some t → args[j]? = some v → Value.okWide Try.prog W .any base t v := hval0
  have hW' := hW
  obtain ⟨p, q, hA0, hV, rfl, hfz, hnd⟩ := hW
  have hA : DataW.TrodAll enc Try.prog W 0 (fun _ => true) true Try.f6.params.toList args.toList ds p := hA0
  rw [Try.params6] at hA hval
  obtain ⟨v0, vs0, d0, ds0, p0, q0, hargs, rfl, rfl, h0, r0⟩ := trodAll_cons hA
  obtain ⟨v1, vs1, d1, ds1, p1, q1, rfl, rfl, rfl, h1, r1⟩ := trodAll_cons r0
  obtain ⟨rfl, rfl, rfl⟩ := trodAll_nil r1
  obtain rfl : args = #[v0, v1] := by cases args; simp_all
  obtain ⟨rfl, rfl⟩ := trodVars_none hV
  obtain ⟨a0, len0, cap0, rfl⟩ := okWide_slice Try.underlying35 (hval 0 35 v0 rfl rfl)
  have k0 := h0
  have lt0 : ∀ x ∈ p0, x.block < W.heap.size := by obtain ⟨m, hm⟩ := k0; exact DataW.trod_lt m _ _ _ hm
  obtain ⟨x0, F0, hs0⟩ := OpensT.vl opensPairS h0
  obtain ⟨cs1, rfl, _⟩ := okWide_struct Try.underlying58 (hval 1 58 v1 rfl rfl)
  have k1 := h1
  have lt1 : ∀ x ∈ p1, x.block < W.heap.size := by obtain ⟨m, hm⟩ := k1; exact DataW.trod_lt m _ _ _ hm
  obtain ⟨x1, F1, hs1⟩ := OpensT.vl opensDelta h1
  clear hA0 hval0
  refine ((lawFnExactApplyDelta x0 x1).2 W _ _ ⟨_, _, _, _, rfl, (show V0r false W (.one _) _ _ from Cs_one_inv hs0), ⟨_, _, _, _, rfl, (show V0r false W (.agg (cDelta x1)) _ _ from ⟨cs1.toList, by simp, hs1⟩), ⟨rfl, rfl⟩, rfl⟩, rfl⟩).mono fun e W' ⟨v, F, he, hv, _, _, bel⟩ => ?_
  have hv2 : v = .bool true := by unfold Vr V0r C at hv; exact hv.1
  subst hv2
  subst he
  exact ⟨_, rfl, _, _, _, [], _, [], hW', trodAll_mk1 (shut_bool Try.underlying4 _), (trodAll_cons_mk (Below.trod laidOutFnExactApplyDelta (by kernel_rfl) (of_decide_eq_true (by kernel_rfl)) k0 bel lt0) (trodAll_cons_mk (Below.trod laidOutFnExactApplyDelta (by kernel_rfl) (of_decide_eq_true (by kernel_rfl)) k1 bel lt1) trodAll_mk0)), rfl, Below.frame bel _, fun h => by cases h⟩
theorem jfa : (Rows.fnExactApplyDeltaRow.inPlace == Try.prog.inPlace 6) = true := by kernel_rfl
theorem jfb : (Rows.fnExactApplyDeltaRow.unfollowed == Try.prog.unfollowed 6) = true := by kernel_rfl
theorem jfc : (Rows.fnExactApplyDeltaRow.recurses == Try.prog.recurses 6) = true := by kernel_rfl
theorem jfd : (Rows.fnExactApplyDeltaRow.named == Try.prog.varsNamed 6) = true := by kernel_rfl
theorem jfe : mapsRowed Try.prog = true := by kernel_rfl
theorem jff : joinedFacts Try.prog 6 Try.f6 Rows.fnExactApplyDeltaSpec Rows.fnExactApplyDeltaRow = true := by
  unfold joinedFacts
  rw [laidOutFnExactApplyDelta, jfa, jfb, jfc, jfd, jfe]
  kernel_rfl
set_option maxRecDepth 100000 in
/-- The statement. -/
theorem provedFnExactApplyDelta : Rows.FnExactApplyDeltaSaid :=
  OpenClaim.holds_of_wide 6 Try.f6 rfl rfl rfl rfl rfl rfl rfl ⟨rfl, rfl, rfl, rfl, rfl⟩ rfl rfl rfl rfl rfl (by kernel_rfl) Try.func6 jff
    (of_decide_eq_true (by kernel_rfl)) (by unfold Func.isWrapper; first | (rw [if_pos (by decide +kernel)]; kernel_rfl) | (rw [if_neg (by decide +kernel)]; exact ⟨rfl, rfl⟩))
    (fun os started H enc _ => liftedFnExactApplyDelta os started H enc)
#print axioms provedFnExactApplyDelta
end LFnExactApplyDelta
end Go.Proofs.Ytjmefmdeghggeaa
