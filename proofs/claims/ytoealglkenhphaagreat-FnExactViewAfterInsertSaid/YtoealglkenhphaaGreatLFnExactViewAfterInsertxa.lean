/- FnExactViewAfterInsert: the law returns true for every input, and its arguments read as they did. No condition. -/
import Derived.Test.YtoealglkenhphaaGreatRows
import Derived.Test.YtoealglkenhphaaGreatHBxa
import Derived.Test.YtoealglkenhphaaGreatHCxa
import Derived.Test.YtoealglkenhphaaGreatHMxa
import Derived.Test.YtoealglkenhphaaGreatOpenTxa
import Derived.Test.YtoealglkenhphaaGreatB105xa
set_option linter.unusedVariables false
set_option linter.unusedSimpArgs false
namespace Go.Proofs.YtoealglkenhphaaGreat
open Go.RowKit Go.Q Go.D Go.ChangeShapes Go.WideShapes Go.ChangeAt Go.Deep
open Go.ChangeMaps (open_string shut_string)
set_option maxRecDepth 100000 in
set_option maxHeartbeats 1000000 in
theorem lawFnExactViewAfterInsert (aG : TGraph) (aV : TView) (aE : TEdge) : FnT Tryz.prog 3 [.agg (cGraph aG), .agg (cView aV), .agg (cEdge aE)] (.a (.one (.v (.bool true)))) := by
  refine FnT.walk Tryz.func3 rfl (by kernel_rfl) Tryz.ntmps3 rfl fun hlen w0 => ?_
  try simp [cPair, cToken, cExpr, cEdge, cGraph, cStep, cWalk, cChange, cBatch, cHistory, cPositions, cAutomaton, cProductStep, cPathAtom, cConjunction, cView, cDelta, cRegistered, cRegistry] at hlen
  clear hlen
  refine AW.seq ?_
  refine AW.region ?_
  refine AWl.put (R_boxz rfl rfl rfl (.tmp rfl fun _ => rfl) (ts := _) (by rfl)) rfl ?_
  refine AWl.put (R_boxz rfl rfl rfl (.tmp rfl fun _ => rfl) (ts := _) (by rfl)) rfl ?_
  refine AWl.put (R_boxz rfl rfl rfl (.tmp rfl fun _ => rfl) (ts := _) (by rfl)) rfl ?_
  refine AWl.put (R_assign rfl (.no rfl) rfl (.const rfl)) rfl ?_
  refine AWl.nil ?_
  refine AW.seq ?_
  refine AW.region ?_
  refine AWl.put (R_assign rfl (.no rfl) rfl (.const rfl)) rfl ?_
  refine AWl.nil ?_
  refine AW.seq ?_
  refine AW.region ?_
  refine AWl.put ((by exact R_load rfl (.no rfl) rfl (.tmp rfl fun _ => rfl) ty25 rfl rfl)) rfl ?_
  refine AWl.put (R_move rfl (.no rfl) rfl (.tmp rfl fun _ => rfl)) rfl ?_
  refine AWl.put (R_callz (FnT.fr (HszGraph _ _ (by omega))) rfl (.no rfl) rfl (.cons (.tmp rfl fun _ => rfl) rfl (.cons (.tmp rfl fun _ => rfl) rfl .nil))) rfl ?_
  refine AWl.put (R_assign rfl (.no rfl) rfl (.tmp rfl fun _ => rfl)) rfl ?_
  refine AWl.nil ?_
  refine AW.seq ?_
  refine AW.seq ?_
  refine AW.region ?_
  refine AWl.put (R_move rfl (.no rfl) rfl (.tmp rfl fun _ => rfl)) rfl ?_
  refine AWl.put (R_lt rfl (.no rfl) rfl (.tmp rfl fun _ => rfl) (.const rfl)) rfl ?_
  refine AWl.nil ?_
  refine AW.cond (.tmp rfl fun _ => rfl) (fun h23 => ?_) (fun h23 => ?_)
  · skip
    try simp at h23
    refine AW.seq ?_
    refine AW.region ?_
    refine AWl.put (R_assign rfl (.no rfl) rfl (.const rfl)) rfl ?_
    refine AWl.nil ?_
    refine AW.ret ?_
    refine Res.v rfl rfl ?_
    rfl
  · skip
    try simp at h23
    have hb0 := szGraph_ok aG 1048576 (by omega) (by omega)
    have hz0 := hb0.2 (by omega)
    refine AW.skip ?_
    refine AW.seq ?_
    refine AW.region ?_
    refine AWl.put ((by exact R_load rfl (.no rfl) rfl (.tmp rfl fun _ => rfl) ty31 rfl rfl)) rfl ?_
    refine AWl.put (R_move rfl (.no rfl) rfl (.tmp rfl fun _ => rfl)) rfl ?_
    refine AWl.put (R_callz (FnT.fr (HszView _ _ (by omega))) rfl (.no rfl) rfl (.cons (.tmp rfl fun _ => rfl) rfl (.cons (.tmp rfl fun _ => rfl) rfl .nil))) rfl ?_
    refine AWl.put (R_assign rfl (.no rfl) rfl (.tmp rfl fun _ => rfl)) rfl ?_
    refine AWl.nil ?_
    refine AW.seq ?_
    refine AW.seq ?_
    refine AW.region ?_
    refine AWl.put (R_move rfl (.no rfl) rfl (.tmp rfl fun _ => rfl)) rfl ?_
    refine AWl.put (R_lt rfl (.no rfl) rfl (.tmp rfl fun _ => rfl) (.const rfl)) rfl ?_
    refine AWl.nil ?_
    refine AW.cond (.tmp rfl fun _ => rfl) (fun h28 => ?_) (fun h28 => ?_)
    · skip
      try simp at h28
      refine AW.seq ?_
      refine AW.region ?_
      refine AWl.put (R_assign rfl (.no rfl) rfl (.const rfl)) rfl ?_
      refine AWl.nil ?_
      refine AW.ret ?_
      refine Res.v rfl rfl ?_
      rfl
    · skip
      try simp at h28
      have hb1 := szView_ok aV (szGraph aG 1048576) (by omega) (by omega)
      have hz1 := hb1.2 (by omega)
      have hcn0 := cpGraph_nn aG
      have hco0 := cpGraph_ok (by exact (hz0 : okGraph aG))
      have hcn1 := cpView_nn aV
      have hco1 := cpView_ok (by exact (hz1 : okView aV))
      have hbd0 := viewIns_cnt aG aV aE
      have hbd1 := cpView_nn (viewAft aG aV (insG aG aE)).1
      refine AW.skip ?_
      refine AW.seq ?_
      refine AW.drawnS 11 9 (nthB [[], [0], [], [0, 1, 2], [], [0, 1, 2, 3, 4], [0, 1, 2, 3, 4, 5], [0, 1, 2, 3, 4, 5, 6], [0, 1, 2, 3, 4, 5, 6, 7], [0, 1, 2, 3, 4, 5, 6, 7], [], [0, 1, 2, 3, 4, 5, 6, 7, 8, 10]]) (by kernel_rfl) (by kernel_rfl) (by kernel_rfl) (by kernel_rfl) rfl ?_
      refine DrawG.step rfl rfl (Loc.of rfl fun σ' hs => (by exact R_load rfl (.no rfl) (hd_sup hs rfl) (.tmp (hs.slots _ _ rfl) fun _ => rfl) ty25 rfl rfl)) ?_
      refine DrawG.step rfl rfl (Loc.ofs rfl fun σ' hs hf => R_call 3100 (HtoGraph _ (by exact hz0)) rfl rfl (hd_sup hs rfl) (.cons (.tmp (hs.slots _ _ rfl) fun _ => rfl) (readA_sup hs rfl) .nil) rfl (all_fresh hf)) ?_
      refine DrawG.step rfl rfl (Loc.of rfl fun σ' hs => (by exact R_load rfl (.no rfl) (hd_sup hs rfl) (.tmp (hs.slots _ _ rfl) fun _ => rfl) ty31 rfl rfl)) ?_
      refine DrawG.step rfl rfl (Loc.ofs rfl fun σ' hs hf => R_call 3300 (HtoView _ (by exact hz1)) rfl rfl (hd_sup hs rfl) (.cons (.tmp (hs.slots _ _ rfl) fun _ => rfl) (readA_sup hs rfl) .nil) rfl (all_fresh hf)) ?_
      refine DrawG.step rfl rfl (Loc.of rfl fun σ' hs => (by exact R_load rfl (.no rfl) (hd_sup hs rfl) (.tmp (hs.slots _ _ rfl) fun _ => rfl) ty33 rfl rfl)) ?_
      refine DrawG.step rfl rfl (Loc.of rfl fun σ' hs => R_callz (FnT.fr (HtoEdge _)) rfl (.no rfl) (hd_sup hs rfl) (.cons (.tmp (hs.slots _ _ rfl) fun _ => rfl) (readA_sup hs rfl) .nil)) ?_
      refine DrawG.step rfl rfl (Loc.of rfl fun σ' hs => R_callz (FnT.fr (specViewAfterInsert _ _ _ (show aG.Values.length ≤ 1048576 from hz0.1) (show aG.Edges.length ≤ 1048576 from hz0.2.1) (hz1))) rfl (.no rfl) (hd_sup hs rfl) (.cons (.tmp (hs.slots _ _ rfl) fun _ => rfl) (readA_sup hs rfl) (.cons (.tmp (hs.slots _ _ rfl) fun _ => rfl) (readA_sup hs rfl) (.cons (.tmp (hs.slots _ _ rfl) fun _ => rfl) (readA_sup hs rfl) .nil)))) ?_
      refine DrawG.step rfl rfl (Loc.of rfl fun σ' hs => R_movet rfl (.no rfl) (hd_sup hs rfl) (hs.slots _ _ rfl) fun _ => rfl) ?_
      refine DrawG.step rfl rfl (Loc.of rfl fun σ' hs => R_extract rfl (.no rfl) (hd_sup hs rfl) (hs.slots _ _ rfl) (fun _ => rfl) rfl) ?_
      refine DrawG.step rfl rfl (Loc.of rfl fun σ' hs => R_extract rfl (.no rfl) (hd_sup hs rfl) (hs.slots _ _ rfl) (fun _ => rfl) rfl) ?_
      refine DrawG.step rfl rfl (Loc.of1 rfl fun σ' hs hf => R_alloc 8 rfl rfl (hd_sup hs rfl) in38 rfl rfl hf) ?_
      refine DrawG.fin rfl (FinS.mk ⟨_, [(0, _), (1, _), (2, _), (3, _), (4, _), (5, _), (6, _), (7, _), (8, _), (23, _), (28, _), (38, _)], [(3100, _), (3101, _), (3300, _), (3301, _), (3302, _), (3303, _), (8, _)]⟩ rfl rfl rfl rfl (R_store_pb rfl rfl rfl (.tmp rfl fun _ => rfl) (.tmp rfl fun _ => rfl) rfl ty38 rfl rfl rfl (by kernel_rfl) rfl) (R_store_pb rfl rfl rfl (.tmp rfl fun _ => rfl) (.tmp rfl fun _ => rfl) rfl ty38 rfl rfl rfl (by kernel_rfl) rfl) (R_extract rfl (.no rfl) rfl rfl (fun _ => rfl) rfl) (Sup.sub0 rfl ⟨rfl, rfl, rfl, rfl, rfl, rfl, rfl, rfl, rfl, rfl, rfl, rfl, trivial⟩ ⟨rfl, rfl, rfl, rfl, rfl, rfl, rfl, trivial⟩) (Sup.sub0 rfl ⟨rfl, rfl, rfl, rfl, rfl, rfl, rfl, rfl, rfl, rfl, rfl, rfl, trivial⟩ ⟨rfl, rfl, rfl, rfl, rfl, rfl, rfl, trivial⟩) ?_)
      refine AWl.put (R_assign rfl (.no rfl) rfl (.tmp rfl fun _ => rfl)) rfl ?_
      refine AWl.nil ?_
      refine AW.seq ?_
      refine AW.region ?_
      refine AWl.put ((by exact R_load rfl (.no rfl) rfl (.tmp rfl fun _ => rfl) ty25 rfl rfl)) rfl ?_
      refine AWl.adds (R_call 4000 (HtoGraph _ (by exact hz0)) rfl rfl rfl (.cons (.tmp rfl fun _ => rfl) rfl .nil) rfl rfl) rfl ?_
      refine AWl.add (R_alloc 10 rfl rfl rfl in43 rfl rfl rfl) rfl ?_
      refine AWl.chgb (R_store_pb rfl rfl rfl (.tmp rfl fun _ => rfl) (.tmp rfl fun _ => rfl) rfl ty43 rfl rfl rfl (by kernel_rfl) rfl) ?_
      refine AWl.nil ?_
      refine AW.seq ?_
      refine AW.region ?_
      refine AWl.put ((by exact R_load rfl (.no rfl) rfl (.tmp rfl fun _ => rfl) ty31 rfl rfl)) rfl ?_
      refine AWl.adds (R_call 4200 (HtoView _ (by exact hz1)) rfl rfl rfl (.cons (.tmp rfl fun _ => rfl) rfl .nil) rfl rfl) rfl ?_
      refine AWl.add (R_alloc 11 rfl rfl rfl in38 rfl rfl rfl) rfl ?_
      refine AWl.chgb (R_store_pb rfl rfl rfl (.tmp rfl fun _ => rfl) (.tmp rfl fun _ => rfl) rfl ty38 rfl rfl rfl (by kernel_rfl) rfl) ?_
      refine AWl.nil ?_
      refine AW.seq ?_
      refine AW.drawnS 9 7 (nthB [[], [], [], [2], [0, 1, 2, 3], [0, 1, 2, 3, 4], [0, 1, 2, 3, 4, 5], [0, 1, 2, 3, 4, 5], [], [0, 1, 2, 3, 4, 5, 6, 8]]) (by kernel_rfl) (by kernel_rfl) (by kernel_rfl) (by kernel_rfl) rfl ?_
      refine DrawG.step rfl rfl (Loc.of rfl fun σ' hs => (by exact R_load_pp rfl (.no rfl) (hd_sup hs rfl) (.tmp (hs.slots _ _ rfl) fun _ => rfl) (hs.res _ _ rfl) ty43 rfl rfl)) ?_
      refine DrawG.step rfl rfl (Loc.of rfl fun σ' hs => (by exact R_load_pp rfl (.no rfl) (hd_sup hs rfl) (.tmp (hs.slots _ _ rfl) fun _ => rfl) (hs.res _ _ rfl) ty38 rfl rfl)) ?_
      refine DrawG.step rfl rfl (Loc.of rfl fun σ' hs => (by exact R_load rfl (.no rfl) (hd_sup hs rfl) (.tmp (hs.slots _ _ rfl) fun _ => rfl) ty33 rfl rfl)) ?_
      refine DrawG.step rfl rfl (Loc.of rfl fun σ' hs => R_callz (FnT.fr (HtoEdge _)) rfl (.no rfl) (hd_sup hs rfl) (.cons (.tmp (hs.slots _ _ rfl) fun _ => rfl) (readA_sup hs rfl) .nil)) ?_
      refine DrawG.step rfl rfl (Loc.ofs rfl fun σ' hs hf => R_call 4800 (implViewAfterInsert _ _ _ (show aG.Values.length ≤ 1048576 from hz0.1) (show aG.Edges.length ≤ 1048576 from hz0.2.1) (hz1)) rfl rfl (hd_sup hs rfl) (.cons (.tmp (hs.slots _ _ rfl) fun _ => rfl) (readA_sup hs rfl) (.cons (.tmp (hs.slots _ _ rfl) fun _ => rfl) (readA_sup hs rfl) (.cons (.tmp (hs.slots _ _ rfl) fun _ => rfl) (readA_sup hs rfl) .nil))) rfl (all_fresh hf)) ?_
      refine DrawG.step rfl rfl (Loc.of rfl fun σ' hs => R_movet rfl (.no rfl) (hd_sup hs rfl) (hs.slots _ _ rfl) fun _ => rfl) ?_
      refine DrawG.step rfl rfl (Loc.of rfl fun σ' hs => R_extract rfl (.no rfl) (hd_sup hs rfl) (hs.slots _ _ rfl) (fun _ => rfl) rfl) ?_
      refine DrawG.step rfl rfl (Loc.of rfl fun σ' hs => R_extract rfl (.no rfl) (hd_sup hs rfl) (hs.slots _ _ rfl) (fun _ => rfl) rfl) ?_
      refine DrawG.step rfl rfl (Loc.of1 rfl fun σ' hs hf => R_alloc 12 rfl rfl (hd_sup hs rfl) in38 rfl rfl hf) ?_
      refine DrawG.fin rfl (FinS.mk ⟨_, [(0, _), (1, _), (2, _), (3, _), (4, _), (5, _), (6, _), (7, _), (8, _), (9, _), (10, _), (11, _), (12, _), (23, _), (28, _), (50, _)], [(3100, _), (3101, _), (3300, _), (3301, _), (3302, _), (3303, _), (8, _), (4000, _), (4001, _), (10, _), (4200, _), (4201, _), (4202, _), (4203, _), (11, _), (4800, _), (4801, _), (4802, _), (4803, _), (12, _)]⟩ rfl rfl rfl rfl (R_store_pb rfl rfl rfl (.tmp rfl fun _ => rfl) (.tmp rfl fun _ => rfl) rfl ty38 rfl rfl rfl (by kernel_rfl) rfl) (R_store_pb rfl rfl rfl (.tmp rfl fun _ => rfl) (.tmp rfl fun _ => rfl) rfl ty38 rfl rfl rfl (by kernel_rfl) rfl) (R_extract rfl (.no rfl) rfl rfl (fun _ => rfl) rfl) (Sup.sub0 rfl ⟨rfl, rfl, rfl, rfl, rfl, rfl, rfl, rfl, rfl, rfl, rfl, rfl, rfl, rfl, rfl, rfl, trivial⟩ ⟨rfl, rfl, rfl, rfl, rfl, rfl, rfl, rfl, rfl, rfl, rfl, rfl, rfl, rfl, rfl, rfl, rfl, rfl, rfl, rfl, trivial⟩) (Sup.sub0 rfl ⟨rfl, rfl, rfl, rfl, rfl, rfl, rfl, rfl, rfl, rfl, rfl, rfl, rfl, rfl, rfl, rfl, trivial⟩ ⟨rfl, rfl, rfl, rfl, rfl, rfl, rfl, rfl, rfl, rfl, rfl, rfl, rfl, rfl, rfl, rfl, rfl, rfl, rfl, rfl, trivial⟩) ?_)
      refine AWl.put (R_assign rfl (.no rfl) rfl (.tmp rfl fun _ => rfl)) rfl ?_
      refine AWl.nil ?_
      refine AW.seq ?_
      refine AW.seq ?_
      refine AW.region ?_
      refine AWl.put ((by exact R_load_pp rfl (.no rfl) rfl (.tmp rfl fun _ => rfl) rfl ty38 rfl rfl)) rfl ?_
      refine AWl.put ((by exact R_load_pp rfl (.no rfl) rfl (.tmp rfl fun _ => rfl) rfl ty38 rfl rfl)) rfl ?_
      refine AWl.put (R_callz (FnT.fr (HeqView _)) rfl (.no rfl) rfl (.cons (.tmp rfl fun _ => rfl) rfl (.cons (.tmp rfl fun _ => rfl) rfl .nil))) rfl ?_
      refine AWl.put (R_not rfl (.no rfl) rfl (.tmp rfl fun _ => rfl)) rfl ?_
      refine AWl.put (R_move rfl (.no rfl) rfl (.tmp rfl fun _ => rfl)) rfl ?_
      refine AWl.put (R_move rfl (by exact .not1 rfl rfl rfl rfl) rfl (.tmp rfl (by exact fun _ => rfl))) rfl ?_
      refine AWl.put (R_move rfl (by exact .not1 rfl rfl rfl rfl) rfl (.tmp rfl (by exact fun _ => rfl))) rfl ?_
      refine AWl.put (R_neb rfl (by exact .not1 rfl rfl rfl rfl) rfl (.tmp rfl (by exact fun _ => rfl)) (.tmp rfl (by exact fun _ => rfl)) Tryz.underlying4) rfl ?_
      refine AWl.put (R_or rfl (.no rfl) rfl (.tmp rfl fun _ => rfl) (.tmp rfl (by exact fun _ => rfl))) rfl ?_
      refine AWl.nil ?_
      refine AW.cond (.tmp rfl fun _ => rfl) (fun h59 => ?_) (fun h59 => ?_)
      · (exfalso; revert h59; simp; try omega)
      · skip
        try simp at h59
        refine AW.skip ?_
        refine AW.seq ?_
        refine AW.seq ?_
        refine AW.drawn 5 (nthB [[], [], [1], [0, 1, 2], [0, 1, 2, 3]]) (by kernel_rfl) (by kernel_rfl) (by kernel_rfl) ?_
        refine DrawC.step rfl rfl rfl (Loc.of rfl fun σ' hs => (by exact R_load_pp rfl (.no rfl) (hd_sup hs rfl) (.tmp (hs.slots _ _ rfl) fun _ => rfl) (hs.res _ _ rfl) ty43 rfl rfl)) ?_
        refine DrawC.step rfl rfl rfl (Loc.of rfl fun σ' hs => (by exact R_load rfl (.no rfl) (hd_sup hs rfl) (.tmp (hs.slots _ _ rfl) fun _ => rfl) ty25 rfl rfl)) ?_
        refine DrawC.step rfl rfl rfl (Loc.ofs rfl fun σ' hs hf => R_call 6200 (HtoGraph _ (by exact hz0)) rfl rfl (hd_sup hs rfl) (.cons (.tmp (hs.slots _ _ rfl) fun _ => rfl) (readA_sup hs rfl) .nil) rfl (all_fresh hf)) ?_
        refine DrawC.step rfl rfl rfl (Loc.of rfl fun σ' hs => R_callz (FnT.fr (HeqGraph _)) rfl (.no rfl) (hd_sup hs rfl) (.cons (.tmp (hs.slots _ _ rfl) fun _ => rfl) (readA_sup hs rfl) (.cons (.tmp (hs.slots _ _ rfl) fun _ => rfl) (readA_sup hs rfl) .nil))) ?_
        refine DrawC.step rfl rfl rfl (Loc.of rfl fun σ' hs => R_not rfl (.no rfl) (hd_sup hs rfl) (.tmp (hs.slots _ _ rfl) fun _ => rfl)) ?_
        refine DrawC.fin rfl rfl ?_
        refine AWl.nil ?_
        refine AW.cond (.tmp rfl fun _ => rfl) (fun h64 => ?_) (fun h64 => ?_)
        · (exfalso; revert h64; simp; try omega)
        · skip
          try simp at h64
          refine AW.skip ?_
          refine AW.seq ?_
          refine AW.seq ?_
          refine AW.drawn 5 (nthB [[], [], [1], [0, 1, 2], [0, 1, 2, 3]]) (by kernel_rfl) (by kernel_rfl) (by kernel_rfl) ?_
          refine DrawC.step rfl rfl rfl (Loc.of rfl fun σ' hs => (by exact R_load_pp rfl (.no rfl) (hd_sup hs rfl) (.tmp (hs.slots _ _ rfl) fun _ => rfl) (hs.res _ _ rfl) ty38 rfl rfl)) ?_
          refine DrawC.step rfl rfl rfl (Loc.of rfl fun σ' hs => (by exact R_load rfl (.no rfl) (hd_sup hs rfl) (.tmp (hs.slots _ _ rfl) fun _ => rfl) ty31 rfl rfl)) ?_
          refine DrawC.step rfl rfl rfl (Loc.ofs rfl fun σ' hs hf => R_call 6700 (HtoView _ (by exact hz1)) rfl rfl (hd_sup hs rfl) (.cons (.tmp (hs.slots _ _ rfl) fun _ => rfl) (readA_sup hs rfl) .nil) rfl (all_fresh hf)) ?_
          refine DrawC.step rfl rfl rfl (Loc.of rfl fun σ' hs => R_callz (FnT.fr (HeqView _)) rfl (.no rfl) (hd_sup hs rfl) (.cons (.tmp (hs.slots _ _ rfl) fun _ => rfl) (readA_sup hs rfl) (.cons (.tmp (hs.slots _ _ rfl) fun _ => rfl) (readA_sup hs rfl) .nil))) ?_
          refine DrawC.step rfl rfl rfl (Loc.of rfl fun σ' hs => R_not rfl (.no rfl) (hd_sup hs rfl) (.tmp (hs.slots _ _ rfl) fun _ => rfl)) ?_
          refine DrawC.fin rfl rfl ?_
          refine AWl.nil ?_
          refine AW.cond (.tmp rfl fun _ => rfl) (fun h69 => ?_) (fun h69 => ?_)
          · (exfalso; revert h69; simp; try omega)
          · skip
            try simp at h69
            refine AW.skip ?_
            refine AW.seq ?_
            refine AW.region ?_
            refine AWl.put (R_assign rfl (.no rfl) rfl (.const rfl)) rfl ?_
            refine AWl.nil ?_
            refine AW.seq ?_
            refine AW.region ?_
            refine AWl.put ((by exact R_load_pp rfl (.no rfl) rfl (.tmp rfl fun _ => rfl) rfl ty43 rfl rfl)) rfl ?_
            refine AWl.put (R_move rfl (.no rfl) rfl (.tmp rfl fun _ => rfl)) rfl ?_
            refine AWl.marks (R_markc rfl rfl rfl (.tmp rfl fun _ => rfl) (.tmp rfl fun _ => rfl) (MmarkGraph _ _ (by omega)) (.rf rfl rfl (.rf rfl rfl .nil)) rfl rfl) rfl ?_
            refine AWl.put (R_assign rfl (.no rfl) rfl (.tmp rfl fun _ => rfl)) rfl ?_
            refine AWl.nil ?_
            refine AW.seq ?_
            refine AW.region ?_
            refine AWl.put ((by exact R_load_pp rfl (.no rfl) rfl (.tmp rfl fun _ => rfl) rfl ty38 rfl rfl)) rfl ?_
            refine AWl.put (R_move rfl (.no rfl) rfl (.tmp rfl fun _ => rfl)) rfl ?_
            refine AWl.marks (R_markc rfl rfl rfl (.tmp rfl fun _ => rfl) (.tmp rfl fun _ => rfl) (MmarkView _ _ (by omega)) (.v (.rf rfl rfl (.rf rfl rfl (.v (.rf rfl rfl (.rf rfl rfl .nil)))))) rfl rfl) rfl ?_
            refine AWl.put (R_assign rfl (.no rfl) rfl (.tmp rfl fun _ => rfl)) rfl ?_
            refine AWl.nil ?_
            refine AW.seq ?_
            refine AW.seq ?_
            refine AW.region ?_
            refine AWl.put (R_move rfl (.no rfl) rfl (.tmp rfl fun _ => rfl)) rfl ?_
            refine AWl.put (R_lt rfl (.no rfl) rfl (.tmp rfl fun _ => rfl) (.const rfl)) rfl ?_
            refine AWl.put (R_move rfl (.no rfl) rfl (.tmp rfl fun _ => rfl)) rfl ?_
            refine AWl.put ((by exact R_load_pp rfl (by exact .not1 rfl rfl rfl rfl) rfl (.tmp rfl (by exact fun _ => rfl)) rfl ty38 rfl rfl)) rfl ?_
            refine AWl.put ((by exact R_load_pp rfl (by exact .not1 rfl rfl rfl rfl) rfl (.tmp rfl (by exact fun _ => rfl)) rfl ty38 rfl rfl)) rfl ?_
            refine AWl.put (R_callz (FnT.fr (HeqView _)) rfl (by exact .not1 rfl rfl rfl rfl) rfl (.cons (.tmp rfl (by exact id)) rfl (.cons (.tmp rfl (by exact id)) rfl .nil))) rfl ?_
            refine AWl.put (R_not rfl (by exact .not1 rfl rfl rfl rfl) rfl (.tmp rfl (by exact id))) rfl ?_
            refine AWl.put (R_or rfl (.no rfl) rfl (.tmp rfl fun _ => rfl) (.tmp rfl (by exact id))) rfl ?_
            refine AWl.put (R_move rfl (.no rfl) rfl (.tmp rfl fun _ => rfl)) rfl ?_
            refine AWl.put (R_move rfl (by exact .not1 rfl rfl rfl rfl) rfl (.tmp rfl (by exact fun _ => rfl))) rfl ?_
            refine AWl.put (R_move rfl (by exact .not1 rfl rfl rfl rfl) rfl (.tmp rfl (by exact fun _ => rfl))) rfl ?_
            refine AWl.put (R_neb rfl (by exact .not1 rfl rfl rfl rfl) rfl (.tmp rfl (by exact id)) (.tmp rfl (by exact id)) Tryz.underlying4) rfl ?_
            refine AWl.put (R_or rfl (.no rfl) rfl (.tmp rfl fun _ => rfl) (.tmp rfl (by exact id))) rfl ?_
            refine AWl.nil ?_
            refine AW.cond (.tmp rfl fun _ => rfl) (fun h88 => ?_) (fun h88 => ?_)
            · (exfalso; revert h88; simp; try omega)
            · skip
              try simp at h88
              refine AW.skip ?_
              refine AW.seq ?_
              refine AW.region ?_
              refine AWl.put (R_assign rfl (.no rfl) rfl (.const rfl)) rfl ?_
              refine AWl.nil ?_
              refine AW.seq ?_
              refine AW.region ?_
              refine AWl.put ((by exact R_load_pp rfl (.no rfl) rfl (.tmp rfl fun _ => rfl) rfl ty38 rfl rfl)) rfl ?_
              refine AWl.put (R_move rfl (.no rfl) rfl (.tmp rfl fun _ => rfl)) rfl ?_
              refine AWl.marks (R_markc rfl rfl rfl (.tmp rfl fun _ => rfl) (.tmp rfl fun _ => rfl) (MmarkView _ _ (by omega)) (.v (.rf rfl rfl (.rf rfl rfl (.v (.rf rfl rfl (.rf rfl rfl .nil)))))) rfl rfl) rfl ?_
              refine AWl.put (R_assign rfl (.no rfl) rfl (.tmp rfl fun _ => rfl)) rfl ?_
              refine AWl.nil ?_
              refine AW.seq ?_
              refine AW.region ?_
              refine AWl.put (R_assign rfl (.no rfl) rfl (.const rfl)) rfl ?_
              refine AWl.nil ?_
              refine AW.seq ?_
              refine AW.region ?_
              refine AWl.put ((by exact R_load_pp rfl (.no rfl) rfl (.tmp rfl fun _ => rfl) rfl ty38 rfl rfl)) rfl ?_
              refine AWl.put (R_move rfl (.no rfl) rfl (.tmp rfl fun _ => rfl)) rfl ?_
              refine AWl.put (R_callz (FnT.fr (MheldView _ _ (by omega))) rfl (.no rfl) rfl (.cons (.tmp rfl fun _ => rfl) rfl (.cons (.tmp rfl fun _ => rfl) rfl .nil))) rfl ?_
              refine AWl.put (R_assign rfl (.no rfl) rfl (.tmp rfl fun _ => rfl)) rfl ?_
              refine AWl.nil ?_
              refine AW.seq ?_
              refine AW.seq ?_
              refine AW.region ?_
              refine AWl.put (R_move rfl (.no rfl) rfl (.tmp rfl fun _ => rfl)) rfl ?_
              refine AWl.put (R_lt rfl (.no rfl) rfl (.tmp rfl fun _ => rfl) (.const rfl)) rfl ?_
              refine AWl.nil ?_
              refine AW.cond (.tmp rfl fun _ => rfl) (fun h96 => ?_) (fun h96 => ?_)
              · (exfalso; revert h96; simp; try omega)
              · skip
                try simp at h96
                refine AW.skip ?_
                refine AW.seq ?_
                refine AW.seq ?_
                refine AW.region ?_
                refine AWl.put (R_move rfl (.no rfl) rfl (.tmp rfl fun _ => rfl)) rfl ?_
                refine AWl.put (R_move rfl (.no rfl) rfl (.tmp rfl fun _ => rfl)) rfl ?_
                refine AWl.put (R_ne rfl (.no rfl) rfl (.tmp rfl fun _ => rfl) (.tmp rfl fun _ => rfl)) rfl ?_
                refine AWl.nil ?_
                refine AW.cond (.tmp rfl fun _ => rfl) (fun h99 => ?_) (fun h99 => ?_)
                · (exfalso; revert h99; simp; try omega)
                · skip
                  try simp at h99
                  refine AW.skip ?_
                  refine AW.seq ?_
                  refine AW.drawnS 11 9 (nthB [[], [0], [], [0, 1, 2], [], [0, 1, 2, 3, 4], [0, 1, 2, 3, 4, 5], [0, 1, 2, 3, 4, 5, 6], [0, 1, 2, 3, 4, 5, 6, 7], [0, 1, 2, 3, 4, 5, 6, 7], [], [0, 1, 2, 3, 4, 5, 6, 7, 8, 10]]) (by kernel_rfl) (by kernel_rfl) (by kernel_rfl) (by kernel_rfl) rfl ?_
                  refine DrawG.step rfl rfl (Loc.of rfl fun σ' hs => (by exact R_load rfl (.no rfl) (hd_sup hs rfl) (.tmp (hs.slots _ _ rfl) fun _ => rfl) ty25 rfl rfl)) ?_
                  refine DrawG.step rfl rfl (Loc.ofs rfl fun σ' hs hf => R_call 10200 (HtoGraph _ (by exact hz0)) rfl rfl (hd_sup hs rfl) (.cons (.tmp (hs.slots _ _ rfl) fun _ => rfl) (readA_sup hs rfl) .nil) rfl (all_fresh hf)) ?_
                  refine DrawG.step rfl rfl (Loc.of rfl fun σ' hs => (by exact R_load rfl (.no rfl) (hd_sup hs rfl) (.tmp (hs.slots _ _ rfl) fun _ => rfl) ty31 rfl rfl)) ?_
                  refine DrawG.step rfl rfl (Loc.ofs rfl fun σ' hs hf => R_call 10400 (HtoView _ (by exact hz1)) rfl rfl (hd_sup hs rfl) (.cons (.tmp (hs.slots _ _ rfl) fun _ => rfl) (readA_sup hs rfl) .nil) rfl (all_fresh hf)) ?_
                  refine DrawG.step rfl rfl (Loc.of rfl fun σ' hs => (by exact R_load rfl (.no rfl) (hd_sup hs rfl) (.tmp (hs.slots _ _ rfl) fun _ => rfl) ty33 rfl rfl)) ?_
                  refine DrawG.step rfl rfl (Loc.of rfl fun σ' hs => R_callz (FnT.fr (HtoEdge _)) rfl (.no rfl) (hd_sup hs rfl) (.cons (.tmp (hs.slots _ _ rfl) fun _ => rfl) (readA_sup hs rfl) .nil)) ?_
                  refine DrawG.step rfl rfl (Loc.ofs rfl fun σ' hs hf => R_call 10700 (implViewAfterInsert _ _ _ (show aG.Values.length ≤ 1048576 from hz0.1) (show aG.Edges.length ≤ 1048576 from hz0.2.1) (hz1)) rfl rfl (hd_sup hs rfl) (.cons (.tmp (hs.slots _ _ rfl) fun _ => rfl) (readA_sup hs rfl) (.cons (.tmp (hs.slots _ _ rfl) fun _ => rfl) (readA_sup hs rfl) (.cons (.tmp (hs.slots _ _ rfl) fun _ => rfl) (readA_sup hs rfl) .nil))) rfl (all_fresh hf)) ?_
                  refine DrawG.step rfl rfl (Loc.of rfl fun σ' hs => R_movet rfl (.no rfl) (hd_sup hs rfl) (hs.slots _ _ rfl) fun _ => rfl) ?_
                  refine DrawG.step rfl rfl (Loc.of rfl fun σ' hs => R_extract rfl (.no rfl) (hd_sup hs rfl) (hs.slots _ _ rfl) (fun _ => rfl) rfl) ?_
                  refine DrawG.step rfl rfl (Loc.of rfl fun σ' hs => R_extract rfl (.no rfl) (hd_sup hs rfl) (hs.slots _ _ rfl) (fun _ => rfl) rfl) ?_
                  refine DrawG.step rfl rfl (Loc.of1 rfl fun σ' hs hf => R_alloc 17 rfl rfl (hd_sup hs rfl) in38 rfl rfl hf) ?_
                  refine DrawG.fin rfl (FinS.mk ⟨_, [(0, _), (1, _), (2, _), (3, _), (4, _), (5, _), (6, _), (7, _), (8, _), (9, _), (10, _), (11, _), (12, _), (13, _), (14, _), (15, _), (16, _), (17, _), (23, _), (28, _), (59, _), (64, _), (69, _), (88, _), (96, _), (99, _), (109, _)], [(3100, _), (3101, _), (3300, _), (3301, _), (3302, _), (3303, _), (8, _), (4000, _), (4001, _), (10, _), (4200, _), (4201, _), (4202, _), (4203, _), (11, _), (4800, _), (4801, _), (4802, _), (4803, _), (12, _), (6200, _), (6201, _), (6700, _), (6701, _), (6702, _), (6703, _), (10200, _), (10201, _), (10400, _), (10401, _), (10402, _), (10403, _), (10700, _), (10701, _), (10702, _), (10703, _), (17, _)]⟩ rfl rfl rfl rfl (R_store_pb rfl rfl rfl (.tmp rfl fun _ => rfl) (.tmp rfl fun _ => rfl) rfl ty38 rfl rfl rfl (by kernel_rfl) rfl) (R_store_pb rfl rfl rfl (.tmp rfl fun _ => rfl) (.tmp rfl fun _ => rfl) rfl ty38 rfl rfl rfl (by kernel_rfl) rfl) (R_extract rfl (.no rfl) rfl rfl (fun _ => rfl) rfl) (Sup.sub0 rfl ⟨rfl, rfl, rfl, rfl, rfl, rfl, rfl, rfl, rfl, rfl, rfl, rfl, rfl, rfl, rfl, rfl, rfl, rfl, rfl, rfl, rfl, rfl, rfl, rfl, rfl, rfl, rfl, trivial⟩ ⟨rfl, rfl, rfl, rfl, rfl, rfl, rfl, rfl, rfl, rfl, rfl, rfl, rfl, rfl, rfl, rfl, rfl, rfl, rfl, rfl, rfl, rfl, rfl, rfl, rfl, rfl, rfl, rfl, rfl, rfl, rfl, rfl, rfl, rfl, rfl, rfl, rfl, trivial⟩) (Sup.sub0 rfl ⟨rfl, rfl, rfl, rfl, rfl, rfl, rfl, rfl, rfl, rfl, rfl, rfl, rfl, rfl, rfl, rfl, rfl, rfl, rfl, rfl, rfl, rfl, rfl, rfl, rfl, rfl, rfl, trivial⟩ ⟨rfl, rfl, rfl, rfl, rfl, rfl, rfl, rfl, rfl, rfl, rfl, rfl, rfl, rfl, rfl, rfl, rfl, rfl, rfl, rfl, rfl, rfl, rfl, rfl, rfl, rfl, rfl, rfl, rfl, rfl, rfl, rfl, rfl, rfl, rfl, rfl, rfl, trivial⟩) ?_)
                  refine AWl.put (R_assign rfl (.no rfl) rfl (.tmp rfl fun _ => rfl)) rfl ?_
                  refine AWl.nil ?_
                  refine AW.seq ?_
                  refine AW.seq ?_
                  refine AW.region ?_
                  refine AWl.put ((by exact R_load_pp rfl (.no rfl) rfl (.tmp rfl fun _ => rfl) rfl ty38 rfl rfl)) rfl ?_
                  refine AWl.put ((by exact R_load_pp rfl (.no rfl) rfl (.tmp rfl fun _ => rfl) rfl ty38 rfl rfl)) rfl ?_
                  refine AWl.put (R_callz (FnT.fr (HeqView _)) rfl (.no rfl) rfl (.cons (.tmp rfl fun _ => rfl) rfl (.cons (.tmp rfl fun _ => rfl) rfl .nil))) rfl ?_
                  refine AWl.put (R_not rfl (.no rfl) rfl (.tmp rfl fun _ => rfl)) rfl ?_
                  refine AWl.put (R_move rfl (.no rfl) rfl (.tmp rfl fun _ => rfl)) rfl ?_
                  refine AWl.put (R_move rfl (by exact .not1 rfl rfl rfl rfl) rfl (.tmp rfl (by exact fun _ => rfl))) rfl ?_
                  refine AWl.put (R_move rfl (by exact .not1 rfl rfl rfl rfl) rfl (.tmp rfl (by exact fun _ => rfl))) rfl ?_
                  refine AWl.put (R_neb rfl (by exact .not1 rfl rfl rfl rfl) rfl (.tmp rfl (by exact fun _ => rfl)) (.tmp rfl (by exact fun _ => rfl)) Tryz.underlying4) rfl ?_
                  refine AWl.put (R_or rfl (.no rfl) rfl (.tmp rfl fun _ => rfl) (.tmp rfl (by exact fun _ => rfl))) rfl ?_
                  refine AWl.nil ?_
                  refine AW.cond (.tmp rfl fun _ => rfl) (fun h118 => ?_) (fun h118 => ?_)
                  · (exfalso; revert h118; simp; try omega)
                  · skip
                    try simp at h118
                    refine AW.skip ?_
                    refine AW.seq ?_
                    refine AW.region ?_
                    refine AWl.put (R_assign rfl (.no rfl) rfl (.const rfl)) rfl ?_
                    refine AWl.nil ?_
                    refine AW.seq ?_
                    refine AW.region ?_
                    refine AWl.put ((by exact R_load_pp rfl (.no rfl) rfl (.tmp rfl fun _ => rfl) rfl ty38 rfl rfl)) rfl ?_
                    refine AWl.put (R_move rfl (.no rfl) rfl (.tmp rfl fun _ => rfl)) rfl ?_
                    refine AWl.put (R_callz (FnT.fr (MheldView _ _ (by omega))) rfl (.no rfl) rfl (.cons (.tmp rfl fun _ => rfl) rfl (.cons (.tmp rfl fun _ => rfl) rfl .nil))) rfl ?_
                    refine AWl.put (R_assign rfl (.no rfl) rfl (.tmp rfl fun _ => rfl)) rfl ?_
                    refine AWl.nil ?_
                    refine AW.seq ?_
                    refine AW.seq ?_
                    refine AW.region ?_
                    refine AWl.put (R_move rfl (.no rfl) rfl (.tmp rfl fun _ => rfl)) rfl ?_
                    refine AWl.put (R_lt rfl (.no rfl) rfl (.tmp rfl fun _ => rfl) (.const rfl)) rfl ?_
                    refine AWl.nil ?_
                    refine AW.cond (.tmp rfl fun _ => rfl) (fun h123 => ?_) (fun h123 => ?_)
                    · (exfalso; revert h123; simp; try omega)
                    · skip
                      try simp at h123
                      refine AW.skip ?_
                      refine AW.seq ?_
                      refine AW.seq ?_
                      refine AW.region ?_
                      refine AWl.put (R_move rfl (.no rfl) rfl (.tmp rfl fun _ => rfl)) rfl ?_
                      refine AWl.put (R_move rfl (.no rfl) rfl (.tmp rfl fun _ => rfl)) rfl ?_
                      refine AWl.put (R_ne rfl (.no rfl) rfl (.tmp rfl fun _ => rfl) (.tmp rfl fun _ => rfl)) rfl ?_
                      refine AWl.nil ?_
                      refine AW.cond (.tmp rfl fun _ => rfl) (fun h126 => ?_) (fun h126 => ?_)
                      · (exfalso; revert h126; simp; try omega)
                      · skip
                        try simp at h126
                        refine AW.skip ?_
                        refine AW.seq ?_
                        refine AW.region ?_
                        refine AWl.put (R_assign rfl (.no rfl) rfl (.const rfl)) rfl ?_
                        refine AWl.nil ?_
                        refine AW.ret ?_
                        refine Res.v rfl rfl ?_
                        rfl
namespace LFnExactViewAfterInsert
theorem opensInt : OpensT cInt Tryz.prog 3 := opensTInt Tryz.underlying3
theorem opensIntS : OpensT cIntS Tryz.prog 22 := opensTSlice (c := cInt) Tryz.underlying22 (by kernel_rfl) (by decide) (fun _ => rfl) opensInt
set_option maxRecDepth 100000 in
theorem opensEdge : OpensT cEdge Tryz.prog 33 := by
  intro H enc w base spare held fuel cs x h
  obtain ⟨xs, n, _, _, hlen, hxl, hf⟩ := DataW.trod_struct Tryz.underlying33 h
  rw [show Tryz.prog.cellsOf 33 = 4 from by kernel_rfl] at hlen
  have kInt : Tryz.prog.cellsOf 3 = 1 := by kernel_rfl
  match cs, hlen, xs, hxl with
  | [c0, c1, c2, c3], _, [y0, y1, y2, y3], _ =>
    have g0 : DataW.trod enc Tryz.prog w base spare held n 3 [c0] = some y0 := by simpa [kInt] using hf 0 _ rfl
    obtain ⟨x0, F0, e0⟩ := opensInt g0
    have g1 : DataW.trod enc Tryz.prog w base spare held n 3 [c1] = some y1 := by simpa [kInt] using hf 1 _ rfl
    obtain ⟨x1, F1, e1⟩ := opensInt g1
    have g2 : DataW.trod enc Tryz.prog w base spare held n 3 [c2] = some y2 := by simpa [kInt] using hf 2 _ rfl
    obtain ⟨x2, F2, e2⟩ := opensInt g2
    have g3 : DataW.trod enc Tryz.prog w base spare held n 3 [c3] = some y3 := by simpa [kInt] using hf 3 _ rfl
    obtain ⟨x3, F3, e3⟩ := opensInt g3
    exact ⟨⟨x0, x1, x2, x3⟩, _, (e0.append (e1.append (e2.append e3)))⟩
theorem opensEdgeS : OpensT cEdgeS Tryz.prog 23 := opensTSlice (c := cEdge) Tryz.underlying23 (by kernel_rfl) (by decide) (fun _ => rfl) opensEdge
set_option maxRecDepth 100000 in
theorem opensGraph : OpensT cGraph Tryz.prog 25 := by
  intro H enc w base spare held fuel cs x h
  obtain ⟨xs, n, _, _, hlen, hxl, hf⟩ := DataW.trod_struct Tryz.underlying25 h
  rw [show Tryz.prog.cellsOf 25 = 2 from by kernel_rfl] at hlen
  have kEdgeS : Tryz.prog.cellsOf 23 = 1 := by kernel_rfl
  have kIntS : Tryz.prog.cellsOf 22 = 1 := by kernel_rfl
  match cs, hlen, xs, hxl with
  | [c0, c1], _, [y0, y1], _ =>
    have g0 : DataW.trod enc Tryz.prog w base spare held n 22 [c0] = some y0 := by simpa [kIntS] using hf 0 _ rfl
    obtain ⟨x0, F0, e0⟩ := opensIntS g0
    have g1 : DataW.trod enc Tryz.prog w base spare held n 23 [c1] = some y1 := by simpa [kEdgeS] using hf 1 _ rfl
    obtain ⟨x1, F1, e1⟩ := opensEdgeS g1
    exact ⟨⟨x0, x1⟩, _, (e0.append e1)⟩
theorem opensBool : OpensT cBool Tryz.prog 4 := opensTBool Tryz.underlying4
theorem opensBoolS : OpensT cBoolS Tryz.prog 26 := opensTSlice (c := cBool) Tryz.underlying26 (by kernel_rfl) (by decide) (fun _ => rfl) opensBool
theorem opensIntSS : OpensT cIntSS Tryz.prog 27 := opensTSlice (c := cIntS) Tryz.underlying27 (by kernel_rfl) (by decide) (fun _ => rfl) opensIntS
set_option maxRecDepth 100000 in
theorem opensAutomaton : OpensT cAutomaton Tryz.prog 29 := by
  intro H enc w base spare held fuel cs x h
  obtain ⟨xs, n, _, _, hlen, hxl, hf⟩ := DataW.trod_struct Tryz.underlying29 h
  rw [show Tryz.prog.cellsOf 29 = 3 from by kernel_rfl] at hlen
  have kIntSS : Tryz.prog.cellsOf 27 = 1 := by kernel_rfl
  have kBoolS : Tryz.prog.cellsOf 26 = 1 := by kernel_rfl
  have kInt : Tryz.prog.cellsOf 3 = 1 := by kernel_rfl
  match cs, hlen, xs, hxl with
  | [c0, c1, c2], _, [y0, y1, y2], _ =>
    have g0 : DataW.trod enc Tryz.prog w base spare held n 3 [c0] = some y0 := by simpa [kInt] using hf 0 _ rfl
    obtain ⟨x0, F0, e0⟩ := opensInt g0
    have g1 : DataW.trod enc Tryz.prog w base spare held n 26 [c1] = some y1 := by simpa [kBoolS] using hf 1 _ rfl
    obtain ⟨x1, F1, e1⟩ := opensBoolS g1
    have g2 : DataW.trod enc Tryz.prog w base spare held n 27 [c2] = some y2 := by simpa [kIntSS] using hf 2 _ rfl
    obtain ⟨x2, F2, e2⟩ := opensIntSS g2
    exact ⟨⟨x0, x1, x2⟩, _, (e0.append (e1.append e2))⟩
set_option maxRecDepth 100000 in
theorem opensView : OpensT cView Tryz.prog 31 := by
  intro H enc w base spare held fuel cs x h
  obtain ⟨xs, n, _, _, hlen, hxl, hf⟩ := DataW.trod_struct Tryz.underlying31 h
  rw [show Tryz.prog.cellsOf 31 = 6 from by kernel_rfl] at hlen
  have kAutomaton : Tryz.prog.cellsOf 29 = 3 := by kernel_rfl
  have kIntS : Tryz.prog.cellsOf 22 = 1 := by kernel_rfl
  have kInt : Tryz.prog.cellsOf 3 = 1 := by kernel_rfl
  match cs, hlen, xs, hxl with
  | [c0, c1, c2, c3, c4, c5], _, [y0, y1, y2, y3], _ =>
    have g0 : DataW.trod enc Tryz.prog w base spare held n 29 [c0, c1, c2] = some y0 := by simpa [kAutomaton] using hf 0 _ rfl
    obtain ⟨x0, F0, e0⟩ := opensAutomaton g0
    have g1 : DataW.trod enc Tryz.prog w base spare held n 3 [c3] = some y1 := by simpa [kInt] using hf 1 _ rfl
    obtain ⟨x1, F1, e1⟩ := opensInt g1
    have g2 : DataW.trod enc Tryz.prog w base spare held n 22 [c4] = some y2 := by simpa [kIntS] using hf 2 _ rfl
    obtain ⟨x2, F2, e2⟩ := opensIntS g2
    have g3 : DataW.trod enc Tryz.prog w base spare held n 22 [c5] = some y3 := by simpa [kIntS] using hf 3 _ rfl
    obtain ⟨x3, F3, e3⟩ := opensIntS g3
    exact ⟨⟨x0, x1, x2, x3⟩, _, (e0.append (e1.append (e2.append e3)))⟩
theorem ownFnExactViewAfterInsert : ownKnob Tryz.prog.godebug = none := by kernel_rfl
theorem laidOutFnExactViewAfterInsert : laidOutB Tryz.prog = true := by kernel_rfl
set_option maxRecDepth 100000 in
theorem liftedFnExactViewAfterInsert (os : Os) (started : os.Started) (H : Type) (enc : TypeId × Value → H) :
    ReturnsInHanded {} Tryz.checked os 3 .any (Rows.fnExactViewAfterInsertSpec.pre6 enc Tryz.prog Tryz.f3 Rows.fnExactViewAfterInsertRow.domain false) (Rows.fnExactViewAfterInsertSpec.post enc Tryz.prog Tryz.f3 false true false false) := by
  refine returnsInHanded_of_change_shaped (C := Tryz.checked) ownFnExactViewAfterInsert started (by kernel_rfl) Tryz.func3
    (ChangeSpec.witness6 (enc := enc) (C := Tryz.checked) false ⟨#[], #[.agg #[.slice none 0 0, .slice none 0 0], .agg #[.int .i64 0, .slice none 0 0, .slice none 0 0, .int .i64 0, .slice none 0 0, .slice none 0 0], .agg #[.int .i64 0, .int .i64 0, .int .i64 0, .int .i64 0]], []⟩ 8 (by kernel_rfl) (by kernel_rfl) (by kernel_rfl) (by kernel_rfl)) ?_
  intro W base args ds gs before hval0 hW hcnd _ hsh _
  have hgood : Go.Q.Good W [] := Go.Q.good_of ⟨hsh, trivial, trivial⟩
  have hval : ∀ (j : Nat) t v, Tryz.f3.params[j]? = some t → args[j]? = some v → Value.okWide Tryz.prog W .any base t v := hval0
  have hW' := hW
  obtain ⟨p, q, hA0, hV, rfl, hfz, hnd⟩ := hW
  have hA : DataW.TrodAll enc Tryz.prog W 0 (fun _ => true) true Tryz.f3.params.toList args.toList ds p := hA0
  rw [Tryz.params3] at hA hval
  obtain ⟨v0, vs0, d0, ds0, p0, q0, hargs, rfl, rfl, h0, r0⟩ := trodAll_cons hA
  obtain ⟨v1, vs1, d1, ds1, p1, q1, rfl, rfl, rfl, h1, r1⟩ := trodAll_cons r0
  obtain ⟨v2, vs2, d2, ds2, p2, q2, rfl, rfl, rfl, h2, r2⟩ := trodAll_cons r1
  obtain ⟨rfl, rfl, rfl⟩ := trodAll_nil r2
  obtain rfl : args = #[v0, v1, v2] := by cases args; simp_all
  obtain ⟨rfl, rfl⟩ := trodVars_none hV
  obtain ⟨cs0, rfl, _⟩ := okWide_struct Tryz.underlying25 (hval 0 25 v0 rfl rfl)
  have k0 := h0
  have lt0 : ∀ x ∈ p0, x.block < W.heap.size := by obtain ⟨m, hm⟩ := k0; exact DataW.trod_lt m _ _ _ hm
  obtain ⟨x0, F0, hs0⟩ := OpensT.vl opensGraph h0
  obtain ⟨cs1, rfl, _⟩ := okWide_struct Tryz.underlying31 (hval 1 31 v1 rfl rfl)
  have k1 := h1
  have lt1 : ∀ x ∈ p1, x.block < W.heap.size := by obtain ⟨m, hm⟩ := k1; exact DataW.trod_lt m _ _ _ hm
  obtain ⟨x1, F1, hs1⟩ := OpensT.vl opensView h1
  obtain ⟨cs2, rfl, _⟩ := okWide_struct Tryz.underlying33 (hval 2 33 v2 rfl rfl)
  have k2 := h2
  have lt2 : ∀ x ∈ p2, x.block < W.heap.size := by obtain ⟨m, hm⟩ := k2; exact DataW.trod_lt m _ _ _ hm
  obtain ⟨x2, F2, hs2⟩ := OpensT.vl opensEdge h2
  clear hA0 hval0
  refine ((lawFnExactViewAfterInsert x0 x1 x2).2 W _ _ hgood ⟨_, _, _, _, rfl, (show V0r false W (.agg (cGraph x0)) _ _ from ⟨cs0.toList, by simp, hs0⟩), ⟨_, _, _, _, rfl, (show V0r false W (.agg (cView x1)) _ _ from ⟨cs1.toList, by simp, hs1⟩), ⟨_, _, _, _, rfl, (show V0r false W (.agg (cEdge x2)) _ _ from ⟨cs2.toList, by simp, hs2⟩), ⟨rfl, rfl⟩, rfl⟩, rfl⟩, rfl⟩).mono fun e W' ⟨v, F, he, hv, _, _, bel⟩ => ?_
  have hv2 : v = .bool true := by unfold Vr V0r C at hv; exact hv.1
  subst hv2
  subst he
  exact ⟨_, rfl, _, _, _, [], _, [], hW', trodAll_mk1 (shut_bool Tryz.underlying4 _), (trodAll_cons_mk (Below.trod laidOutFnExactViewAfterInsert (by kernel_rfl) (of_decide_eq_true (by kernel_rfl)) k0 bel lt0) (trodAll_cons_mk (Below.trod laidOutFnExactViewAfterInsert (by kernel_rfl) (of_decide_eq_true (by kernel_rfl)) k1 bel lt1) (trodAll_cons_mk (Below.trod laidOutFnExactViewAfterInsert (by kernel_rfl) (of_decide_eq_true (by kernel_rfl)) k2 bel lt2) trodAll_mk0))), rfl, Below.frame bel _, fun h => by cases h⟩
theorem jfa : (Rows.fnExactViewAfterInsertRow.inPlace == Tryz.prog.inPlace 3) = true := by kernel_rfl
theorem jfb : (Rows.fnExactViewAfterInsertRow.unfollowed == Tryz.prog.unfollowed 3) = true := by kernel_rfl
theorem jfc : (Rows.fnExactViewAfterInsertRow.recurses == Tryz.prog.recurses 3) = true := by kernel_rfl
theorem jfd : (Rows.fnExactViewAfterInsertRow.named == Tryz.prog.varsNamed 3) = true := by kernel_rfl
theorem jfe : mapsRowed Tryz.prog = true := by kernel_rfl
theorem jff : joinedFacts Tryz.prog 3 Tryz.f3 Rows.fnExactViewAfterInsertSpec Rows.fnExactViewAfterInsertRow = true := by
  unfold joinedFacts
  rw [laidOutFnExactViewAfterInsert, jfa, jfb, jfc, jfd, jfe]
  kernel_rfl
set_option maxRecDepth 100000 in
/-- The statement. -/
theorem provedFnExactViewAfterInsert : Rows.FnExactViewAfterInsertSaid :=
  OpenClaim.holds_of_wide 3 Tryz.f3 rfl rfl rfl rfl rfl rfl rfl ⟨rfl, rfl, rfl, rfl, rfl⟩ rfl rfl rfl rfl rfl (by kernel_rfl) Tryz.func3 jff
    (of_decide_eq_true (by kernel_rfl)) (by unfold Func.isWrapper; first | (rw [if_pos (by decide +kernel)]; kernel_rfl) | (rw [if_neg (by decide +kernel)]; exact ⟨rfl, rfl⟩))
    (fun os started H enc _ => liftedFnExactViewAfterInsert os started H enc)
#print axioms provedFnExactViewAfterInsert
end LFnExactViewAfterInsert
end Go.Proofs.YtoealglkenhphaaGreat
