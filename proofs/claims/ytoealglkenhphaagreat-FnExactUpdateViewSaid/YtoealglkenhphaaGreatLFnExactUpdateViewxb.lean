import Derived.Test.YtoealglkenhphaaGreatRows
import Derived.Test.YtoealglkenhphaaGreatHBxb
import Derived.Test.YtoealglkenhphaaGreatHCxb
import Derived.Test.YtoealglkenhphaaGreatHMxb
import Derived.Test.YtoealglkenhphaaGreatAbsTyxb
import Derived.Test.YtoealglkenhphaaGreatB105xb
set_option linter.unusedVariables false
set_option linter.unusedSimpArgs false
namespace Go.Proofs.YtoealglkenhphaaGreat
open Go.RowKit Go.Q Go.D Go.ChangeShapes Go.WideShapes Go.ChangeAt Go.Deep
open Go.ChangeMaps (open_string shut_string)
set_option maxRecDepth 100000 in
set_option maxHeartbeats 1000000 in
theorem lawFnExactUpdateView (aG : TGraph) (aV : TView) (aB : TBatch) : FnT Tryz.prog 4 [.agg (cGraph aG), .agg (cView aV), .agg (cBatch aB)] (.a (.one (.v (.bool true)))) := by
 refine FnT.walk Tryz.func4 rfl (by kernel_rfl) Tryz.ntmps4 rfl fun hlen w0 => ?_
 try simp [cEdge, cGraph, cStep, cChange, cBatch, cAutomaton, cProductStep, cView] at hlen
 clear hlen
 refine AW.sr ?_
 refine AWl.put (R_boxz rfl rfl rfl (.tm rfl) (ts := _) (by rfl)) rfl ?_
 refine AWl.put (R_boxz rfl rfl rfl (.tm rfl) (ts := _) (by rfl)) rfl ?_
 refine AWl.put (R_boxz rfl rfl rfl (.tm rfl) (ts := _) (by rfl)) rfl ?_
 refine AWl.ac rfl rfl rfl rfl rfl ?_
 refine AWl.nil ?_
 refine AW.sr ?_
 refine AWl.ac rfl rfl rfl rfl rfl ?_
 refine AWl.nil ?_
 refine AW.sr ?_
 refine AWl.put (by exact R_load rfl (.no rfl) rfl (.tm rfl) ty25 rfl rfl) rfl ?_
 refine AWl.mv rfl rfl rfl rfl rfl ?_
 refine AWl.put (R_callz (FnT.fr (HszGraph _ _ (by omega))) rfl (.no rfl) rfl (.cons (.tm rfl) rfl (.cons (.tm rfl) rfl .nil))) rfl ?_
 refine AWl.av rfl rfl rfl rfl rfl ?_
 refine AWl.nil ?_
 refine AW.seq ?_
 refine AW.sr ?_
 refine AWl.mv rfl rfl rfl rfl rfl ?_
 refine AWl.put (R_lt rfl (.no rfl) rfl (.tm rfl) (.const rfl)) rfl ?_
 refine AWl.nil ?_
 refine AW.cond (.tm rfl) (fun h24 => ?_) (fun h24 => ?_)
 ·skip
  try simp at h24
  refine AW.sr ?_
  refine AWl.ac rfl rfl rfl rfl rfl ?_
  refine AWl.nil ?_
  refine AW.ret ?_
  refine Res.v rfl rfl ?_
  rfl
 ·skip
  try simp at h24
  have hb0 := szGraph_ok aG 1048576 (by omega) (by omega)
  have hz0 := hb0.2 (by omega)
  refine AW.skip ?_
  refine AW.sr ?_
  refine AWl.put (by exact R_load rfl (.no rfl) rfl (.tm rfl) ty31 rfl rfl) rfl ?_
  refine AWl.mv rfl rfl rfl rfl rfl ?_
  refine AWl.put (R_callz (FnT.fr (HszView _ _ (by omega))) rfl (.no rfl) rfl (.cons (.tm rfl) rfl (.cons (.tm rfl) rfl .nil))) rfl ?_
  refine AWl.av rfl rfl rfl rfl rfl ?_
  refine AWl.nil ?_
  refine AW.seq ?_
  refine AW.sr ?_
  refine AWl.mv rfl rfl rfl rfl rfl ?_
  refine AWl.put (R_lt rfl (.no rfl) rfl (.tm rfl) (.const rfl)) rfl ?_
  refine AWl.nil ?_
  refine AW.cond (.tm rfl) (fun h29 => ?_) (fun h29 => ?_)
  ·skip
   try simp at h29
   refine AW.sr ?_
   refine AWl.ac rfl rfl rfl rfl rfl ?_
   refine AWl.nil ?_
   refine AW.ret ?_
   refine Res.v rfl rfl ?_
   rfl
  ·skip
   try simp at h29
   have hb1 := szView_ok aV (szGraph aG 1048576) (by omega) (by omega)
   have hz1 := hb1.2 (by omega)
   refine AW.skip ?_
   refine AW.sr ?_
   refine AWl.put (by exact R_load rfl (.no rfl) rfl (.tm rfl) ty55 rfl rfl) rfl ?_
   refine AWl.mv rfl rfl rfl rfl rfl ?_
   refine AWl.put (R_callz (FnT.fr (HszBatch _ _ (by omega))) rfl (.no rfl) rfl (.cons (.tm rfl) rfl (.cons (.tm rfl) rfl .nil))) rfl ?_
   refine AWl.av rfl rfl rfl rfl rfl ?_
   refine AWl.nil ?_
   refine AW.seq ?_
   refine AW.sr ?_
   refine AWl.mv rfl rfl rfl rfl rfl ?_
   refine AWl.put (R_lt rfl (.no rfl) rfl (.tm rfl) (.const rfl)) rfl ?_
   refine AWl.nil ?_
   refine AW.cond (.tm rfl) (fun h34 => ?_) (fun h34 => ?_)
   ·skip
    try simp at h34
    refine AW.sr ?_
    refine AWl.ac rfl rfl rfl rfl rfl ?_
    refine AWl.nil ?_
    refine AW.ret ?_
    refine Res.v rfl rfl ?_
    rfl
   ·skip
    try simp at h34
    have hb2 := szBatch_ok aB (szView aV (szGraph aG 1048576)) (by omega) (by omega)
    have hz2 := hb2.2 (by omega)
    have hcn0 := cpGraph_nn aG
    have hco0 := cpGraph_ok (by exact (hz0 : okGraph aG))
    have hcn1 := cpView_nn aV
    have hco1 := cpView_ok (by exact (hz1 : okView aV))
    have hcn2 := cpBatch_nn aB
    have hco2 := cpBatch_ok (by exact (hz2 : okBatch aB))
    have hbd0 := viewUpd_cnt aG aV aB
    have hbd1 := cpView_nn (viewAft aG aV (applyB aG aB)).1
    refine AW.skip ?_
    refine AW.seq ?_
    refine AW.drawnS 11 9 (nthB [[], [0], [], [0, 1, 2], [], [0, 1, 2, 3, 4], [0, 1, 2, 3, 4, 5], [0, 1, 2, 3, 4, 5, 6], [0, 1, 2, 3, 4, 5, 6, 7], [0, 1, 2, 3, 4, 5, 6, 7], [], [0, 1, 2, 3, 4, 5, 6, 7, 8, 10]]) (by kernel_rfl) (by kernel_rfl) (by kernel_rfl) (by kernel_rfl) rfl ?_
    refine DrawG.step rfl rfl (Loc.of rfl fun σ' hs => (by exact R_load rfl (.no rfl) (hd_sup hs rfl) (.tm (hs.slots _ _ rfl)) ty25 rfl rfl)) ?_
    refine DrawG.step rfl rfl (Loc.ofs rfl fun σ' hs hf => R_call 3700 (HtoGraph _ (by exact hz0)) rfl rfl (hd_sup hs rfl) (.cons (.tm (hs.slots _ _ rfl)) (readA_sup hs rfl) .nil) rfl (all_fresh hf)) ?_
    refine DrawG.step rfl rfl (Loc.of rfl fun σ' hs => (by exact R_load rfl (.no rfl) (hd_sup hs rfl) (.tm (hs.slots _ _ rfl)) ty31 rfl rfl)) ?_
    refine DrawG.step rfl rfl (Loc.ofs rfl fun σ' hs hf => R_call 3900 (HtoView _ (by exact hz1)) rfl rfl (hd_sup hs rfl) (.cons (.tm (hs.slots _ _ rfl)) (readA_sup hs rfl) .nil) rfl (all_fresh hf)) ?_
    refine DrawG.step rfl rfl (Loc.of rfl fun σ' hs => (by exact R_load rfl (.no rfl) (hd_sup hs rfl) (.tm (hs.slots _ _ rfl)) ty55 rfl rfl)) ?_
    refine DrawG.step rfl rfl (Loc.ofs rfl fun σ' hs hf => R_call 4100 (HtoBatch _ (by exact hz2)) rfl rfl (hd_sup hs rfl) (.cons (.tm (hs.slots _ _ rfl)) (readA_sup hs rfl) .nil) rfl (all_fresh hf)) ?_
    refine DrawG.step rfl rfl (Loc.of rfl fun σ' hs => R_callz (FnT.fr (specUpdateView _ _ _ (show aG.Values.length ≤ 1048576 from hz0.1) (show aG.Edges.length ≤ 1048576 from hz0.2.1) (hz1))) rfl (.no rfl) (hd_sup hs rfl) (.cons (.tm (hs.slots _ _ rfl)) (readA_sup hs rfl) (.cons (.tm (hs.slots _ _ rfl)) (readA_sup hs rfl) (.cons (.tm (hs.slots _ _ rfl)) (readA_sup hs rfl) .nil)))) ?_
    refine DrawG.step rfl rfl (Loc.of rfl fun σ' hs => R_movet rfl (.no rfl) (hd_sup hs rfl) (hs.slots _ _ rfl) fun _ => rfl) ?_
    refine DrawG.step rfl rfl (Loc.of rfl fun σ' hs => R_extract rfl (.no rfl) (hd_sup hs rfl) (hs.slots _ _ rfl) (fun _ => rfl) rfl) ?_
    refine DrawG.step rfl rfl (Loc.of rfl fun σ' hs => R_extract rfl (.no rfl) (hd_sup hs rfl) (hs.slots _ _ rfl) (fun _ => rfl) rfl) ?_
    refine DrawG.step rfl rfl (Loc.of1 rfl fun σ' hs hf => R_alloc 8 rfl rfl (hd_sup hs rfl) in38 rfl rfl hf) ?_
    refine DrawG.fin rfl (FinS.mk ⟨_, [(0, _), (1, _), (2, _), (3, _), (4, _), (5, _), (6, _), (7, _), (8, _), (24, _), (29, _), (34, _), (44, _)], [(3700, _), (3701, _), (3900, _), (3901, _), (3902, _), (3903, _), (4100, _), (8, _)]⟩ rfl rfl rfl rfl (R_store_pb rfl rfl rfl (.tm rfl) (.tm rfl) rfl ty38 rfl rfl rfl (by kernel_rfl) rfl) (R_store_pb rfl rfl rfl (.tm rfl) (.tm rfl) rfl ty38 rfl rfl rfl (by kernel_rfl) rfl) (R_extract rfl (.no rfl) rfl rfl (fun _ => rfl) rfl) (Sup.sub0 rfl ⟨rfl, rfl, rfl, rfl, rfl, rfl, rfl, rfl, rfl, rfl, rfl, rfl, rfl, trivial⟩ ⟨rfl, rfl, rfl, rfl, rfl, rfl, rfl, rfl, trivial⟩) (Sup.sub0 rfl ⟨rfl, rfl, rfl, rfl, rfl, rfl, rfl, rfl, rfl, rfl, rfl, rfl, rfl, trivial⟩ ⟨rfl, rfl, rfl, rfl, rfl, rfl, rfl, rfl, trivial⟩) ?_)
    refine AWl.av rfl rfl rfl rfl rfl ?_
    refine AWl.nil ?_
    refine AW.sr ?_
    refine AWl.put (by exact R_load rfl (.no rfl) rfl (.tm rfl) ty25 rfl rfl) rfl ?_
    refine AWl.adds (R_call 4600 (HtoGraph _ (by exact hz0)) rfl rfl rfl (.cons (.tm rfl) rfl .nil) rfl rfl) rfl ?_
    refine AWl.add (R_alloc 10 rfl rfl rfl in43 rfl rfl rfl) rfl ?_
    refine AWl.chgb (R_store_pb rfl rfl rfl (.tm rfl) (.tm rfl) rfl ty43 rfl rfl rfl (by kernel_rfl) rfl) ?_
    refine AWl.nil ?_
    refine AW.sr ?_
    refine AWl.put (by exact R_load rfl (.no rfl) rfl (.tm rfl) ty31 rfl rfl) rfl ?_
    refine AWl.adds (R_call 4800 (HtoView _ (by exact hz1)) rfl rfl rfl (.cons (.tm rfl) rfl .nil) rfl rfl) rfl ?_
    refine AWl.add (R_alloc 11 rfl rfl rfl in38 rfl rfl rfl) rfl ?_
    refine AWl.chgb (R_store_pb rfl rfl rfl (.tm rfl) (.tm rfl) rfl ty38 rfl rfl rfl (by kernel_rfl) rfl) ?_
    refine AWl.nil ?_
    refine AW.sr ?_
    refine AWl.put (by exact R_load rfl (.no rfl) rfl (.tm rfl) ty55 rfl rfl) rfl ?_
    refine AWl.adds (R_call 5000 (HtoBatch _ (by exact hz2)) rfl rfl rfl (.cons (.tm rfl) rfl .nil) rfl rfl) rfl ?_
    refine AWl.add (R_alloc 12 rfl rfl rfl in60 rfl rfl rfl) rfl ?_
    refine AWl.chgb (R_store_pb rfl rfl rfl (.tm rfl) (.tm rfl) rfl ty60 rfl rfl rfl (by kernel_rfl) rfl) ?_
    refine AWl.nil ?_
    refine AW.sr ?_
    refine AWl.put (by exact R_load_pp rfl (.no rfl) rfl (.tm rfl) rfl ty43 rfl rfl) rfl ?_
    refine AWl.put (by exact R_load_pp rfl (.no rfl) rfl (.tm rfl) rfl ty38 rfl rfl) rfl ?_
    refine AWl.put (by exact R_load_pp rfl (.no rfl) rfl (.tm rfl) rfl ty60 rfl rfl) rfl ?_
    refine AWl.adds (R_call 5500 (implUpdateView _ _ _ (show aG.Values.length ≤ 1048576 from hz0.1) (show aG.Edges.length ≤ 1048576 from hz0.2.1) (hz1)) rfl rfl rfl (.cons (.tm rfl) rfl (.cons (.tm rfl) rfl (.cons (.tm rfl) rfl .nil))) rfl rfl) rfl ?_
    refine AWl.put (R_movet rfl (.no rfl) rfl rfl fun _ => rfl) rfl ?_
    refine AWl.put (R_extract rfl (.no rfl) rfl rfl (fun _ => rfl) rfl) rfl ?_
    refine AWl.put (R_extract rfl (.no rfl) rfl rfl (fun _ => rfl) rfl) rfl ?_
    refine AWl.add (R_alloc 13 rfl rfl rfl in38 rfl rfl rfl) rfl ?_
    refine AWl.chgb (R_store_pb rfl rfl rfl (.tm rfl) (.tm rfl) rfl ty38 rfl rfl rfl (by kernel_rfl) rfl) ?_
    refine AWl.av rfl rfl rfl rfl rfl ?_
    refine AWl.nil ?_
    refine AW.seq ?_
    refine AW.sr ?_
    refine AWl.put (by exact R_load_pp rfl (.no rfl) rfl (.tm rfl) rfl ty38 rfl rfl) rfl ?_
    refine AWl.put (by exact R_load_pp rfl (.no rfl) rfl (.tm rfl) rfl ty38 rfl rfl) rfl ?_
    refine AWl.put (R_callz (FnT.fr (HeqView _)) rfl (.no rfl) rfl (.cons (.tm rfl) rfl (.cons (.tm rfl) rfl .nil))) rfl ?_
    refine AWl.put (R_not rfl (.no rfl) rfl (.tm rfl)) rfl ?_
    refine AWl.mv rfl rfl rfl rfl rfl ?_
    refine AWl.put (R_move rfl (by exact .not1 rfl rfl rfl rfl) rfl (.tmp rfl (by exact fun _ => rfl))) rfl ?_
    refine AWl.put (R_move rfl (by exact .not1 rfl rfl rfl rfl) rfl (.tmp rfl (by exact fun _ => rfl))) rfl ?_
    refine AWl.put (R_neb rfl (by exact .not1 rfl rfl rfl rfl) rfl (.tmp rfl (by exact fun _ => rfl)) (.tmp rfl (by exact fun _ => rfl)) Tryz.underlying4) rfl ?_
    refine AWl.put (R_or rfl (.no rfl) rfl (.tm rfl) (.tmp rfl (by exact fun _ => rfl))) rfl ?_
    refine AWl.nil ?_
    refine AW.cond (.tm rfl) (fun h66 => ?_) (fun h66 => ?_)
    ·(exfalso; revert h66; simp; try omega)
    ·skip
     try simp at h66
     refine AW.skip ?_
     refine AW.seq ?_
     refine AW.seq ?_
     refine AW.drawn 5 (nthB [[], [], [1], [0, 1, 2], [0, 1, 2, 3]]) (by kernel_rfl) (by kernel_rfl) (by kernel_rfl) ?_
     refine DrawC.step rfl rfl rfl (Loc.of rfl fun σ' hs => (by exact R_load_pp rfl (.no rfl) (hd_sup hs rfl) (.tm (hs.slots _ _ rfl)) (hs.res _ _ rfl) ty43 rfl rfl)) ?_
     refine DrawC.step rfl rfl rfl (Loc.of rfl fun σ' hs => (by exact R_load rfl (.no rfl) (hd_sup hs rfl) (.tm (hs.slots _ _ rfl)) ty25 rfl rfl)) ?_
     refine DrawC.step rfl rfl rfl (Loc.ofs rfl fun σ' hs hf => R_call 6900 (HtoGraph _ (by exact hz0)) rfl rfl (hd_sup hs rfl) (.cons (.tm (hs.slots _ _ rfl)) (readA_sup hs rfl) .nil) rfl (all_fresh hf)) ?_
     refine DrawC.step rfl rfl rfl (Loc.of rfl fun σ' hs => R_callz (FnT.fr (HeqGraph _)) rfl (.no rfl) (hd_sup hs rfl) (.cons (.tm (hs.slots _ _ rfl)) (readA_sup hs rfl) (.cons (.tm (hs.slots _ _ rfl)) (readA_sup hs rfl) .nil))) ?_
     refine DrawC.step rfl rfl rfl (Loc.of rfl fun σ' hs => R_not rfl (.no rfl) (hd_sup hs rfl) (.tm (hs.slots _ _ rfl))) ?_
     refine DrawC.fin rfl rfl ?_
     refine AWl.nil ?_
     refine AW.cond (.tm rfl) (fun h71 => ?_) (fun h71 => ?_)
     ·(exfalso; revert h71; simp; try omega)
     ·skip
      try simp at h71
      refine AW.skip ?_
      refine AW.seq ?_
      refine AW.seq ?_
      refine AW.drawn 5 (nthB [[], [], [1], [0, 1, 2], [0, 1, 2, 3]]) (by kernel_rfl) (by kernel_rfl) (by kernel_rfl) ?_
      refine DrawC.step rfl rfl rfl (Loc.of rfl fun σ' hs => (by exact R_load_pp rfl (.no rfl) (hd_sup hs rfl) (.tm (hs.slots _ _ rfl)) (hs.res _ _ rfl) ty38 rfl rfl)) ?_
      refine DrawC.step rfl rfl rfl (Loc.of rfl fun σ' hs => (by exact R_load rfl (.no rfl) (hd_sup hs rfl) (.tm (hs.slots _ _ rfl)) ty31 rfl rfl)) ?_
      refine DrawC.step rfl rfl rfl (Loc.ofs rfl fun σ' hs hf => R_call 7400 (HtoView _ (by exact hz1)) rfl rfl (hd_sup hs rfl) (.cons (.tm (hs.slots _ _ rfl)) (readA_sup hs rfl) .nil) rfl (all_fresh hf)) ?_
      refine DrawC.step rfl rfl rfl (Loc.of rfl fun σ' hs => R_callz (FnT.fr (HeqView _)) rfl (.no rfl) (hd_sup hs rfl) (.cons (.tm (hs.slots _ _ rfl)) (readA_sup hs rfl) (.cons (.tm (hs.slots _ _ rfl)) (readA_sup hs rfl) .nil))) ?_
      refine DrawC.step rfl rfl rfl (Loc.of rfl fun σ' hs => R_not rfl (.no rfl) (hd_sup hs rfl) (.tm (hs.slots _ _ rfl))) ?_
      refine DrawC.fin rfl rfl ?_
      refine AWl.nil ?_
      refine AW.cond (.tm rfl) (fun h76 => ?_) (fun h76 => ?_)
      ·(exfalso; revert h76; simp; try omega)
      ·skip
       try simp at h76
       refine AW.skip ?_
       refine AW.seq ?_
       refine AW.seq ?_
       refine AW.drawn 5 (nthB [[], [], [1], [0, 1, 2], [0, 1, 2, 3]]) (by kernel_rfl) (by kernel_rfl) (by kernel_rfl) ?_
       refine DrawC.step rfl rfl rfl (Loc.of rfl fun σ' hs => (by exact R_load_pp rfl (.no rfl) (hd_sup hs rfl) (.tm (hs.slots _ _ rfl)) (hs.res _ _ rfl) ty60 rfl rfl)) ?_
       refine DrawC.step rfl rfl rfl (Loc.of rfl fun σ' hs => (by exact R_load rfl (.no rfl) (hd_sup hs rfl) (.tm (hs.slots _ _ rfl)) ty55 rfl rfl)) ?_
       refine DrawC.step rfl rfl rfl (Loc.ofs rfl fun σ' hs hf => R_call 7900 (HtoBatch _ (by exact hz2)) rfl rfl (hd_sup hs rfl) (.cons (.tm (hs.slots _ _ rfl)) (readA_sup hs rfl) .nil) rfl (all_fresh hf)) ?_
       refine DrawC.step rfl rfl rfl (Loc.of rfl fun σ' hs => R_callz (FnT.fr (HeqBatch _)) rfl (.no rfl) (hd_sup hs rfl) (.cons (.tm (hs.slots _ _ rfl)) (readA_sup hs rfl) (.cons (.tm (hs.slots _ _ rfl)) (readA_sup hs rfl) .nil))) ?_
       refine DrawC.step rfl rfl rfl (Loc.of rfl fun σ' hs => R_not rfl (.no rfl) (hd_sup hs rfl) (.tm (hs.slots _ _ rfl))) ?_
       refine DrawC.fin rfl rfl ?_
       refine AWl.nil ?_
       refine AW.cond (.tm rfl) (fun h81 => ?_) (fun h81 => ?_)
       ·(exfalso; revert h81; simp; try omega)
       ·skip
        try simp at h81
        refine AW.skip ?_
        refine AW.sr ?_
        refine AWl.ac rfl rfl rfl rfl rfl ?_
        refine AWl.nil ?_
        refine AW.sr ?_
        refine AWl.put (by exact R_load_pp rfl (.no rfl) rfl (.tm rfl) rfl ty43 rfl rfl) rfl ?_
        refine AWl.mv rfl rfl rfl rfl rfl ?_
        refine AWl.marks (R_markc rfl rfl rfl (.tm rfl) (.tm rfl) (MmarkGraph _ _ (by omega)) (.rf rfl rfl (.rf rfl rfl .nil)) rfl rfl) rfl ?_
        refine AWl.av rfl rfl rfl rfl rfl ?_
        refine AWl.nil ?_
        refine AW.sr ?_
        refine AWl.put (by exact R_load_pp rfl (.no rfl) rfl (.tm rfl) rfl ty38 rfl rfl) rfl ?_
        refine AWl.mv rfl rfl rfl rfl rfl ?_
        refine AWl.marks (R_markc rfl rfl rfl (.tm rfl) (.tm rfl) (MmarkView _ _ (by omega)) (.v (.rf rfl rfl (.rf rfl rfl (.v (.rf rfl rfl (.rf rfl rfl .nil)))))) rfl rfl) rfl ?_
        refine AWl.av rfl rfl rfl rfl rfl ?_
        refine AWl.nil ?_
        refine AW.sr ?_
        refine AWl.put (by exact R_load_pp rfl (.no rfl) rfl (.tm rfl) rfl ty60 rfl rfl) rfl ?_
        refine AWl.mv rfl rfl rfl rfl rfl ?_
        refine AWl.marks (R_markc rfl rfl rfl (.tm rfl) (.tm rfl) (MmarkBatch _ _ (by omega)) (.rf rfl rfl .nil) rfl rfl) rfl ?_
        refine AWl.av rfl rfl rfl rfl rfl ?_
        refine AWl.nil ?_
        refine AW.seq ?_
        refine AW.sr ?_
        refine AWl.mv rfl rfl rfl rfl rfl ?_
        refine AWl.put (R_lt rfl (.no rfl) rfl (.tm rfl) (.const rfl)) rfl ?_
        refine AWl.mv rfl rfl rfl rfl rfl ?_
        refine AWl.put (by exact R_load_pp rfl (by exact .not1 rfl rfl rfl rfl) rfl (.tmp rfl (by exact fun _ => rfl)) rfl ty38 rfl rfl) rfl ?_
        refine AWl.put (by exact R_load_pp rfl (by exact .not1 rfl rfl rfl rfl) rfl (.tmp rfl (by exact fun _ => rfl)) rfl ty38 rfl rfl) rfl ?_
        refine AWl.put (R_callz (FnT.fr (HeqView _)) rfl (by exact .not1 rfl rfl rfl rfl) rfl (.cons (.tmp rfl (by exact id)) rfl (.cons (.tmp rfl (by exact id)) rfl .nil))) rfl ?_
        refine AWl.put (R_not rfl (by exact .not1 rfl rfl rfl rfl) rfl (.tmp rfl (by exact id))) rfl ?_
        refine AWl.put (R_or rfl (.no rfl) rfl (.tm rfl) (.tmp rfl (by exact id))) rfl ?_
        refine AWl.mv rfl rfl rfl rfl rfl ?_
        refine AWl.put (R_move rfl (by exact .not1 rfl rfl rfl rfl) rfl (.tmp rfl (by exact fun _ => rfl))) rfl ?_
        refine AWl.put (R_move rfl (by exact .not1 rfl rfl rfl rfl) rfl (.tmp rfl (by exact fun _ => rfl))) rfl ?_
        refine AWl.put (R_neb rfl (by exact .not1 rfl rfl rfl rfl) rfl (.tmp rfl (by exact id)) (.tmp rfl (by exact id)) Tryz.underlying4) rfl ?_
        refine AWl.put (R_or rfl (.no rfl) rfl (.tm rfl) (.tmp rfl (by exact id))) rfl ?_
        refine AWl.nil ?_
        refine AW.cond (.tm rfl) (fun h103 => ?_) (fun h103 => ?_)
        ·(exfalso; revert h103; simp; try omega)
        ·skip
         try simp at h103
         refine AW.skip ?_
         refine AW.sr ?_
         refine AWl.ac rfl rfl rfl rfl rfl ?_
         refine AWl.nil ?_
         refine AW.sr ?_
         refine AWl.put (by exact R_load_pp rfl (.no rfl) rfl (.tm rfl) rfl ty38 rfl rfl) rfl ?_
         refine AWl.mv rfl rfl rfl rfl rfl ?_
         refine AWl.marks (R_markc rfl rfl rfl (.tm rfl) (.tm rfl) (MmarkView _ _ (by omega)) (.v (.rf rfl rfl (.rf rfl rfl (.v (.rf rfl rfl (.rf rfl rfl .nil)))))) rfl rfl) rfl ?_
         refine AWl.av rfl rfl rfl rfl rfl ?_
         refine AWl.nil ?_
         refine AW.sr ?_
         refine AWl.ac rfl rfl rfl rfl rfl ?_
         refine AWl.nil ?_
         refine AW.sr ?_
         refine AWl.put (by exact R_load_pp rfl (.no rfl) rfl (.tm rfl) rfl ty38 rfl rfl) rfl ?_
         refine AWl.mv rfl rfl rfl rfl rfl ?_
         refine AWl.put (R_callz (FnT.fr (MheldView _ _ (by omega))) rfl (.no rfl) rfl (.cons (.tm rfl) rfl (.cons (.tm rfl) rfl .nil))) rfl ?_
         refine AWl.av rfl rfl rfl rfl rfl ?_
         refine AWl.nil ?_
         refine AW.seq ?_
         refine AW.sr ?_
         refine AWl.mv rfl rfl rfl rfl rfl ?_
         refine AWl.put (R_lt rfl (.no rfl) rfl (.tm rfl) (.const rfl)) rfl ?_
         refine AWl.nil ?_
         refine AW.cond (.tm rfl) (fun h111 => ?_) (fun h111 => ?_)
         ·(exfalso; revert h111; simp; try omega)
         ·skip
          try simp at h111
          refine AW.skip ?_
          refine AW.seq ?_
          refine AW.sr ?_
          refine AWl.mv rfl rfl rfl rfl rfl ?_
          refine AWl.mv rfl rfl rfl rfl rfl ?_
          refine AWl.put (R_ne rfl (.no rfl) rfl (.tm rfl) (.tm rfl)) rfl ?_
          refine AWl.nil ?_
          refine AW.cond (.tm rfl) (fun h114 => ?_) (fun h114 => ?_)
          ·(exfalso; revert h114; simp; try omega)
          ·skip
           try simp at h114
           refine AW.skip ?_
           refine AW.seq ?_
           refine AW.drawnS 11 9 (nthB [[], [0], [], [0, 1, 2], [], [0, 1, 2, 3, 4], [0, 1, 2, 3, 4, 5], [0, 1, 2, 3, 4, 5, 6], [0, 1, 2, 3, 4, 5, 6, 7], [0, 1, 2, 3, 4, 5, 6, 7], [], [0, 1, 2, 3, 4, 5, 6, 7, 8, 10]]) (by kernel_rfl) (by kernel_rfl) (by kernel_rfl) (by kernel_rfl) rfl ?_
           refine DrawG.step rfl rfl (Loc.of rfl fun σ' hs => (by exact R_load rfl (.no rfl) (hd_sup hs rfl) (.tm (hs.slots _ _ rfl)) ty25 rfl rfl)) ?_
           refine DrawG.step rfl rfl (Loc.ofs rfl fun σ' hs hf => R_call 11700 (HtoGraph _ (by exact hz0)) rfl rfl (hd_sup hs rfl) (.cons (.tm (hs.slots _ _ rfl)) (readA_sup hs rfl) .nil) rfl (all_fresh hf)) ?_
           refine DrawG.step rfl rfl (Loc.of rfl fun σ' hs => (by exact R_load rfl (.no rfl) (hd_sup hs rfl) (.tm (hs.slots _ _ rfl)) ty31 rfl rfl)) ?_
           refine DrawG.step rfl rfl (Loc.ofs rfl fun σ' hs hf => R_call 11900 (HtoView _ (by exact hz1)) rfl rfl (hd_sup hs rfl) (.cons (.tm (hs.slots _ _ rfl)) (readA_sup hs rfl) .nil) rfl (all_fresh hf)) ?_
           refine DrawG.step rfl rfl (Loc.of rfl fun σ' hs => (by exact R_load rfl (.no rfl) (hd_sup hs rfl) (.tm (hs.slots _ _ rfl)) ty55 rfl rfl)) ?_
           refine DrawG.step rfl rfl (Loc.ofs rfl fun σ' hs hf => R_call 12100 (HtoBatch _ (by exact hz2)) rfl rfl (hd_sup hs rfl) (.cons (.tm (hs.slots _ _ rfl)) (readA_sup hs rfl) .nil) rfl (all_fresh hf)) ?_
           refine DrawG.step rfl rfl (Loc.ofs rfl fun σ' hs hf => R_call 12200 (implUpdateView _ _ _ (show aG.Values.length ≤ 1048576 from hz0.1) (show aG.Edges.length ≤ 1048576 from hz0.2.1) (hz1)) rfl rfl (hd_sup hs rfl) (.cons (.tm (hs.slots _ _ rfl)) (readA_sup hs rfl) (.cons (.tm (hs.slots _ _ rfl)) (readA_sup hs rfl) (.cons (.tm (hs.slots _ _ rfl)) (readA_sup hs rfl) .nil))) rfl (all_fresh hf)) ?_
           refine DrawG.step rfl rfl (Loc.of rfl fun σ' hs => R_movet rfl (.no rfl) (hd_sup hs rfl) (hs.slots _ _ rfl) fun _ => rfl) ?_
           refine DrawG.step rfl rfl (Loc.of rfl fun σ' hs => R_extract rfl (.no rfl) (hd_sup hs rfl) (hs.slots _ _ rfl) (fun _ => rfl) rfl) ?_
           refine DrawG.step rfl rfl (Loc.of rfl fun σ' hs => R_extract rfl (.no rfl) (hd_sup hs rfl) (hs.slots _ _ rfl) (fun _ => rfl) rfl) ?_
           refine DrawG.step rfl rfl (Loc.of1 rfl fun σ' hs hf => R_alloc 18 rfl rfl (hd_sup hs rfl) in38 rfl rfl hf) ?_
           refine DrawG.fin rfl (FinS.mk ⟨_, [(0, _), (1, _), (2, _), (3, _), (4, _), (5, _), (6, _), (7, _), (8, _), (9, _), (10, _), (11, _), (12, _), (13, _), (14, _), (15, _), (16, _), (17, _), (18, _), (24, _), (29, _), (34, _), (66, _), (71, _), (76, _), (81, _), (103, _), (111, _), (114, _), (124, _)], [(3700, _), (3701, _), (3900, _), (3901, _), (3902, _), (3903, _), (4100, _), (8, _), (4600, _), (4601, _), (10, _), (4800, _), (4801, _), (4802, _), (4803, _), (11, _), (5000, _), (12, _), (5500, _), (5501, _), (5502, _), (5503, _), (13, _), (6900, _), (6901, _), (7400, _), (7401, _), (7402, _), (7403, _), (7900, _), (11700, _), (11701, _), (11900, _), (11901, _), (11902, _), (11903, _), (12100, _), (12200, _), (12201, _), (12202, _), (12203, _), (18, _)]⟩ rfl rfl rfl rfl (R_store_pb rfl rfl rfl (.tm rfl) (.tm rfl) rfl ty38 rfl rfl rfl (by kernel_rfl) rfl) (R_store_pb rfl rfl rfl (.tm rfl) (.tm rfl) rfl ty38 rfl rfl rfl (by kernel_rfl) rfl) (R_extract rfl (.no rfl) rfl rfl (fun _ => rfl) rfl) (Sup.sub0 rfl ⟨rfl, rfl, rfl, rfl, rfl, rfl, rfl, rfl, rfl, rfl, rfl, rfl, rfl, rfl, rfl, rfl, rfl, rfl, rfl, rfl, rfl, rfl, rfl, rfl, rfl, rfl, rfl, rfl, rfl, rfl, trivial⟩ ⟨rfl, rfl, rfl, rfl, rfl, rfl, rfl, rfl, rfl, rfl, rfl, rfl, rfl, rfl, rfl, rfl, rfl, rfl, rfl, rfl, rfl, rfl, rfl, rfl, rfl, rfl, rfl, rfl, rfl, rfl, rfl, rfl, rfl, rfl, rfl, rfl, rfl, rfl, rfl, rfl, rfl, rfl, trivial⟩) (Sup.sub0 rfl ⟨rfl, rfl, rfl, rfl, rfl, rfl, rfl, rfl, rfl, rfl, rfl, rfl, rfl, rfl, rfl, rfl, rfl, rfl, rfl, rfl, rfl, rfl, rfl, rfl, rfl, rfl, rfl, rfl, rfl, rfl, trivial⟩ ⟨rfl, rfl, rfl, rfl, rfl, rfl, rfl, rfl, rfl, rfl, rfl, rfl, rfl, rfl, rfl, rfl, rfl, rfl, rfl, rfl, rfl, rfl, rfl, rfl, rfl, rfl, rfl, rfl, rfl, rfl, rfl, rfl, rfl, rfl, rfl, rfl, rfl, rfl, rfl, rfl, rfl, rfl, trivial⟩) ?_)
           refine AWl.av rfl rfl rfl rfl rfl ?_
           refine AWl.nil ?_
           refine AW.seq ?_
           refine AW.sr ?_
           refine AWl.put (by exact R_load_pp rfl (.no rfl) rfl (.tm rfl) rfl ty38 rfl rfl) rfl ?_
           refine AWl.put (by exact R_load_pp rfl (.no rfl) rfl (.tm rfl) rfl ty38 rfl rfl) rfl ?_
           refine AWl.put (R_callz (FnT.fr (HeqView _)) rfl (.no rfl) rfl (.cons (.tm rfl) rfl (.cons (.tm rfl) rfl .nil))) rfl ?_
           refine AWl.put (R_not rfl (.no rfl) rfl (.tm rfl)) rfl ?_
           refine AWl.mv rfl rfl rfl rfl rfl ?_
           refine AWl.put (R_move rfl (by exact .not1 rfl rfl rfl rfl) rfl (.tmp rfl (by exact fun _ => rfl))) rfl ?_
           refine AWl.put (R_move rfl (by exact .not1 rfl rfl rfl rfl) rfl (.tmp rfl (by exact fun _ => rfl))) rfl ?_
           refine AWl.put (R_neb rfl (by exact .not1 rfl rfl rfl rfl) rfl (.tmp rfl (by exact fun _ => rfl)) (.tmp rfl (by exact fun _ => rfl)) Tryz.underlying4) rfl ?_
           refine AWl.put (R_or rfl (.no rfl) rfl (.tm rfl) (.tmp rfl (by exact fun _ => rfl))) rfl ?_
           refine AWl.nil ?_
           refine AW.cond (.tm rfl) (fun h133 => ?_) (fun h133 => ?_)
           ·(exfalso; revert h133; simp; try omega)
           ·skip
            try simp at h133
            refine AW.skip ?_
            refine AW.sr ?_
            refine AWl.ac rfl rfl rfl rfl rfl ?_
            refine AWl.nil ?_
            refine AW.sr ?_
            refine AWl.put (by exact R_load_pp rfl (.no rfl) rfl (.tm rfl) rfl ty38 rfl rfl) rfl ?_
            refine AWl.mv rfl rfl rfl rfl rfl ?_
            refine AWl.put (R_callz (FnT.fr (MheldView _ _ (by omega))) rfl (.no rfl) rfl (.cons (.tm rfl) rfl (.cons (.tm rfl) rfl .nil))) rfl ?_
            refine AWl.av rfl rfl rfl rfl rfl ?_
            refine AWl.nil ?_
            refine AW.seq ?_
            refine AW.sr ?_
            refine AWl.mv rfl rfl rfl rfl rfl ?_
            refine AWl.put (R_lt rfl (.no rfl) rfl (.tm rfl) (.const rfl)) rfl ?_
            refine AWl.nil ?_
            refine AW.cond (.tm rfl) (fun h138 => ?_) (fun h138 => ?_)
            ·(exfalso; revert h138; simp; try omega)
            ·skip
             try simp at h138
             refine AW.skip ?_
             refine AW.seq ?_
             refine AW.sr ?_
             refine AWl.mv rfl rfl rfl rfl rfl ?_
             refine AWl.mv rfl rfl rfl rfl rfl ?_
             refine AWl.put (R_ne rfl (.no rfl) rfl (.tm rfl) (.tm rfl)) rfl ?_
             refine AWl.nil ?_
             refine AW.cond (.tm rfl) (fun h141 => ?_) (fun h141 => ?_)
             ·(exfalso; revert h141; simp; try omega)
             ·skip
              try simp at h141
              refine AW.skip ?_
              refine AW.sr ?_
              refine AWl.ac rfl rfl rfl rfl rfl ?_
              refine AWl.nil ?_
              refine AW.ret ?_
              refine Res.v rfl rfl ?_
              rfl
namespace LFnExactUpdateView
theorem opensInt : OpensT cInt Tryz.prog 3 := opensTInt Tryz.underlying3
theorem opensIntS : OpensT cIntS Tryz.prog 22 := opensTSlice (c := cInt) Tryz.underlying22 (by kernel_rfl) (by decide) (fun _ => rfl) opensInt
set_option maxRecDepth 100000 in
theorem opensEdge : OpensT cEdge Tryz.prog 33 := by
 intro H enc w base spare held fuel cs x h
 obtain ⟨xs, n, _, _, hlen, hxl, hf⟩ := DataW.trod_struct Tryz.underlying33 h
 rw [show Tryz.prog.cellsOf 33 = 4 from by kernel_rfl] at hlen
 have kInt : Tryz.prog.cellsOf 3 = 1 := by kernel_rfl
 match cs, hlen, xs, hxl with
 | [c0, c1, c2, c3], _, [y0, y1, y2, y3], _ =>
  have g0 : DataW.trod enc Tryz.prog w base spare held n 3 [c0] = some y0 := by simpa [kInt] using hf 0 _ rfl
  obtain ⟨x0, F0, e0⟩ := opensInt g0
  have g1 : DataW.trod enc Tryz.prog w base spare held n 3 [c1] = some y1 := by simpa [kInt] using hf 1 _ rfl
  obtain ⟨x1, F1, e1⟩ := opensInt g1
  have g2 : DataW.trod enc Tryz.prog w base spare held n 3 [c2] = some y2 := by simpa [kInt] using hf 2 _ rfl
  obtain ⟨x2, F2, e2⟩ := opensInt g2
  have g3 : DataW.trod enc Tryz.prog w base spare held n 3 [c3] = some y3 := by simpa [kInt] using hf 3 _ rfl
  obtain ⟨x3, F3, e3⟩ := opensInt g3
  exact ⟨⟨x0, x1, x2, x3⟩, _, (e0.append (e1.append (e2.append e3)))⟩
theorem opensEdgeS : OpensT cEdgeS Tryz.prog 23 := opensTSlice (c := cEdge) Tryz.underlying23 (by kernel_rfl) (by decide) (fun _ => rfl) opensEdge
set_option maxRecDepth 100000 in
theorem opensGraph : OpensT cGraph Tryz.prog 25 := by
 intro H enc w base spare held fuel cs x h
 obtain ⟨xs, n, _, _, hlen, hxl, hf⟩ := DataW.trod_struct Tryz.underlying25 h
 rw [show Tryz.prog.cellsOf 25 = 2 from by kernel_rfl] at hlen
 have kEdgeS : Tryz.prog.cellsOf 23 = 1 := by kernel_rfl
 have kIntS : Tryz.prog.cellsOf 22 = 1 := by kernel_rfl
 match cs, hlen, xs, hxl with
 | [c0, c1], _, [y0, y1], _ =>
  have g0 : DataW.trod enc Tryz.prog w base spare held n 22 [c0] = some y0 := by simpa [kIntS] using hf 0 _ rfl
  obtain ⟨x0, F0, e0⟩ := opensIntS g0
  have g1 : DataW.trod enc Tryz.prog w base spare held n 23 [c1] = some y1 := by simpa [kEdgeS] using hf 1 _ rfl
  obtain ⟨x1, F1, e1⟩ := opensEdgeS g1
  exact ⟨⟨x0, x1⟩, _, (e0.append e1)⟩
theorem opensBool : OpensT cBool Tryz.prog 4 := opensTBool Tryz.underlying4
theorem opensBoolS : OpensT cBoolS Tryz.prog 26 := opensTSlice (c := cBool) Tryz.underlying26 (by kernel_rfl) (by decide) (fun _ => rfl) opensBool
theorem opensIntSS : OpensT cIntSS Tryz.prog 27 := opensTSlice (c := cIntS) Tryz.underlying27 (by kernel_rfl) (by decide) (fun _ => rfl) opensIntS
set_option maxRecDepth 100000 in
theorem opensAutomaton : OpensT cAutomaton Tryz.prog 29 := by
 intro H enc w base spare held fuel cs x h
 obtain ⟨xs, n, _, _, hlen, hxl, hf⟩ := DataW.trod_struct Tryz.underlying29 h
 rw [show Tryz.prog.cellsOf 29 = 3 from by kernel_rfl] at hlen
 have kIntSS : Tryz.prog.cellsOf 27 = 1 := by kernel_rfl
 have kBoolS : Tryz.prog.cellsOf 26 = 1 := by kernel_rfl
 have kInt : Tryz.prog.cellsOf 3 = 1 := by kernel_rfl
 match cs, hlen, xs, hxl with
 | [c0, c1, c2], _, [y0, y1, y2], _ =>
  have g0 : DataW.trod enc Tryz.prog w base spare held n 3 [c0] = some y0 := by simpa [kInt] using hf 0 _ rfl
  obtain ⟨x0, F0, e0⟩ := opensInt g0
  have g1 : DataW.trod enc Tryz.prog w base spare held n 26 [c1] = some y1 := by simpa [kBoolS] using hf 1 _ rfl
  obtain ⟨x1, F1, e1⟩ := opensBoolS g1
  have g2 : DataW.trod enc Tryz.prog w base spare held n 27 [c2] = some y2 := by simpa [kIntSS] using hf 2 _ rfl
  obtain ⟨x2, F2, e2⟩ := opensIntSS g2
  exact ⟨⟨x0, x1, x2⟩, _, (e0.append (e1.append e2))⟩
set_option maxRecDepth 100000 in
theorem opensView : OpensT cView Tryz.prog 31 := by
 intro H enc w base spare held fuel cs x h
 obtain ⟨xs, n, _, _, hlen, hxl, hf⟩ := DataW.trod_struct Tryz.underlying31 h
 rw [show Tryz.prog.cellsOf 31 = 6 from by kernel_rfl] at hlen
 have kAutomaton : Tryz.prog.cellsOf 29 = 3 := by kernel_rfl
 have kIntS : Tryz.prog.cellsOf 22 = 1 := by kernel_rfl
 have kInt : Tryz.prog.cellsOf 3 = 1 := by kernel_rfl
 match cs, hlen, xs, hxl with
 | [c0, c1, c2, c3, c4, c5], _, [y0, y1, y2, y3], _ =>
  have g0 : DataW.trod enc Tryz.prog w base spare held n 29 [c0, c1, c2] = some y0 := by simpa [kAutomaton] using hf 0 _ rfl
  obtain ⟨x0, F0, e0⟩ := opensAutomaton g0
  have g1 : DataW.trod enc Tryz.prog w base spare held n 3 [c3] = some y1 := by simpa [kInt] using hf 1 _ rfl
  obtain ⟨x1, F1, e1⟩ := opensInt g1
  have g2 : DataW.trod enc Tryz.prog w base spare held n 22 [c4] = some y2 := by simpa [kIntS] using hf 2 _ rfl
  obtain ⟨x2, F2, e2⟩ := opensIntS g2
  have g3 : DataW.trod enc Tryz.prog w base spare held n 22 [c5] = some y3 := by simpa [kIntS] using hf 3 _ rfl
  obtain ⟨x3, F3, e3⟩ := opensIntS g3
  exact ⟨⟨x0, x1, x2, x3⟩, _, (e0.append (e1.append (e2.append e3)))⟩
set_option maxRecDepth 100000 in
theorem opensChange : OpensT cChange Tryz.prog 160 := by
 intro H enc w base spare held fuel cs x h
 obtain ⟨xs, n, _, _, hlen, hxl, hf⟩ := DataW.trod_struct Tryz.underlying160 h
 rw [show Tryz.prog.cellsOf 160 = 5 from by kernel_rfl] at hlen
 have kEdge : Tryz.prog.cellsOf 33 = 4 := by kernel_rfl
 have kBool : Tryz.prog.cellsOf 4 = 1 := by kernel_rfl
 match cs, hlen, xs, hxl with
 | [c0, c1, c2, c3, c4], _, [y0, y1], _ =>
  have g0 : DataW.trod enc Tryz.prog w base spare held n 4 [c0] = some y0 := by simpa [kBool] using hf 0 _ rfl
  obtain ⟨x0, F0, e0⟩ := opensBool g0
  have g1 : DataW.trod enc Tryz.prog w base spare held n 33 [c1, c2, c3, c4] = some y1 := by simpa [kEdge] using hf 1 _ rfl
  obtain ⟨x1, F1, e1⟩ := opensEdge g1
  exact ⟨⟨x0, x1⟩, _, (e0.append e1)⟩
theorem opensChangeS : OpensT cChangeS Tryz.prog 53 := opensTSlice (c := cChange) Tryz.underlying53 (by kernel_rfl) (by decide) (fun _ => rfl) opensChange
set_option maxRecDepth 100000 in
theorem opensBatch : OpensT cBatch Tryz.prog 55 := by
 intro H enc w base spare held fuel cs x h
 obtain ⟨xs, n, _, _, hlen, hxl, hf⟩ := DataW.trod_struct Tryz.underlying55 h
 rw [show Tryz.prog.cellsOf 55 = 1 from by kernel_rfl] at hlen
 have kChangeS : Tryz.prog.cellsOf 53 = 1 := by kernel_rfl
 match cs, hlen, xs, hxl with
 | [c0], _, [y0], _ =>
  have g0 : DataW.trod enc Tryz.prog w base spare held n 53 [c0] = some y0 := by simpa [kChangeS] using hf 0 _ rfl
  obtain ⟨x0, F0, e0⟩ := opensChangeS g0
  exact ⟨⟨x0⟩, _, e0⟩
theorem ownFnExactUpdateView : ownKnob Tryz.prog.godebug = none := by kernel_rfl
theorem laidOutFnExactUpdateView : laidOutB Tryz.prog = true := by kernel_rfl
set_option maxRecDepth 100000 in
theorem liftedFnExactUpdateView (os : Os) (started : os.Started) (H : Type) (enc : TypeId × Value → H) :
  ReturnsInHanded {} Tryz.checked os 4 .any (Rows.fnExactUpdateViewSpec.pre6 enc Tryz.prog Tryz.f4 Rows.fnExactUpdateViewRow.domain false) (Rows.fnExactUpdateViewSpec.post enc Tryz.prog Tryz.f4 false true false false) := by
 refine returnsInHanded_of_change_shaped (C := Tryz.checked) ownFnExactUpdateView started (by kernel_rfl) Tryz.func4
  (ChangeSpec.witness6 (enc := enc) (C := Tryz.checked) false ⟨#[], #[.agg #[.slice none 0 0, .slice none 0 0], .agg #[.int .i64 0, .slice none 0 0, .slice none 0 0, .int .i64 0, .slice none 0 0, .slice none 0 0], .agg #[.slice none 0 0]], []⟩ 8 (by kernel_rfl) (by kernel_rfl) (by kernel_rfl) (by kernel_rfl)) ?_
 intro W base args ds gs before hval0 hW hcnd _ hsh _
 have hgood : Go.Q.Good W [] := Go.Q.good_of ⟨hsh, trivial, trivial⟩
 have hval : ∀ (j : Nat) t v, Tryz.f4.params[j]? = some t → args[j]? = some v → Value.okWide Tryz.prog W .any base t v := hval0
 have hW' := hW
 obtain ⟨p, q, hA0, hV, rfl, hfz, hnd⟩ := hW
 have hA : DataW.TrodAll enc Tryz.prog W 0 (fun _ => true) true Tryz.f4.params.toList args.toList ds p := hA0
 rw [Tryz.params4] at hA hval
 obtain ⟨v0, vs0, d0, ds0, p0, q0, hargs, rfl, rfl, h0, r0⟩ := trodAll_cons hA
 obtain ⟨v1, vs1, d1, ds1, p1, q1, rfl, rfl, rfl, h1, r1⟩ := trodAll_cons r0
 obtain ⟨v2, vs2, d2, ds2, p2, q2, rfl, rfl, rfl, h2, r2⟩ := trodAll_cons r1
 obtain ⟨rfl, rfl, rfl⟩ := trodAll_nil r2
 obtain rfl : args = #[v0, v1, v2] := by cases args; simp_all
 obtain ⟨rfl, rfl⟩ := trodVars_none hV
 obtain ⟨cs0, rfl, _⟩ := okWide_struct Tryz.underlying25 (hval 0 25 v0 rfl rfl)
 have k0 := h0
 have lt0 : ∀ x ∈ p0, x.block < W.heap.size := by obtain ⟨m, hm⟩ := k0; exact DataW.trod_lt m _ _ _ hm
 obtain ⟨x0, F0, hs0⟩ := OpensT.vl opensGraph h0
 obtain ⟨cs1, rfl, _⟩ := okWide_struct Tryz.underlying31 (hval 1 31 v1 rfl rfl)
 have k1 := h1
 have lt1 : ∀ x ∈ p1, x.block < W.heap.size := by obtain ⟨m, hm⟩ := k1; exact DataW.trod_lt m _ _ _ hm
 obtain ⟨x1, F1, hs1⟩ := OpensT.vl opensView h1
 obtain ⟨cs2, rfl, _⟩ := okWide_struct Tryz.underlying55 (hval 2 55 v2 rfl rfl)
 have k2 := h2
 have lt2 : ∀ x ∈ p2, x.block < W.heap.size := by obtain ⟨m, hm⟩ := k2; exact DataW.trod_lt m _ _ _ hm
 obtain ⟨x2, F2, hs2⟩ := OpensT.vl opensBatch h2
 clear hA0 hval0
 refine ((lawFnExactUpdateView x0 x1 x2).2 W _ _ hgood ⟨_, _, _, _, rfl, (show V0r false W (.agg (cGraph x0)) _ _ from ⟨cs0.toList, by simp, hs0⟩), ⟨_, _, _, _, rfl, (show V0r false W (.agg (cView x1)) _ _ from ⟨cs1.toList, by simp, hs1⟩), ⟨_, _, _, _, rfl, (show V0r false W (.agg (cBatch x2)) _ _ from ⟨cs2.toList, by simp, hs2⟩), ⟨rfl, rfl⟩, rfl⟩, rfl⟩, rfl⟩).mono fun e W' ⟨v, F, he, hv, _, _, bel⟩ => ?_
 have hv2 : v = .bool true := by unfold Vr V0r C at hv; exact hv.1
 subst hv2
 subst he
 exact ⟨_, rfl, _, _, _, [], _, [], hW', trodAll_mk1 (shut_bool Tryz.underlying4 _), (trodAll_cons_mk (Below.trod laidOutFnExactUpdateView (by kernel_rfl) (of_decide_eq_true (by kernel_rfl)) k0 bel lt0) (trodAll_cons_mk (Below.trod laidOutFnExactUpdateView (by kernel_rfl) (of_decide_eq_true (by kernel_rfl)) k1 bel lt1) (trodAll_cons_mk (Below.trod laidOutFnExactUpdateView (by kernel_rfl) (of_decide_eq_true (by kernel_rfl)) k2 bel lt2) trodAll_mk0))), rfl, Below.frame bel _, fun h => by cases h⟩
theorem jfa : (Rows.fnExactUpdateViewRow.inPlace == Tryz.prog.inPlace 4) = true := by kernel_rfl
theorem jfb : (Rows.fnExactUpdateViewRow.unfollowed == Tryz.prog.unfollowed 4) = true := by kernel_rfl
theorem jfc : (Rows.fnExactUpdateViewRow.recurses == Tryz.prog.recurses 4) = true := by kernel_rfl
theorem jfd : (Rows.fnExactUpdateViewRow.named == Tryz.prog.varsNamed 4) = true := by kernel_rfl
theorem jfe : mapsRowed Tryz.prog = true := by kernel_rfl
theorem jff : joinedFacts Tryz.prog 4 Tryz.f4 Rows.fnExactUpdateViewSpec Rows.fnExactUpdateViewRow = true := by
 unfold joinedFacts
 rw [laidOutFnExactUpdateView, jfa, jfb, jfc, jfd, jfe]
 kernel_rfl
set_option maxRecDepth 100000 in
theorem provedFnExactUpdateView : Rows.FnExactUpdateViewSaid :=
 OpenClaim.holds_of_wide 4 Tryz.f4 rfl rfl rfl rfl rfl rfl rfl ⟨rfl, rfl, rfl, rfl, rfl⟩ rfl rfl rfl rfl rfl (by kernel_rfl) Tryz.func4 jff
  (of_decide_eq_true (by kernel_rfl)) (by unfold Func.isWrapper; first | (rw [if_pos (by decide +kernel)]; kernel_rfl) | (rw [if_neg (by decide +kernel)]; exact ⟨rfl, rfl⟩))
  (fun os started H enc _ => liftedFnExactUpdateView os started H enc)
#print axioms provedFnExactUpdateView
end LFnExactUpdateView
end Go.Proofs.YtoealglkenhphaaGreat
