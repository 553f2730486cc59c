import Derived.Test.YtamnfkfjfelbbaaRows
import Derived.Test.YtamnfkfjfelbbaaHBxw
import Derived.Test.YtamnfkfjfelbbaaHCxw
import Derived.Test.YtamnfkfjfelbbaaHMxw
import Derived.Test.YtamnfkfjfelbbaaOpenTxw
import Derived.Test.YtamnfkfjfelbbaaB145xw
set_option linter.unusedVariables false
set_option linter.unusedSimpArgs false
namespace Go.Proofs.Ytamnfkfjfelbbaa
open Go.RowKit Go.Q Go.D Go.ChangeShapes Go.WideShapes Go.ChangeAt Go.Deep
open Go.ChangeMaps (open_string shut_string)
set_option maxRecDepth 100000 in
set_option maxHeartbeats 1000000 in
theorem lawFnExactConditionedWitness (aG : TGraph) (aA : TAutomaton) (aCond : Int) (aX : Int) (aY : Int) : FnT Try.prog 3 [.agg (cGraph aG), .agg (cAutomaton aA), .one (.v (.int .i64 aCond)), .one (.v (.int .i64 aX)), .one (.v (.int .i64 aY))] (.a (.one (.v (.bool true)))) := by
 refine FnT.walk Try.func3 U (by kernel_rfl) Try.ntmps3 U fun hlen w0 => ?_
 try simp [cPair, cToken, cExpr, cEdge, cGraph, cStep, cWalk, cChange, cBatch, cHistory, cPositions, cAutomaton, cProductStep, cPathAtom, cConjunction, cView, cDelta, cRegistered, cRegistry] at hlen
 clear hlen
 refine AW.sr ?_
 refine AWl.p (R_boxz U U U (.tm U) (ts := _) (by rfl)) U ?_
 refine AWl.p (R_boxz U U U (.tm U) (ts := _) (by rfl)) U ?_
 refine AWl.ac ?_
 refine AWl.nil (AW.sr ?_)
 refine AWl.ac ?_
 refine AWl.nil (AW.sr ?_)
 refine AWl.p (by exact R_load U (.no U) U (.tm U) ty25 U U) U ?_
 refine AWl.mv ?_
 refine AWl.p (R_callz (FnT.fr (HszGraph _ _ (by omega))) U (.no U) U (.cons (.tm U) U (.cons (.tm U) U .nil))) U ?_
 refine AWl.av ?_
 refine AWl.nil (AW.seq ?_)
 refine AW.sr ?_
 refine AWl.mv ?_
 refine AWl.p (R_lt U (.no U) U (.tm U) (.const U)) U ?_
 refine AWl.nil ?_
 refine AW.cond (.tm U) (fun h27 => ?_) (fun h27 => ?_)
 · skip
   try simp at h27
   refine AW.sr ?_
   refine AWl.ac ?_
   refine AWl.nil (AW.ret ?_)
   refine Res.v U U ?_
   rfl
 · skip
   try simp at h27
   have hb0 := szGraph_ok aG 1048576 (by omega) (by omega)
   have hz0 := hb0.2 (by omega)
   refine AW.skip ?_
   refine AW.sr ?_
   refine AWl.p (by exact R_load U (.no U) U (.tm U) ty29 U U) U ?_
   refine AWl.mv ?_
   refine AWl.p (R_callz (FnT.fr (HszAutomaton _ _ (by omega))) U (.no U) U (.cons (.tm U) U (.cons (.tm U) U .nil))) U ?_
   refine AWl.av ?_
   refine AWl.nil (AW.seq ?_)
   refine AW.sr ?_
   refine AWl.mv ?_
   refine AWl.p (R_lt U (.no U) U (.tm U) (.const U)) U ?_
   refine AWl.nil ?_
   refine AW.cond (.tm U) (fun h32 => ?_) (fun h32 => ?_)
   · skip
     try simp at h32
     refine AW.sr ?_
     refine AWl.ac ?_
     refine AWl.nil (AW.ret ?_)
     refine Res.v U U ?_
     rfl
   · skip
     try simp at h32
     have hb1 := szAutomaton_ok aA (szGraph aG 1048576) (by omega) (by omega)
     have hz1 := hb1.2 (by omega)
     have hcn0 := cpGraph_nn aG
     have hco0 := cpGraph_ok (by exact (hz0 : okGraph aG))
     have hcn1 := cpAutomaton_nn aA
     have hco1 := cpAutomaton_ok (by exact (hz1 : okAutomaton aA))
     have hbd0 := cpWalk_ok (condWit_ok aG aA aCond aX aY)
     have hbd1 := cpWalk_nn (condWit aG aA aCond aX aY).1
     refine AW.skip ?_
     refine AW.seq ?_
     refine AW.drawnS 12 10 (nthB [[], [0], [], [0, 1, 2], [], [], [], [0, 1, 2, 3, 4, 5, 6], [0, 1, 2, 3, 4, 5, 6, 7], [0, 1, 2, 3, 4, 5, 6, 7, 8], [0, 1, 2, 3, 4, 5, 6, 7, 8], [], [0, 1, 2, 3, 4, 5, 6, 7, 8, 9, 11]]) (by kernel_rfl) (by kernel_rfl) (by kernel_rfl) (by kernel_rfl) U ?_
     refine DrawG.step U U (Loc.of U fun σ' hs => (by exact R_load U (.no U) (hd_sup hs U) (.tm (hs.slots _ _ U)) ty25 U U)) ?_
     refine DrawG.step U U (Loc.ofs U fun σ' hs hf => R_call 3500 (HtoGraph _ (by exact hz0)) U U (hd_sup hs U) (.cons (.tm (hs.slots _ _ U)) (readA_sup hs U) .nil) U (all_fresh hf)) ?_
     refine DrawG.step U U (Loc.of U fun σ' hs => (by exact R_load U (.no U) (hd_sup hs U) (.tm (hs.slots _ _ U)) ty29 U U)) ?_
     refine DrawG.step U U (Loc.ofs U fun σ' hs hf => R_call 3700 (HtoAutomaton _ (by exact hz1)) U U (hd_sup hs U) (.cons (.tm (hs.slots _ _ U)) (readA_sup hs U) .nil) U (all_fresh hf)) ?_
     refine DrawG.step U U (Loc.of U fun σ' hs => R_move U (.no U) (hd_sup hs U) (.tm (hs.slots _ _ U))) ?_
     refine DrawG.step U U (Loc.of U fun σ' hs => R_move U (.no U) (hd_sup hs U) (.tm (hs.slots _ _ U))) ?_
     refine DrawG.step U U (Loc.of U fun σ' hs => R_move U (.no U) (hd_sup hs U) (.tm (hs.slots _ _ U))) ?_
     refine DrawG.step U U (Loc.of U fun σ' hs => R_callz (FnT.fr (specConditionedWitness _ _ _ _ _)) U (.no U) (hd_sup hs U) (.cons (.tm (hs.slots _ _ U)) (readA_sup hs U) (.cons (.tm (hs.slots _ _ U)) (readA_sup hs U) (.cons (.tm (hs.slots _ _ U)) (readA_sup hs U) (.cons (.tm (hs.slots _ _ U)) (readA_sup hs U) (.cons (.tm (hs.slots _ _ U)) (readA_sup hs U) .nil)))))) ?_
     refine DrawG.step U U (Loc.of U fun σ' hs => R_movet U (.no U) (hd_sup hs U) (hs.slots _ _ U) fun _ => rfl) ?_
     refine DrawG.step U U (Loc.of U fun σ' hs => R_extract U (.no U) (hd_sup hs U) (hs.slots _ _ U) (fun _ => rfl) U) ?_
     refine DrawG.step U U (Loc.of U fun σ' hs => R_extract U (.no U) (hd_sup hs U) (hs.slots _ _ U) (fun _ => rfl) U) ?_
     refine DrawG.step U U (Loc.of1 U fun σ' hs hf => R_alloc 12 U U (hd_sup hs U) in34 U U hf) ?_
     refine DrawG.fin U (FinS.mk ⟨_, [(0, _), (1, _), (2, _), (3, _), (4, _), (5, _), (6, _), (10, _), (11, _), (12, _), (27, _), (32, _), (43, _)], [(3500, _), (3501, _), (3700, _), (3701, _), (12, _)]⟩ U U U U (R_store_pb U U U (.tm U) (.tm U) U ty34 U U U (by kernel_rfl) U) (R_store_pb U U U (.tm U) (.tm U) U ty34 U U U (by kernel_rfl) U) (R_extract U (.no U) U U (fun _ => rfl) U) (Sup.sub0 U ⟨U, U, U, U, U, U, U, U, U, U, U, U, U, Y⟩ ⟨U, U, U, U, U, Y⟩) (Sup.sub0 U ⟨U, U, U, U, U, U, U, U, U, U, U, U, U, Y⟩ ⟨U, U, U, U, U, Y⟩) ?_)
     refine AWl.av ?_
     refine AWl.nil (AW.sr ?_)
     refine AWl.p (by exact R_load U (.no U) U (.tm U) ty25 U U) U ?_
     refine AWl.adds (R_call 4500 (HtoGraph _ (by exact hz0)) U U U (.cons (.tm U) U .nil) U U) U ?_
     refine AWl.add (R_alloc 14 U U U in39 U U U) U ?_
     refine AWl.chgb (R_store_pb U U U (.tm U) (.tm U) U ty39 U U U (by kernel_rfl) U) ?_
     refine AWl.nil (AW.sr ?_)
     refine AWl.p (by exact R_load U (.no U) U (.tm U) ty29 U U) U ?_
     refine AWl.adds (R_call 4700 (HtoAutomaton _ (by exact hz1)) U U U (.cons (.tm U) U .nil) U U) U ?_
     refine AWl.add (R_alloc 15 U U U in41 U U U) U ?_
     refine AWl.chgb (R_store_pb U U U (.tm U) (.tm U) U ty41 U U U (by kernel_rfl) U) ?_
     refine AWl.nil (AW.sr ?_)
     refine AWl.p (by exact R_load_pp U (.no U) U (.tm U) U ty39 U U) U ?_
     refine AWl.p (by exact R_load_pp U (.no U) U (.tm U) U ty41 U U) U ?_
     refine AWl.mv ?_
     refine AWl.mv ?_
     refine AWl.mv ?_
     refine AWl.adds (R_call 5400 (implConditionedWitness _ _ _ _ _) U U U (.cons (.tm U) U (.cons (.tm U) U (.cons (.tm U) U (.cons (.tm U) U (.cons (.tm U) U .nil))))) U U) U ?_
     refine AWl.p (R_movet U (.no U) U U fun _ => rfl) U ?_
     refine AWl.p (R_extract U (.no U) U U (fun _ => rfl) U) U ?_
     refine AWl.p (R_extract U (.no U) U U (fun _ => rfl) U) U ?_
     refine AWl.add (R_alloc 16 U U U in34 U U U) U ?_
     refine AWl.chgb (R_store_pb U U U (.tm U) (.tm U) U ty34 U U U (by kernel_rfl) U) ?_
     refine AWl.av ?_
     refine AWl.nil (AW.seq ?_)
     refine AW.sr ?_
     refine AWl.p (by exact R_load_pp U (.no U) U (.tm U) U ty34 U U) U ?_
     refine AWl.p (by exact R_load_pp U (.no U) U (.tm U) U ty34 U U) U ?_
     refine AWl.p (R_callz (FnT.fr (HeqWalk _)) U (.no U) U (.cons (.tm U) U (.cons (.tm U) U .nil))) U ?_
     refine AWl.p (R_not U (.no U) U (.tm U)) U ?_
     refine AWl.mv ?_
     refine AWl.p (R_move U (by exact .not1 U U U U) U (.tmp U (by exact fun _ => rfl))) U ?_
     refine AWl.p (R_move U (by exact .not1 U U U U) U (.tmp U (by exact fun _ => rfl))) U ?_
     refine AWl.p (R_neb U (by exact .not1 U U U U) U (.tmp U (by exact fun _ => rfl)) (.tmp U (by exact fun _ => rfl)) Try.underlying4) U ?_
     refine AWl.p (R_or U (.no U) U (.tm U) (.tmp U (by exact fun _ => rfl))) U ?_
     refine AWl.nil ?_
     refine AW.cond (.tm U) (fun h65 => ?_) (fun h65 => ?_)
     · (exfalso; revert h65; simp; try omega)
     · skip
       try simp at h65
       refine AW.skip ?_
       refine AW.seq ?_
       refine AW.seq ?_
       refine AW.drawn 5 (nthB [[], [], [1], [0, 1, 2], [0, 1, 2, 3]]) (by kernel_rfl) (by kernel_rfl) (by kernel_rfl) ?_
       refine DrawC.step U U U (Loc.of U fun σ' hs => (by exact R_load_pp U (.no U) (hd_sup hs U) (.tm (hs.slots _ _ U)) (hs.res _ _ U) ty39 U U)) ?_
       refine DrawC.step U U U (Loc.of U fun σ' hs => (by exact R_load U (.no U) (hd_sup hs U) (.tm (hs.slots _ _ U)) ty25 U U)) ?_
       refine DrawC.step U U U (Loc.ofs U fun σ' hs hf => R_call 6800 (HtoGraph _ (by exact hz0)) U U (hd_sup hs U) (.cons (.tm (hs.slots _ _ U)) (readA_sup hs U) .nil) U (all_fresh hf)) ?_
       refine DrawC.step U U U (Loc.of U fun σ' hs => R_callz (FnT.fr (HeqGraph _)) U (.no U) (hd_sup hs U) (.cons (.tm (hs.slots _ _ U)) (readA_sup hs U) (.cons (.tm (hs.slots _ _ U)) (readA_sup hs U) .nil))) ?_
       refine DrawC.step U U U (Loc.of U fun σ' hs => R_not U (.no U) (hd_sup hs U) (.tm (hs.slots _ _ U))) ?_
       refine DrawC.fin U U ?_
       refine AWl.nil ?_
       refine AW.cond (.tm U) (fun h70 => ?_) (fun h70 => ?_)
       · (exfalso; revert h70; simp; try omega)
       · skip
         try simp at h70
         refine AW.skip ?_
         refine AW.seq ?_
         refine AW.seq ?_
         refine AW.drawn 5 (nthB [[], [], [1], [0, 1, 2], [0, 1, 2, 3]]) (by kernel_rfl) (by kernel_rfl) (by kernel_rfl) ?_
         refine DrawC.step U U U (Loc.of U fun σ' hs => (by exact R_load_pp U (.no U) (hd_sup hs U) (.tm (hs.slots _ _ U)) (hs.res _ _ U) ty41 U U)) ?_
         refine DrawC.step U U U (Loc.of U fun σ' hs => (by exact R_load U (.no U) (hd_sup hs U) (.tm (hs.slots _ _ U)) ty29 U U)) ?_
         refine DrawC.step U U U (Loc.ofs U fun σ' hs hf => R_call 7300 (HtoAutomaton _ (by exact hz1)) U U (hd_sup hs U) (.cons (.tm (hs.slots _ _ U)) (readA_sup hs U) .nil) U (all_fresh hf)) ?_
         refine DrawC.step U U U (Loc.of U fun σ' hs => R_callz (FnT.fr (HeqAutomaton _)) U (.no U) (hd_sup hs U) (.cons (.tm (hs.slots _ _ U)) (readA_sup hs U) (.cons (.tm (hs.slots _ _ U)) (readA_sup hs U) .nil))) ?_
         refine DrawC.step U U U (Loc.of U fun σ' hs => R_not U (.no U) (hd_sup hs U) (.tm (hs.slots _ _ U))) ?_
         refine DrawC.fin U U ?_
         refine AWl.nil ?_
         refine AW.cond (.tm U) (fun h75 => ?_) (fun h75 => ?_)
         · (exfalso; revert h75; simp; try omega)
         · skip
           try simp at h75
           refine AW.skip ?_
           refine AW.sr ?_
           refine AWl.ac ?_
           refine AWl.nil (AW.sr ?_)
           refine AWl.p (by exact R_load_pp U (.no U) U (.tm U) U ty39 U U) U ?_
           refine AWl.mv ?_
           refine AWl.marks (R_markc U U U (.tm U) (.tm U) (MmarkGraph _ _ (by omega)) (.rf U U (.rf U U .nil)) U U) U ?_
           refine AWl.av ?_
           refine AWl.nil (AW.sr ?_)
           refine AWl.p (by exact R_load_pp U (.no U) U (.tm U) U ty41 U U) U ?_
           refine AWl.mv ?_
           refine AWl.marks (R_markc U U U (.tm U) (.tm U) (MmarkAutomaton _ _ (by omega)) (.v (.rf U U (.rf U U .nil))) U U) U ?_
           refine AWl.av ?_
           refine AWl.nil (AW.seq ?_)
           refine AW.sr ?_
           refine AWl.mv ?_
           refine AWl.p (R_lt U (.no U) U (.tm U) (.const U)) U ?_
           refine AWl.mv ?_
           refine AWl.p (by exact R_load_pp U (by exact .not1 U U U U) U (.tmp U (by exact fun _ => rfl)) U ty34 U U) U ?_
           refine AWl.p (by exact R_load_pp U (by exact .not1 U U U U) U (.tmp U (by exact fun _ => rfl)) U ty34 U U) U ?_
           refine AWl.p (R_callz (FnT.fr (HeqWalk _)) U (by exact .not1 U U U U) U (.cons (.tmp U (by exact id)) U (.cons (.tmp U (by exact id)) U .nil))) U ?_
           refine AWl.p (R_not U (by exact .not1 U U U U) U (.tmp U (by exact id))) U ?_
           refine AWl.p (R_or U (.no U) U (.tm U) (.tmp U (by exact id))) U ?_
           refine AWl.mv ?_
           refine AWl.p (R_move U (by exact .not1 U U U U) U (.tmp U (by exact fun _ => rfl))) U ?_
           refine AWl.p (R_move U (by exact .not1 U U U U) U (.tmp U (by exact fun _ => rfl))) U ?_
           refine AWl.p (R_neb U (by exact .not1 U U U U) U (.tmp U (by exact id)) (.tmp U (by exact id)) Try.underlying4) U ?_
           refine AWl.p (R_or U (.no U) U (.tm U) (.tmp U (by exact id))) U ?_
           refine AWl.nil ?_
           refine AW.cond (.tm U) (fun h94 => ?_) (fun h94 => ?_)
           · (exfalso; revert h94; simp; try omega)
           · skip
             try simp at h94
             refine AW.skip ?_
             refine AW.sr ?_
             refine AWl.ac ?_
             refine AWl.nil (AW.sr ?_)
             refine AWl.p (by exact R_load_pp U (.no U) U (.tm U) U ty34 U U) U ?_
             refine AWl.mv ?_
             refine AWl.marks (R_markc U U U (.tm U) (.tm U) (MmarkWalk _ _ (by omega)) (.v (.rf U U .nil)) U U) U ?_
             refine AWl.av ?_
             refine AWl.nil (AW.sr ?_)
             refine AWl.ac ?_
             refine AWl.nil (AW.sr ?_)
             refine AWl.p (by exact R_load_pp U (.no U) U (.tm U) U ty34 U U) U ?_
             refine AWl.mv ?_
             refine AWl.p (R_callz (FnT.fr (MheldWalk _ _ (by omega))) U (.no U) U (.cons (.tm U) U (.cons (.tm U) U .nil))) U ?_
             refine AWl.av ?_
             refine AWl.nil (AW.seq ?_)
             refine AW.sr ?_
             refine AWl.mv ?_
             refine AWl.p (R_lt U (.no U) U (.tm U) (.const U)) U ?_
             refine AWl.nil ?_
             refine AW.cond (.tm U) (fun h102 => ?_) (fun h102 => ?_)
             · (exfalso; revert h102; simp; try omega)
             · skip
               try simp at h102
               refine AW.skip ?_
               refine AW.seq ?_
               refine AW.sr ?_
               refine AWl.mv ?_
               refine AWl.mv ?_
               refine AWl.p (R_ne U (.no U) U (.tm U) (.tm U)) U ?_
               refine AWl.nil ?_
               refine AW.cond (.tm U) (fun h105 => ?_) (fun h105 => ?_)
               · (exfalso; revert h105; simp; try omega)
               · skip
                 try simp at h105
                 refine AW.skip ?_
                 refine AW.seq ?_
                 refine AW.drawnS 12 10 (nthB [[], [0], [], [0, 1, 2], [], [], [], [0, 1, 2, 3, 4, 5, 6], [0, 1, 2, 3, 4, 5, 6, 7], [0, 1, 2, 3, 4, 5, 6, 7, 8], [0, 1, 2, 3, 4, 5, 6, 7, 8], [], [0, 1, 2, 3, 4, 5, 6, 7, 8, 9, 11]]) (by kernel_rfl) (by kernel_rfl) (by kernel_rfl) (by kernel_rfl) U ?_
                 refine DrawG.step U U (Loc.of U fun σ' hs => (by exact R_load U (.no U) (hd_sup hs U) (.tm (hs.slots _ _ U)) ty25 U U)) ?_
                 refine DrawG.step U U (Loc.ofs U fun σ' hs hf => R_call 10800 (HtoGraph _ (by exact hz0)) U U (hd_sup hs U) (.cons (.tm (hs.slots _ _ U)) (readA_sup hs U) .nil) U (all_fresh hf)) ?_
                 refine DrawG.step U U (Loc.of U fun σ' hs => (by exact R_load U (.no U) (hd_sup hs U) (.tm (hs.slots _ _ U)) ty29 U U)) ?_
                 refine DrawG.step U U (Loc.ofs U fun σ' hs hf => R_call 11000 (HtoAutomaton _ (by exact hz1)) U U (hd_sup hs U) (.cons (.tm (hs.slots _ _ U)) (readA_sup hs U) .nil) U (all_fresh hf)) ?_
                 refine DrawG.step U U (Loc.of U fun σ' hs => R_move U (.no U) (hd_sup hs U) (.tm (hs.slots _ _ U))) ?_
                 refine DrawG.step U U (Loc.of U fun σ' hs => R_move U (.no U) (hd_sup hs U) (.tm (hs.slots _ _ U))) ?_
                 refine DrawG.step U U (Loc.of U fun σ' hs => R_move U (.no U) (hd_sup hs U) (.tm (hs.slots _ _ U))) ?_
                 refine DrawG.step U U (Loc.ofs U fun σ' hs hf => R_call 11400 (implConditionedWitness _ _ _ _ _) U U (hd_sup hs U) (.cons (.tm (hs.slots _ _ U)) (readA_sup hs U) (.cons (.tm (hs.slots _ _ U)) (readA_sup hs U) (.cons (.tm (hs.slots _ _ U)) (readA_sup hs U) (.cons (.tm (hs.slots _ _ U)) (readA_sup hs U) (.cons (.tm (hs.slots _ _ U)) (readA_sup hs U) .nil))))) U (all_fresh hf)) ?_
                 refine DrawG.step U U (Loc.of U fun σ' hs => R_movet U (.no U) (hd_sup hs U) (hs.slots _ _ U) fun _ => rfl) ?_
                 refine DrawG.step U U (Loc.of U fun σ' hs => R_extract U (.no U) (hd_sup hs U) (hs.slots _ _ U) (fun _ => rfl) U) ?_
                 refine DrawG.step U U (Loc.of U fun σ' hs => R_extract U (.no U) (hd_sup hs U) (hs.slots _ _ U) (fun _ => rfl) U) ?_
                 refine DrawG.step U U (Loc.of1 U fun σ' hs hf => R_alloc 21 U U (hd_sup hs U) in34 U U hf) ?_
                 refine DrawG.fin U (FinS.mk ⟨_, [(0, _), (1, _), (2, _), (3, _), (4, _), (5, _), (6, _), (10, _), (11, _), (12, _), (13, _), (14, _), (15, _), (16, _), (17, _), (18, _), (19, _), (20, _), (21, _), (27, _), (32, _), (65, _), (70, _), (75, _), (94, _), (102, _), (105, _), (116, _)], [(3500, _), (3501, _), (3700, _), (3701, _), (12, _), (4500, _), (4501, _), (14, _), (4700, _), (4701, _), (15, _), (5400, _), (16, _), (6800, _), (6801, _), (7300, _), (7301, _), (10800, _), (10801, _), (11000, _), (11001, _), (11400, _), (21, _)]⟩ U U U U (R_store_pb U U U (.tm U) (.tm U) U ty34 U U U (by kernel_rfl) U) (R_store_pb U U U (.tm U) (.tm U) U ty34 U U U (by kernel_rfl) U) (R_extract U (.no U) U U (fun _ => rfl) U) (Sup.sub0 U ⟨U, U, U, U, U, U, U, U, U, U, U, U, U, U, U, U, U, U, U, U, U, U, U, U, U, U, U, U, Y⟩ ⟨U, U, U, U, U, U, U, U, U, U, U, U, U, U, U, U, U, U, U, U, U, U, U, Y⟩) (Sup.sub0 U ⟨U, U, U, U, U, U, U, U, U, U, U, U, U, U, U, U, U, U, U, U, U, U, U, U, U, U, U, U, Y⟩ ⟨U, U, U, U, U, U, U, U, U, U, U, U, U, U, U, U, U, U, U, U, U, U, U, Y⟩) ?_)
                 refine AWl.av ?_
                 refine AWl.nil (AW.seq ?_)
                 refine AW.sr ?_
                 refine AWl.p (by exact R_load_pp U (.no U) U (.tm U) U ty34 U U) U ?_
                 refine AWl.p (by exact R_load_pp U (.no U) U (.tm U) U ty34 U U) U ?_
                 refine AWl.p (R_callz (FnT.fr (HeqWalk _)) U (.no U) U (.cons (.tm U) U (.cons (.tm U) U .nil))) U ?_
                 refine AWl.p (R_not U (.no U) U (.tm U)) U ?_
                 refine AWl.mv ?_
                 refine AWl.p (R_move U (by exact .not1 U U U U) U (.tmp U (by exact fun _ => rfl))) U ?_
                 refine AWl.p (R_move U (by exact .not1 U U U U) U (.tmp U (by exact fun _ => rfl))) U ?_
                 refine AWl.p (R_neb U (by exact .not1 U U U U) U (.tmp U (by exact fun _ => rfl)) (.tmp U (by exact fun _ => rfl)) Try.underlying4) U ?_
                 refine AWl.p (R_or U (.no U) U (.tm U) (.tmp U (by exact fun _ => rfl))) U ?_
                 refine AWl.nil ?_
                 refine AW.cond (.tm U) (fun h125 => ?_) (fun h125 => ?_)
                 · (exfalso; revert h125; simp; try omega)
                 · skip
                   try simp at h125
                   refine AW.skip ?_
                   refine AW.sr ?_
                   refine AWl.ac ?_
                   refine AWl.nil (AW.sr ?_)
                   refine AWl.p (by exact R_load_pp U (.no U) U (.tm U) U ty34 U U) U ?_
                   refine AWl.mv ?_
                   refine AWl.p (R_callz (FnT.fr (MheldWalk _ _ (by omega))) U (.no U) U (.cons (.tm U) U (.cons (.tm U) U .nil))) U ?_
                   refine AWl.av ?_
                   refine AWl.nil (AW.seq ?_)
                   refine AW.sr ?_
                   refine AWl.mv ?_
                   refine AWl.p (R_lt U (.no U) U (.tm U) (.const U)) U ?_
                   refine AWl.nil ?_
                   refine AW.cond (.tm U) (fun h130 => ?_) (fun h130 => ?_)
                   · (exfalso; revert h130; simp; try omega)
                   · skip
                     try simp at h130
                     refine AW.skip ?_
                     refine AW.seq ?_
                     refine AW.sr ?_
                     refine AWl.mv ?_
                     refine AWl.mv ?_
                     refine AWl.p (R_ne U (.no U) U (.tm U) (.tm U)) U ?_
                     refine AWl.nil ?_
                     refine AW.cond (.tm U) (fun h133 => ?_) (fun h133 => ?_)
                     · (exfalso; revert h133; simp; try omega)
                     · skip
                       try simp at h133
                       refine AW.skip ?_
                       refine AW.sr ?_
                       refine AWl.ac ?_
                       refine AWl.nil (AW.ret ?_)
                       refine Res.v U U ?_
                       rfl
namespace LFnExactConditionedWitness
theorem opensInt : OpensT cInt Try.prog 3 := opensTInt Try.underlying3
theorem opensIntS : OpensT cIntS Try.prog 22 := opensTSlice (c := cInt) Try.underlying22 (by kernel_rfl) (by decide) (fun _ => rfl) opensInt
set_option maxRecDepth 100000 in
theorem opensEdge : OpensT cEdge Try.prog 95 := by
 intro H enc w base spare held fuel cs x h
 obtain ⟨xs, n, _, _, hlen, hxl, hf⟩ := DataW.trod_struct Try.underlying95 h
 rw [show Try.prog.cellsOf 95 = 4 from by kernel_rfl] at hlen
 have kInt : Try.prog.cellsOf 3 = 1 := by kernel_rfl
 match cs, hlen, xs, hxl with
 | [c0, c1, c2, c3], _, [y0, y1, y2, y3], _ =>
  have g0 : DataW.trod enc Try.prog w base spare held n 3 [c0] = some y0 := by simpa [kInt] using hf 0 _ rfl
  obtain ⟨x0, F0, e0⟩ := opensInt g0
  have g1 : DataW.trod enc Try.prog w base spare held n 3 [c1] = some y1 := by simpa [kInt] using hf 1 _ rfl
  obtain ⟨x1, F1, e1⟩ := opensInt g1
  have g2 : DataW.trod enc Try.prog w base spare held n 3 [c2] = some y2 := by simpa [kInt] using hf 2 _ rfl
  obtain ⟨x2, F2, e2⟩ := opensInt g2
  have g3 : DataW.trod enc Try.prog w base spare held n 3 [c3] = some y3 := by simpa [kInt] using hf 3 _ rfl
  obtain ⟨x3, F3, e3⟩ := opensInt g3
  exact ⟨⟨x0, x1, x2, x3⟩, _, (e0.append (e1.append (e2.append e3)))⟩
theorem opensEdgeS : OpensT cEdgeS Try.prog 23 := opensTSlice (c := cEdge) Try.underlying23 (by kernel_rfl) (by decide) (fun _ => rfl) opensEdge
set_option maxRecDepth 100000 in
theorem opensGraph : OpensT cGraph Try.prog 25 := by
 intro H enc w base spare held fuel cs x h
 obtain ⟨xs, n, _, _, hlen, hxl, hf⟩ := DataW.trod_struct Try.underlying25 h
 rw [show Try.prog.cellsOf 25 = 2 from by kernel_rfl] at hlen
 have kEdgeS : Try.prog.cellsOf 23 = 1 := by kernel_rfl
 have kIntS : Try.prog.cellsOf 22 = 1 := by kernel_rfl
 match cs, hlen, xs, hxl with
 | [c0, c1], _, [y0, y1], _ =>
  have g0 : DataW.trod enc Try.prog w base spare held n 22 [c0] = some y0 := by simpa [kIntS] using hf 0 _ rfl
  obtain ⟨x0, F0, e0⟩ := opensIntS g0
  have g1 : DataW.trod enc Try.prog w base spare held n 23 [c1] = some y1 := by simpa [kEdgeS] using hf 1 _ rfl
  obtain ⟨x1, F1, e1⟩ := opensEdgeS g1
  exact ⟨⟨x0, x1⟩, _, (e0.append e1)⟩
theorem opensBool : OpensT cBool Try.prog 4 := opensTBool Try.underlying4
theorem opensBoolS : OpensT cBoolS Try.prog 26 := opensTSlice (c := cBool) Try.underlying26 (by kernel_rfl) (by decide) (fun _ => rfl) opensBool
theorem opensIntSS : OpensT cIntSS Try.prog 27 := opensTSlice (c := cIntS) Try.underlying27 (by kernel_rfl) (by decide) (fun _ => rfl) opensIntS
set_option maxRecDepth 100000 in
theorem opensAutomaton : OpensT cAutomaton Try.prog 29 := by
 intro H enc w base spare held fuel cs x h
 obtain ⟨xs, n, _, _, hlen, hxl, hf⟩ := DataW.trod_struct Try.underlying29 h
 rw [show Try.prog.cellsOf 29 = 3 from by kernel_rfl] at hlen
 have kIntSS : Try.prog.cellsOf 27 = 1 := by kernel_rfl
 have kBoolS : Try.prog.cellsOf 26 = 1 := by kernel_rfl
 have kInt : Try.prog.cellsOf 3 = 1 := by kernel_rfl
 match cs, hlen, xs, hxl with
 | [c0, c1, c2], _, [y0, y1, y2], _ =>
  have g0 : DataW.trod enc Try.prog w base spare held n 3 [c0] = some y0 := by simpa [kInt] using hf 0 _ rfl
  obtain ⟨x0, F0, e0⟩ := opensInt g0
  have g1 : DataW.trod enc Try.prog w base spare held n 26 [c1] = some y1 := by simpa [kBoolS] using hf 1 _ rfl
  obtain ⟨x1, F1, e1⟩ := opensBoolS g1
  have g2 : DataW.trod enc Try.prog w base spare held n 27 [c2] = some y2 := by simpa [kIntSS] using hf 2 _ rfl
  obtain ⟨x2, F2, e2⟩ := opensIntSS g2
  exact ⟨⟨x0, x1, x2⟩, _, (e0.append (e1.append e2))⟩
theorem ownFnExactConditionedWitness : ownKnob Try.prog.godebug = none := by kernel_rfl
theorem laidOutFnExactConditionedWitness : laidOutB Try.prog = true := by kernel_rfl
set_option maxRecDepth 100000 in
theorem liftedFnExactConditionedWitness (os : Os) (started : os.Started) (H : Type) (enc : TypeId × Value → H) :
 ReturnsInHanded {} Try.checked os 3 .any (Rows.fnExactConditionedWitnessSpec.pre6 enc Try.prog Try.f3 Rows.fnExactConditionedWitnessRow.domain false) (Rows.fnExactConditionedWitnessSpec.post enc Try.prog Try.f3 false true false false) := by
 refine returnsInHanded_of_change_shaped (C := Try.checked) ownFnExactConditionedWitness started (by kernel_rfl) Try.func3
  (ChangeSpec.witness6 (enc := enc) (C := Try.checked) false ⟨#[], #[.agg #[.slice none 0 0, .slice none 0 0], .agg #[.int .i64 0, .slice none 0 0, .slice none 0 0], .int .i64 0, .int .i64 0, .int .i64 0], []⟩ 8 (by kernel_rfl) (by kernel_rfl) (by kernel_rfl) (by kernel_rfl)) ?_
 intro W base args ds gs before hval0 hW hcnd _ hsh _
 have hgood : Go.Q.Good W [] := Go.Q.good_of ⟨hsh, trivial, trivial⟩
 have hval : ∀ (j : Nat) t v, Try.f3.params[j]? = some t → args[j]? = some v → Value.okWide Try.prog W .any base t v := hval0
 have hW' := hW
 obtain ⟨p, q, hA0, hV, rfl, hfz, hnd⟩ := hW
 have hA : DataW.TrodAll enc Try.prog W 0 (fun _ => true) true Try.f3.params.toList args.toList ds p := hA0
 rw [Try.params3] at hA hval
 obtain ⟨v0, vs0, d0, ds0, p0, q0, hargs, rfl, rfl, h0, r0⟩ := trodAll_cons hA
 obtain ⟨v1, vs1, d1, ds1, p1, q1, rfl, rfl, rfl, h1, r1⟩ := trodAll_cons r0
 obtain ⟨v2, vs2, d2, ds2, p2, q2, rfl, rfl, rfl, h2, r2⟩ := trodAll_cons r1
 obtain ⟨v3, vs3, d3, ds3, p3, q3, rfl, rfl, rfl, h3, r3⟩ := trodAll_cons r2
 obtain ⟨v4, vs4, d4, ds4, p4, q4, rfl, rfl, rfl, h4, r4⟩ := trodAll_cons r3
 obtain ⟨rfl, rfl, rfl⟩ := trodAll_nil r4
 obtain rfl : args = #[v0, v1, v2, v3, v4] := by cases args; simp_all
 obtain ⟨rfl, rfl⟩ := trodVars_none hV
 obtain ⟨cs0, rfl, _⟩ := okWide_struct Try.underlying25 (hval 0 25 v0 rfl rfl)
 have k0 := h0
 have lt0 : ∀ x ∈ p0, x.block < W.heap.size := by obtain ⟨m, hm⟩ := k0; exact DataW.trod_lt m _ _ _ hm
 obtain ⟨x0, F0, hs0⟩ := OpensT.vl opensGraph h0
 obtain ⟨cs1, rfl, _⟩ := okWide_struct Try.underlying29 (hval 1 29 v1 rfl rfl)
 have k1 := h1
 have lt1 : ∀ x ∈ p1, x.block < W.heap.size := by obtain ⟨m, hm⟩ := k1; exact DataW.trod_lt m _ _ _ hm
 obtain ⟨x1, F1, hs1⟩ := OpensT.vl opensAutomaton h1
 obtain ⟨x2, rfl, rfl, rfl, wf2⟩ := open_int Try.underlying3 (hval 2 3 v2 rfl rfl) h2
 obtain ⟨x3, rfl, rfl, rfl, wf3⟩ := open_int Try.underlying3 (hval 3 3 v3 rfl rfl) h3
 obtain ⟨x4, rfl, rfl, rfl, wf4⟩ := open_int Try.underlying3 (hval 4 3 v4 rfl rfl) h4
 clear hA0 hval0
 refine ((lawFnExactConditionedWitness x0 x1 x2 x3 x4).2 W _ _ hgood ⟨_, _, _, _, rfl, (show V0r false W (.agg (cGraph x0)) _ _ from ⟨cs0.toList, by simp, hs0⟩), ⟨_, _, _, _, rfl, (show V0r false W (.agg (cAutomaton x1)) _ _ from ⟨cs1.toList, by simp, hs1⟩), ⟨_, _, _, _, rfl, (show V0r false W (.one (.v (.int .i64 x2))) _ [] by unfold V0r C; exact ⟨rfl, rfl, rfl⟩), ⟨_, _, _, _, rfl, (show V0r false W (.one (.v (.int .i64 x3))) _ [] by unfold V0r C; exact ⟨rfl, rfl, rfl⟩), ⟨_, _, _, _, rfl, (show V0r false W (.one (.v (.int .i64 x4))) _ [] by unfold V0r C; exact ⟨rfl, rfl, rfl⟩), ⟨rfl, rfl⟩, rfl⟩, rfl⟩, rfl⟩, rfl⟩, rfl⟩).mono fun e W' ⟨v, F, he, hv, _, _, bel⟩ => ?_
 have hv2 : v = .bool true := by unfold Vr V0r C at hv; exact hv.1
 subst hv2
 subst he
 exact ⟨_, rfl, _, _, _, [], _, [], hW', trodAll_mk1 (shut_bool Try.underlying4 _), (trodAll_cons_mk (Below.trod laidOutFnExactConditionedWitness (by kernel_rfl) (of_decide_eq_true (by kernel_rfl)) k0 bel lt0) (trodAll_cons_mk (Below.trod laidOutFnExactConditionedWitness (by kernel_rfl) (of_decide_eq_true (by kernel_rfl)) k1 bel lt1) (trodAll_cons_mk (shut_int Try.underlying3 wf2) (trodAll_cons_mk (shut_int Try.underlying3 wf3) (trodAll_cons_mk (shut_int Try.underlying3 wf4) trodAll_mk0))))), rfl, Below.frame bel _, fun h => by cases h⟩
theorem jfa : (Rows.fnExactConditionedWitnessRow.inPlace == Try.prog.inPlace 3) = true := by kernel_rfl
theorem jfb : (Rows.fnExactConditionedWitnessRow.unfollowed == Try.prog.unfollowed 3) = true := by kernel_rfl
theorem jfc : (Rows.fnExactConditionedWitnessRow.recurses == Try.prog.recurses 3) = true := by kernel_rfl
theorem jfd : (Rows.fnExactConditionedWitnessRow.named == Try.prog.varsNamed 3) = true := by kernel_rfl
theorem jfe : mapsRowed Try.prog = true := by kernel_rfl
theorem jff : joinedFacts Try.prog 3 Try.f3 Rows.fnExactConditionedWitnessSpec Rows.fnExactConditionedWitnessRow = true := by
 unfold joinedFacts
 rw [laidOutFnExactConditionedWitness, jfa, jfb, jfc, jfd, jfe]
 kernel_rfl
set_option maxRecDepth 100000 in
theorem provedFnExactConditionedWitness : Rows.FnExactConditionedWitnessSaid :=
 OpenClaim.holds_of_wide 3 Try.f3 rfl rfl rfl rfl rfl rfl rfl ⟨rfl, rfl, rfl, rfl, rfl⟩ rfl rfl rfl rfl rfl (by kernel_rfl) Try.func3 jff
  (of_decide_eq_true (by kernel_rfl)) (by unfold Func.isWrapper; first | (rw [if_pos (by decide +kernel)]; kernel_rfl) | (rw [if_neg (by decide +kernel)]; exact ⟨rfl, rfl⟩))
  (fun os started H enc _ => liftedFnExactConditionedWitness os started H enc)
#print axioms provedFnExactConditionedWitness
end LFnExactConditionedWitness
end Go.Proofs.Ytamnfkfjfelbbaa
