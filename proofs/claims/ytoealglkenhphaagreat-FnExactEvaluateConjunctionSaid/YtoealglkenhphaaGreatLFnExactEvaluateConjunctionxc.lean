import Derived.Test.YtoealglkenhphaaGreatRows
import Derived.Test.YtoealglkenhphaaGreatHAxc
import Derived.Test.YtoealglkenhphaaGreatHBxc
import Derived.Test.YtoealglkenhphaaGreatHCxc
import Derived.Test.YtoealglkenhphaaGreatHMxc
import Derived.Test.YtoealglkenhphaaGreatOpenTxc
import Derived.Test.YtoealglkenhphaaGreatB112xc
import Derived.Test.YtoealglkenhphaaGreatB113xc
import Derived.Test.YtoealglkenhphaaGreatB115xc
set_option linter.unusedVariables false
set_option linter.unusedSimpArgs false
namespace Go.Proofs.YtoealglkenhphaaGreat
open Go.RowKit Go.Q Go.D Go.ChangeShapes Go.WideShapes Go.ChangeAt Go.Deep
open Go.ChangeMaps (open_string shut_string)
set_option maxRecDepth 100000 in
set_option maxHeartbeats 1000000 in
theorem lawFnExactEvaluateConjunction (aG : TGraph) (aQ : TConjunction) : FnT Tryz.prog 6 [.agg (cGraph aG), .agg (cConjunction aQ)] (.a (.one (.v (.bool true)))) := by
 refine FnT.walk Tryz.func6 rfl (by kernel_rfl) Tryz.ntmps6 rfl fun hlen w0 => ?_
 try simp [cPair, cToken, cExpr, cEdge, cGraph, cStep, cWalk, cChange, cBatch, cHistory, cPositions, cAutomaton, cProductStep, cPathAtom, cConjunction, cView, cDelta, cRegistered, cRegistry] at hlen
 clear hlen
 refine AW.seq ?_
 refine AW.region ?_
 refine AWl.put (R_boxz rfl rfl rfl (.tmp rfl fun _ => rfl) (ts := _) (by rfl)) rfl ?_
 refine AWl.put (R_boxz rfl rfl rfl (.tmp rfl fun _ => rfl) (ts := _) (by rfl)) rfl ?_
 refine AWl.put (R_assign rfl (.no rfl) rfl (.const rfl)) rfl ?_
 refine AWl.nil (AW.seq ?_)
 refine AW.region ?_
 refine AWl.put (R_assign rfl (.no rfl) rfl (.const rfl)) rfl ?_
 refine AWl.nil (AW.seq ?_)
 refine AW.region ?_
 refine AWl.put (by exact R_load rfl (.no rfl) rfl (.tmp rfl fun _ => rfl) ty25 rfl rfl) rfl ?_
 refine AWl.put (R_move rfl (.no rfl) rfl (.tmp rfl fun _ => rfl)) rfl ?_
 refine AWl.put (R_callz (FnT.fr (HszGraph _ _ (by omega))) rfl (.no rfl) rfl (.cons (.tmp rfl fun _ => rfl) rfl (.cons (.tmp rfl fun _ => rfl) rfl .nil))) rfl ?_
 refine AWl.put (R_assign rfl (.no rfl) rfl (.tmp rfl fun _ => rfl)) rfl ?_
 refine AWl.nil (AW.seq ?_)
 refine AW.seq ?_
 refine AW.region ?_
 refine AWl.put (R_move rfl (.no rfl) rfl (.tmp rfl fun _ => rfl)) rfl ?_
 refine AWl.put (R_lt rfl (.no rfl) rfl (.tmp rfl fun _ => rfl) (.const rfl)) rfl ?_
 refine AWl.nil ?_
 refine AW.cond (.tmp rfl fun _ => rfl) (fun h18 => ?_) (fun h18 => ?_)
 · skip
   try simp at h18
   refine AW.seq ?_
   refine AW.region ?_
   refine AWl.put (R_assign rfl (.no rfl) rfl (.const rfl)) rfl ?_
   refine AWl.nil (AW.ret ?_)
   refine Res.v rfl rfl ?_
   rfl
 · skip
   try simp at h18
   have hb0 := szGraph_ok aG 1048576 (by omega) (by omega)
   have hz0 := hb0.2 (by omega)
   refine AW.skip ?_
   refine AW.seq ?_
   refine AW.region ?_
   refine AWl.put (by exact R_load rfl (.no rfl) rfl (.tmp rfl fun _ => rfl) ty82 rfl rfl) rfl ?_
   refine AWl.put (R_move rfl (.no rfl) rfl (.tmp rfl fun _ => rfl)) rfl ?_
   refine AWl.put (R_callz (FnT.fr (HszConjunction _ _ (by omega))) rfl (.no rfl) rfl (.cons (.tmp rfl fun _ => rfl) rfl (.cons (.tmp rfl fun _ => rfl) rfl .nil))) rfl ?_
   refine AWl.put (R_assign rfl (.no rfl) rfl (.tmp rfl fun _ => rfl)) rfl ?_
   refine AWl.nil (AW.seq ?_)
   refine AW.seq ?_
   refine AW.region ?_
   refine AWl.put (R_move rfl (.no rfl) rfl (.tmp rfl fun _ => rfl)) rfl ?_
   refine AWl.put (R_lt rfl (.no rfl) rfl (.tmp rfl fun _ => rfl) (.const rfl)) rfl ?_
   refine AWl.nil ?_
   refine AW.cond (.tmp rfl fun _ => rfl) (fun h23 => ?_) (fun h23 => ?_)
   · skip
     try simp at h23
     refine AW.seq ?_
     refine AW.region ?_
     refine AWl.put (R_assign rfl (.no rfl) rfl (.const rfl)) rfl ?_
     refine AWl.nil (AW.ret ?_)
     refine Res.v rfl rfl ?_
     rfl
   · skip
     try simp at h23
     have hb1 := szConjunction_ok aQ (szGraph aG 1048576) (by omega) (by omega)
     have hz1 := hb1.2 (by omega)
     have hcn0 := cpGraph_nn aG
     have hco0 := cpGraph_ok (by exact (hz0 : okGraph aG))
     have hcn1 := cpConjunction_nn aQ
     have hco1 := cpConjunction_ok (by exact (hz1 : okConjunction aQ))
     have hbd0 := evalC_cnt aG aQ
     have hbd1 := cntIntSS_nn (evalC aG aQ)
     refine AW.skip ?_
     refine AW.seq ?_
     refine AW.drawn 6 (nthB [[], [0], [], [0, 1, 2], [0, 1, 2, 3], [0, 1, 2, 3, 4]]) (by kernel_rfl) (by kernel_rfl) (by kernel_rfl) ?_
     refine DrawC.step rfl rfl rfl (Loc.of rfl fun σ' hs => (by exact R_load rfl (.no rfl) (hd_sup hs rfl) (.tmp (hs.slots _ _ rfl) fun _ => rfl) ty25 rfl rfl)) ?_
     refine DrawC.step rfl rfl rfl (Loc.ofs rfl fun σ' hs hf => R_call 2500 (HtoGraph _ (by exact hz0)) rfl rfl (hd_sup hs rfl) (.cons (.tmp (hs.slots _ _ rfl) fun _ => rfl) (readA_sup hs rfl) .nil) rfl (all_fresh hf)) ?_
     refine DrawC.step rfl rfl rfl (Loc.of rfl fun σ' hs => (by exact R_load rfl (.no rfl) (hd_sup hs rfl) (.tmp (hs.slots _ _ rfl) fun _ => rfl) ty82 rfl rfl)) ?_
     refine DrawC.step rfl rfl rfl (Loc.ofs rfl fun σ' hs hf => R_call 2700 (HtoConjunction _ (by exact hz1)) rfl rfl (hd_sup hs rfl) (.cons (.tmp (hs.slots _ _ rfl) fun _ => rfl) (readA_sup hs rfl) .nil) rfl (all_fresh hf)) ?_
     refine DrawC.step rfl rfl rfl (Loc.of rfl fun σ' hs => R_callz (FnT.fr (specEvaluateConjunction _ _ hz1.1.1)) rfl (.no rfl) (hd_sup hs rfl) (.cons (.tmp (hs.slots _ _ rfl) fun _ => rfl) (readA_sup hs rfl) (.cons (.tmp (hs.slots _ _ rfl) fun _ => rfl) (readA_sup hs rfl) .nil))) ?_
     refine DrawC.step rfl rfl rfl (Loc.of rfl fun σ' hs => R_assign rfl (.no rfl) (hd_sup hs rfl) (.tmp (hs.slots _ _ rfl) fun _ => rfl)) ?_
     refine DrawC.fin rfl rfl ?_
     refine AWl.nil (AW.seq ?_)
     refine AW.region ?_
     refine AWl.put (by exact R_load rfl (.no rfl) rfl (.tmp rfl fun _ => rfl) ty25 rfl rfl) rfl ?_
     refine AWl.adds (R_call 3000 (HtoGraph _ (by exact hz0)) rfl rfl rfl (.cons (.tmp rfl fun _ => rfl) rfl .nil) rfl rfl) rfl ?_
     refine AWl.add (R_alloc 7 rfl rfl rfl in43 rfl rfl rfl) rfl ?_
     refine AWl.chgb (R_store_pb rfl rfl rfl (.tmp rfl fun _ => rfl) (.tmp rfl fun _ => rfl) rfl ty43 rfl rfl rfl (by kernel_rfl) rfl) ?_
     refine AWl.nil (AW.seq ?_)
     refine AW.region ?_
     refine AWl.put (by exact R_load rfl (.no rfl) rfl (.tmp rfl fun _ => rfl) ty82 rfl rfl) rfl ?_
     refine AWl.adds (R_call 3200 (HtoConjunction _ (by exact hz1)) rfl rfl rfl (.cons (.tmp rfl fun _ => rfl) rfl .nil) rfl rfl) rfl ?_
     refine AWl.add (R_alloc 8 rfl rfl rfl in87 rfl rfl rfl) rfl ?_
     refine AWl.chgb (R_store_pb rfl rfl rfl (.tmp rfl fun _ => rfl) (.tmp rfl fun _ => rfl) rfl ty87 rfl rfl rfl (by kernel_rfl) rfl) ?_
     refine AWl.nil (AW.seq ?_)
     refine AW.region ?_
     refine AWl.put (by exact R_load_pp rfl (.no rfl) rfl (.tmp rfl fun _ => rfl) rfl ty43 rfl rfl) rfl ?_
     refine AWl.put (by exact R_load_pp rfl (.no rfl) rfl (.tmp rfl fun _ => rfl) rfl ty87 rfl rfl) rfl ?_
     refine AWl.adds (R_call 3500 (implEvaluateConjunction _ _ hz1.1.1) rfl rfl rfl (.cons (.tmp rfl fun _ => rfl) rfl (.cons (.tmp rfl fun _ => rfl) rfl .nil)) rfl rfl) rfl ?_
     refine AWl.put (R_assign rfl (.no rfl) rfl (.tmp rfl fun _ => rfl)) rfl ?_
     refine AWl.nil (AW.seq ?_)
     refine AW.seq ?_
     refine AW.region ?_
     refine AWl.put (R_move rfl (.no rfl) rfl (.tmp rfl fun _ => rfl)) rfl ?_
     refine AWl.put (R_move rfl (.no rfl) rfl (.tmp rfl fun _ => rfl)) rfl ?_
     refine AWl.put (R_callz (FnT.fr (HeqIntSS _)) rfl (.no rfl) rfl (.cons (.tmp rfl fun _ => rfl) rfl (.cons (.tmp rfl fun _ => rfl) rfl .nil))) rfl ?_
     refine AWl.put (R_not rfl (.no rfl) rfl (.tmp rfl fun _ => rfl)) rfl ?_
     refine AWl.nil ?_
     refine AW.cond (.tmp rfl fun _ => rfl) (fun h39 => ?_) (fun h39 => ?_)
     · (exfalso; revert h39; simp; try omega)
     · skip
       try simp at h39
       refine AW.skip ?_
       refine AW.seq ?_
       refine AW.seq ?_
       refine AW.drawn 5 (nthB [[], [], [1], [0, 1, 2], [0, 1, 2, 3]]) (by kernel_rfl) (by kernel_rfl) (by kernel_rfl) ?_
       refine DrawC.step rfl rfl rfl (Loc.of rfl fun σ' hs => (by exact R_load_pp rfl (.no rfl) (hd_sup hs rfl) (.tmp (hs.slots _ _ rfl) fun _ => rfl) (hs.res _ _ rfl) ty43 rfl rfl)) ?_
       refine DrawC.step rfl rfl rfl (Loc.of rfl fun σ' hs => (by exact R_load rfl (.no rfl) (hd_sup hs rfl) (.tmp (hs.slots _ _ rfl) fun _ => rfl) ty25 rfl rfl)) ?_
       refine DrawC.step rfl rfl rfl (Loc.ofs rfl fun σ' hs hf => R_call 4200 (HtoGraph _ (by exact hz0)) rfl rfl (hd_sup hs rfl) (.cons (.tmp (hs.slots _ _ rfl) fun _ => rfl) (readA_sup hs rfl) .nil) rfl (all_fresh hf)) ?_
       refine DrawC.step rfl rfl rfl (Loc.of rfl fun σ' hs => R_callz (FnT.fr (HeqGraph _)) rfl (.no rfl) (hd_sup hs rfl) (.cons (.tmp (hs.slots _ _ rfl) fun _ => rfl) (readA_sup hs rfl) (.cons (.tmp (hs.slots _ _ rfl) fun _ => rfl) (readA_sup hs rfl) .nil))) ?_
       refine DrawC.step rfl rfl rfl (Loc.of rfl fun σ' hs => R_not rfl (.no rfl) (hd_sup hs rfl) (.tmp (hs.slots _ _ rfl) fun _ => rfl)) ?_
       refine DrawC.fin rfl rfl ?_
       refine AWl.nil ?_
       refine AW.cond (.tmp rfl fun _ => rfl) (fun h44 => ?_) (fun h44 => ?_)
       · (exfalso; revert h44; simp; try omega)
       · skip
         try simp at h44
         refine AW.skip ?_
         refine AW.seq ?_
         refine AW.seq ?_
         refine AW.drawn 5 (nthB [[], [], [1], [0, 1, 2], [0, 1, 2, 3]]) (by kernel_rfl) (by kernel_rfl) (by kernel_rfl) ?_
         refine DrawC.step rfl rfl rfl (Loc.of rfl fun σ' hs => (by exact R_load_pp rfl (.no rfl) (hd_sup hs rfl) (.tmp (hs.slots _ _ rfl) fun _ => rfl) (hs.res _ _ rfl) ty87 rfl rfl)) ?_
         refine DrawC.step rfl rfl rfl (Loc.of rfl fun σ' hs => (by exact R_load rfl (.no rfl) (hd_sup hs rfl) (.tmp (hs.slots _ _ rfl) fun _ => rfl) ty82 rfl rfl)) ?_
         refine DrawC.step rfl rfl rfl (Loc.ofs rfl fun σ' hs hf => R_call 4700 (HtoConjunction _ (by exact hz1)) rfl rfl (hd_sup hs rfl) (.cons (.tmp (hs.slots _ _ rfl) fun _ => rfl) (readA_sup hs rfl) .nil) rfl (all_fresh hf)) ?_
         refine DrawC.step rfl rfl rfl (Loc.of rfl fun σ' hs => R_callz (FnT.fr (HeqConjunction _)) rfl (.no rfl) (hd_sup hs rfl) (.cons (.tmp (hs.slots _ _ rfl) fun _ => rfl) (readA_sup hs rfl) (.cons (.tmp (hs.slots _ _ rfl) fun _ => rfl) (readA_sup hs rfl) .nil))) ?_
         refine DrawC.step rfl rfl rfl (Loc.of rfl fun σ' hs => R_not rfl (.no rfl) (hd_sup hs rfl) (.tmp (hs.slots _ _ rfl) fun _ => rfl)) ?_
         refine DrawC.fin rfl rfl ?_
         refine AWl.nil ?_
         refine AW.cond (.tmp rfl fun _ => rfl) (fun h49 => ?_) (fun h49 => ?_)
         · (exfalso; revert h49; simp; try omega)
         · skip
           try simp at h49
           refine AW.skip ?_
           refine AW.seq ?_
           refine AW.region ?_
           refine AWl.put (R_assign rfl (.no rfl) rfl (.const rfl)) rfl ?_
           refine AWl.nil (AW.seq ?_)
           refine AW.region ?_
           refine AWl.put (by exact R_load_pp rfl (.no rfl) rfl (.tmp rfl fun _ => rfl) rfl ty43 rfl rfl) rfl ?_
           refine AWl.put (R_move rfl (.no rfl) rfl (.tmp rfl fun _ => rfl)) rfl ?_
           refine AWl.marks (R_markc rfl rfl rfl (.tmp rfl fun _ => rfl) (.tmp rfl fun _ => rfl) (MmarkGraph _ _ (by omega)) (.rf rfl rfl (.rf rfl rfl .nil)) rfl rfl) rfl ?_
           refine AWl.put (R_assign rfl (.no rfl) rfl (.tmp rfl fun _ => rfl)) rfl ?_
           refine AWl.nil (AW.seq ?_)
           refine AW.region ?_
           refine AWl.put (by exact R_load_pp rfl (.no rfl) rfl (.tmp rfl fun _ => rfl) rfl ty87 rfl rfl) rfl ?_
           refine AWl.put (R_move rfl (.no rfl) rfl (.tmp rfl fun _ => rfl)) rfl ?_
           refine AWl.marks (R_markc rfl rfl rfl (.tmp rfl fun _ => rfl) (.tmp rfl fun _ => rfl) (MmarkConjunction _ _ (by omega)) (.v (.rf rfl rfl .nil)) rfl rfl) rfl ?_
           refine AWl.put (R_assign rfl (.no rfl) rfl (.tmp rfl fun _ => rfl)) rfl ?_
           refine AWl.nil (AW.seq ?_)
           refine AW.seq ?_
           refine AW.region ?_
           refine AWl.put (R_move rfl (.no rfl) rfl (.tmp rfl fun _ => rfl)) rfl ?_
           refine AWl.put (R_lt rfl (.no rfl) rfl (.tmp rfl fun _ => rfl) (.const rfl)) rfl ?_
           refine AWl.put (R_move rfl (.no rfl) rfl (.tmp rfl fun _ => rfl)) rfl ?_
           refine AWl.put (R_move rfl (by exact .not1 rfl rfl rfl rfl) rfl (.tmp rfl (by exact fun _ => rfl))) rfl ?_
           refine AWl.put (R_move rfl (by exact .not1 rfl rfl rfl rfl) rfl (.tmp rfl (by exact fun _ => rfl))) rfl ?_
           refine AWl.put (R_callz (FnT.fr (HeqIntSS _)) rfl (by exact .not1 rfl rfl rfl rfl) rfl (.cons (.tmp rfl (by exact id)) rfl (.cons (.tmp rfl (by exact id)) rfl .nil))) rfl ?_
           refine AWl.put (R_not rfl (by exact .not1 rfl rfl rfl rfl) rfl (.tmp rfl (by exact id))) rfl ?_
           refine AWl.put (R_or rfl (.no rfl) rfl (.tmp rfl fun _ => rfl) (.tmp rfl (by exact id))) rfl ?_
           refine AWl.nil ?_
           refine AW.cond (.tmp rfl fun _ => rfl) (fun h63 => ?_) (fun h63 => ?_)
           · (exfalso; revert h63; simp; try omega)
           · skip
             try simp at h63
             refine AW.skip ?_
             refine AW.seq ?_
             refine AW.region ?_
             refine AWl.put (R_assign rfl (.no rfl) rfl (.const rfl)) rfl ?_
             refine AWl.nil (AW.seq ?_)
             refine AW.region ?_
             refine AWl.put (R_move rfl (.no rfl) rfl (.tmp rfl fun _ => rfl)) rfl ?_
             refine AWl.put (R_move rfl (.no rfl) rfl (.tmp rfl fun _ => rfl)) rfl ?_
             refine AWl.marks (R_markc rfl rfl rfl (.tmp rfl fun _ => rfl) (.tmp rfl fun _ => rfl) (MmarkIntSS _ _ (by omega)) (.rf rfl rfl .nil) rfl rfl) rfl ?_
             refine AWl.put (R_assign rfl (.no rfl) rfl (.tmp rfl fun _ => rfl)) rfl ?_
             refine AWl.nil (AW.seq ?_)
             refine AW.region ?_
             refine AWl.put (R_assign rfl (.no rfl) rfl (.const rfl)) rfl ?_
             refine AWl.nil (AW.seq ?_)
             refine AW.region ?_
             refine AWl.put (R_move rfl (.no rfl) rfl (.tmp rfl fun _ => rfl)) rfl ?_
             refine AWl.put (R_move rfl (.no rfl) rfl (.tmp rfl fun _ => rfl)) rfl ?_
             refine AWl.put (R_callz (FnT.fr (MheldIntSS _ _ (by omega))) rfl (.no rfl) rfl (.cons (.tmp rfl fun _ => rfl) rfl (.cons (.tmp rfl fun _ => rfl) rfl .nil))) rfl ?_
             refine AWl.put (R_assign rfl (.no rfl) rfl (.tmp rfl fun _ => rfl)) rfl ?_
             refine AWl.nil (AW.seq ?_)
             refine AW.seq ?_
             refine AW.region ?_
             refine AWl.put (R_move rfl (.no rfl) rfl (.tmp rfl fun _ => rfl)) rfl ?_
             refine AWl.put (R_lt rfl (.no rfl) rfl (.tmp rfl fun _ => rfl) (.const rfl)) rfl ?_
             refine AWl.nil ?_
             refine AW.cond (.tmp rfl fun _ => rfl) (fun h71 => ?_) (fun h71 => ?_)
             · (exfalso; revert h71; simp; try omega)
             · skip
               try simp at h71
               refine AW.skip ?_
               refine AW.seq ?_
               refine AW.seq ?_
               refine AW.region ?_
               refine AWl.put (R_move rfl (.no rfl) rfl (.tmp rfl fun _ => rfl)) rfl ?_
               refine AWl.put (R_move rfl (.no rfl) rfl (.tmp rfl fun _ => rfl)) rfl ?_
               refine AWl.put (R_ne rfl (.no rfl) rfl (.tmp rfl fun _ => rfl) (.tmp rfl fun _ => rfl)) rfl ?_
               refine AWl.nil ?_
               refine AW.cond (.tmp rfl fun _ => rfl) (fun h74 => ?_) (fun h74 => ?_)
               · (exfalso; revert h74; simp; try omega)
               · skip
                 try simp at h74
                 refine AW.skip ?_
                 refine AW.seq ?_
                 refine AW.drawn 6 (nthB [[], [0], [], [0, 1, 2], [0, 1, 2, 3], [0, 1, 2, 3, 4]]) (by kernel_rfl) (by kernel_rfl) (by kernel_rfl) ?_
                 refine DrawC.step rfl rfl rfl (Loc.of rfl fun σ' hs => (by exact R_load rfl (.no rfl) (hd_sup hs rfl) (.tmp (hs.slots _ _ rfl) fun _ => rfl) ty25 rfl rfl)) ?_
                 refine DrawC.step rfl rfl rfl (Loc.ofs rfl fun σ' hs hf => R_call 7600 (HtoGraph _ (by exact hz0)) rfl rfl (hd_sup hs rfl) (.cons (.tmp (hs.slots _ _ rfl) fun _ => rfl) (readA_sup hs rfl) .nil) rfl (all_fresh hf)) ?_
                 refine DrawC.step rfl rfl rfl (Loc.of rfl fun σ' hs => (by exact R_load rfl (.no rfl) (hd_sup hs rfl) (.tmp (hs.slots _ _ rfl) fun _ => rfl) ty82 rfl rfl)) ?_
                 refine DrawC.step rfl rfl rfl (Loc.ofs rfl fun σ' hs hf => R_call 7800 (HtoConjunction _ (by exact hz1)) rfl rfl (hd_sup hs rfl) (.cons (.tmp (hs.slots _ _ rfl) fun _ => rfl) (readA_sup hs rfl) .nil) rfl (all_fresh hf)) ?_
                 refine DrawC.step rfl rfl rfl (Loc.ofs rfl fun σ' hs hf => R_call 7900 (implEvaluateConjunction _ _ hz1.1.1) rfl rfl (hd_sup hs rfl) (.cons (.tmp (hs.slots _ _ rfl) fun _ => rfl) (readA_sup hs rfl) (.cons (.tmp (hs.slots _ _ rfl) fun _ => rfl) (readA_sup hs rfl) .nil)) rfl (all_fresh hf)) ?_
                 refine DrawC.step rfl rfl rfl (Loc.of rfl fun σ' hs => R_assign rfl (.no rfl) (hd_sup hs rfl) (.tmp (hs.slots _ _ rfl) fun _ => rfl)) ?_
                 refine DrawC.fin rfl rfl ?_
                 refine AWl.nil (AW.seq ?_)
                 refine AW.seq ?_
                 refine AW.region ?_
                 refine AWl.put (R_move rfl (.no rfl) rfl (.tmp rfl fun _ => rfl)) rfl ?_
                 refine AWl.put (R_move rfl (.no rfl) rfl (.tmp rfl fun _ => rfl)) rfl ?_
                 refine AWl.put (R_callz (FnT.fr (HeqIntSS _)) rfl (.no rfl) rfl (.cons (.tmp rfl fun _ => rfl) rfl (.cons (.tmp rfl fun _ => rfl) rfl .nil))) rfl ?_
                 refine AWl.put (R_not rfl (.no rfl) rfl (.tmp rfl fun _ => rfl)) rfl ?_
                 refine AWl.nil ?_
                 refine AW.cond (.tmp rfl fun _ => rfl) (fun h83 => ?_) (fun h83 => ?_)
                 · (exfalso; revert h83; simp; try omega)
                 · skip
                   try simp at h83
                   refine AW.skip ?_
                   refine AW.seq ?_
                   refine AW.region ?_
                   refine AWl.put (R_assign rfl (.no rfl) rfl (.const rfl)) rfl ?_
                   refine AWl.nil (AW.seq ?_)
                   refine AW.region ?_
                   refine AWl.put (R_move rfl (.no rfl) rfl (.tmp rfl fun _ => rfl)) rfl ?_
                   refine AWl.put (R_move rfl (.no rfl) rfl (.tmp rfl fun _ => rfl)) rfl ?_
                   refine AWl.put (R_callz (FnT.fr (MheldIntSS _ _ (by omega))) rfl (.no rfl) rfl (.cons (.tmp rfl fun _ => rfl) rfl (.cons (.tmp rfl fun _ => rfl) rfl .nil))) rfl ?_
                   refine AWl.put (R_assign rfl (.no rfl) rfl (.tmp rfl fun _ => rfl)) rfl ?_
                   refine AWl.nil (AW.seq ?_)
                   refine AW.seq ?_
                   refine AW.region ?_
                   refine AWl.put (R_move rfl (.no rfl) rfl (.tmp rfl fun _ => rfl)) rfl ?_
                   refine AWl.put (R_lt rfl (.no rfl) rfl (.tmp rfl fun _ => rfl) (.const rfl)) rfl ?_
                   refine AWl.nil ?_
                   refine AW.cond (.tmp rfl fun _ => rfl) (fun h88 => ?_) (fun h88 => ?_)
                   · (exfalso; revert h88; simp; try omega)
                   · skip
                     try simp at h88
                     refine AW.skip ?_
                     refine AW.seq ?_
                     refine AW.seq ?_
                     refine AW.region ?_
                     refine AWl.put (R_move rfl (.no rfl) rfl (.tmp rfl fun _ => rfl)) rfl ?_
                     refine AWl.put (R_move rfl (.no rfl) rfl (.tmp rfl fun _ => rfl)) rfl ?_
                     refine AWl.put (R_ne rfl (.no rfl) rfl (.tmp rfl fun _ => rfl) (.tmp rfl fun _ => rfl)) rfl ?_
                     refine AWl.nil ?_
                     refine AW.cond (.tmp rfl fun _ => rfl) (fun h91 => ?_) (fun h91 => ?_)
                     · (exfalso; revert h91; simp; try omega)
                     · skip
                       try simp at h91
                       refine AW.skip ?_
                       refine AW.seq ?_
                       refine AW.region ?_
                       refine AWl.put (R_assign rfl (.no rfl) rfl (.const rfl)) rfl ?_
                       refine AWl.nil (AW.ret ?_)
                       refine Res.v rfl rfl ?_
                       rfl
namespace LFnExactEvaluateConjunction
theorem opensInt : OpensT cInt Tryz.prog 3 := opensTInt Tryz.underlying3
theorem opensIntS : OpensT cIntS Tryz.prog 22 := opensTSlice (c := cInt) Tryz.underlying22 (by kernel_rfl) (by decide) (fun _ => rfl) opensInt
set_option maxRecDepth 100000 in
theorem opensEdge : OpensT cEdge Tryz.prog 33 := by
 intro H enc w base spare held fuel cs x h
 obtain ⟨xs, n, _, _, hlen, hxl, hf⟩ := DataW.trod_struct Tryz.underlying33 h
 rw [show Tryz.prog.cellsOf 33 = 4 from by kernel_rfl] at hlen
 have kInt : Tryz.prog.cellsOf 3 = 1 := by kernel_rfl
 match cs, hlen, xs, hxl with
 | [c0, c1, c2, c3], _, [y0, y1, y2, y3], _ =>
  have g0 : DataW.trod enc Tryz.prog w base spare held n 3 [c0] = some y0 := by simpa [kInt] using hf 0 _ rfl
  obtain ⟨x0, F0, e0⟩ := opensInt g0
  have g1 : DataW.trod enc Tryz.prog w base spare held n 3 [c1] = some y1 := by simpa [kInt] using hf 1 _ rfl
  obtain ⟨x1, F1, e1⟩ := opensInt g1
  have g2 : DataW.trod enc Tryz.prog w base spare held n 3 [c2] = some y2 := by simpa [kInt] using hf 2 _ rfl
  obtain ⟨x2, F2, e2⟩ := opensInt g2
  have g3 : DataW.trod enc Tryz.prog w base spare held n 3 [c3] = some y3 := by simpa [kInt] using hf 3 _ rfl
  obtain ⟨x3, F3, e3⟩ := opensInt g3
  exact ⟨⟨x0, x1, x2, x3⟩, _, (e0.append (e1.append (e2.append e3)))⟩
theorem opensEdgeS : OpensT cEdgeS Tryz.prog 23 := opensTSlice (c := cEdge) Tryz.underlying23 (by kernel_rfl) (by decide) (fun _ => rfl) opensEdge
set_option maxRecDepth 100000 in
theorem opensGraph : OpensT cGraph Tryz.prog 25 := by
 intro H enc w base spare held fuel cs x h
 obtain ⟨xs, n, _, _, hlen, hxl, hf⟩ := DataW.trod_struct Tryz.underlying25 h
 rw [show Tryz.prog.cellsOf 25 = 2 from by kernel_rfl] at hlen
 have kEdgeS : Tryz.prog.cellsOf 23 = 1 := by kernel_rfl
 have kIntS : Tryz.prog.cellsOf 22 = 1 := by kernel_rfl
 match cs, hlen, xs, hxl with
 | [c0, c1], _, [y0, y1], _ =>
  have g0 : DataW.trod enc Tryz.prog w base spare held n 22 [c0] = some y0 := by simpa [kIntS] using hf 0 _ rfl
  obtain ⟨x0, F0, e0⟩ := opensIntS g0
  have g1 : DataW.trod enc Tryz.prog w base spare held n 23 [c1] = some y1 := by simpa [kEdgeS] using hf 1 _ rfl
  obtain ⟨x1, F1, e1⟩ := opensEdgeS g1
  exact ⟨⟨x0, x1⟩, _, (e0.append e1)⟩
set_option maxRecDepth 100000 in
theorem opensToken : OpensT cToken Tryz.prog 174 := by
 intro H enc w base spare held fuel cs x h
 obtain ⟨xs, n, _, _, hlen, hxl, hf⟩ := DataW.trod_struct Tryz.underlying174 h
 rw [show Tryz.prog.cellsOf 174 = 4 from by kernel_rfl] at hlen
 have kInt : Tryz.prog.cellsOf 3 = 1 := by kernel_rfl
 match cs, hlen, xs, hxl with
 | [c0, c1, c2, c3], _, [y0, y1, y2, y3], _ =>
  have g0 : DataW.trod enc Tryz.prog w base spare held n 3 [c0] = some y0 := by simpa [kInt] using hf 0 _ rfl
  obtain ⟨x0, F0, e0⟩ := opensInt g0
  have g1 : DataW.trod enc Tryz.prog w base spare held n 3 [c1] = some y1 := by simpa [kInt] using hf 1 _ rfl
  obtain ⟨x1, F1, e1⟩ := opensInt g1
  have g2 : DataW.trod enc Tryz.prog w base spare held n 3 [c2] = some y2 := by simpa [kInt] using hf 2 _ rfl
  obtain ⟨x2, F2, e2⟩ := opensInt g2
  have g3 : DataW.trod enc Tryz.prog w base spare held n 3 [c3] = some y3 := by simpa [kInt] using hf 3 _ rfl
  obtain ⟨x3, F3, e3⟩ := opensInt g3
  exact ⟨⟨x0, x1, x2, x3⟩, _, (e0.append (e1.append (e2.append e3)))⟩
theorem opensTokenS : OpensT cTokenS Tryz.prog 65 := opensTSlice (c := cToken) Tryz.underlying65 (by kernel_rfl) (by decide) (fun _ => rfl) opensToken
set_option maxRecDepth 100000 in
theorem opensExpr : OpensT cExpr Tryz.prog 67 := by
 intro H enc w base spare held fuel cs x h
 obtain ⟨xs, n, _, _, hlen, hxl, hf⟩ := DataW.trod_struct Tryz.underlying67 h
 rw [show Tryz.prog.cellsOf 67 = 1 from by kernel_rfl] at hlen
 have kTokenS : Tryz.prog.cellsOf 65 = 1 := by kernel_rfl
 match cs, hlen, xs, hxl with
 | [c0], _, [y0], _ =>
  have g0 : DataW.trod enc Tryz.prog w base spare held n 65 [c0] = some y0 := by simpa [kTokenS] using hf 0 _ rfl
  obtain ⟨x0, F0, e0⟩ := opensTokenS g0
  exact ⟨⟨x0⟩, _, e0⟩
set_option maxRecDepth 100000 in
theorem opensPathAtom : OpensT cPathAtom Tryz.prog 183 := by
 intro H enc w base spare held fuel cs x h
 obtain ⟨xs, n, _, _, hlen, hxl, hf⟩ := DataW.trod_struct Tryz.underlying183 h
 rw [show Tryz.prog.cellsOf 183 = 3 from by kernel_rfl] at hlen
 have kExpr : Tryz.prog.cellsOf 67 = 1 := by kernel_rfl
 have kInt : Tryz.prog.cellsOf 3 = 1 := by kernel_rfl
 match cs, hlen, xs, hxl with
 | [c0, c1, c2], _, [y0, y1, y2], _ =>
  have g0 : DataW.trod enc Tryz.prog w base spare held n 3 [c0] = some y0 := by simpa [kInt] using hf 0 _ rfl
  obtain ⟨x0, F0, e0⟩ := opensInt g0
  have g1 : DataW.trod enc Tryz.prog w base spare held n 3 [c1] = some y1 := by simpa [kInt] using hf 1 _ rfl
  obtain ⟨x1, F1, e1⟩ := opensInt g1
  have g2 : DataW.trod enc Tryz.prog w base spare held n 67 [c2] = some y2 := by simpa [kExpr] using hf 2 _ rfl
  obtain ⟨x2, F2, e2⟩ := opensExpr g2
  exact ⟨⟨x0, x1, x2⟩, _, (e0.append (e1.append e2))⟩
theorem opensPathAtomS : OpensT cPathAtomS Tryz.prog 80 := opensTSlice (c := cPathAtom) Tryz.underlying80 (by kernel_rfl) (by decide) (fun _ => rfl) opensPathAtom
set_option maxRecDepth 100000 in
theorem opensConjunction : OpensT cConjunction Tryz.prog 82 := by
 intro H enc w base spare held fuel cs x h
 obtain ⟨xs, n, _, _, hlen, hxl, hf⟩ := DataW.trod_struct Tryz.underlying82 h
 rw [show Tryz.prog.cellsOf 82 = 2 from by kernel_rfl] at hlen
 have kPathAtomS : Tryz.prog.cellsOf 80 = 1 := by kernel_rfl
 have kInt : Tryz.prog.cellsOf 3 = 1 := by kernel_rfl
 match cs, hlen, xs, hxl with
 | [c0, c1], _, [y0, y1], _ =>
  have g0 : DataW.trod enc Tryz.prog w base spare held n 3 [c0] = some y0 := by simpa [kInt] using hf 0 _ rfl
  obtain ⟨x0, F0, e0⟩ := opensInt g0
  have g1 : DataW.trod enc Tryz.prog w base spare held n 80 [c1] = some y1 := by simpa [kPathAtomS] using hf 1 _ rfl
  obtain ⟨x1, F1, e1⟩ := opensPathAtomS g1
  exact ⟨⟨x0, x1⟩, _, (e0.append e1)⟩
theorem ownFnExactEvaluateConjunction : ownKnob Tryz.prog.godebug = none := by kernel_rfl
theorem laidOutFnExactEvaluateConjunction : laidOutB Tryz.prog = true := by kernel_rfl
set_option maxRecDepth 100000 in
theorem liftedFnExactEvaluateConjunction (os : Os) (started : os.Started) (H : Type) (enc : TypeId × Value → H) :
 ReturnsInHanded {} Tryz.checked os 6 .any (Rows.fnExactEvaluateConjunctionSpec.pre6 enc Tryz.prog Tryz.f6 Rows.fnExactEvaluateConjunctionRow.domain false) (Rows.fnExactEvaluateConjunctionSpec.post enc Tryz.prog Tryz.f6 false true false false) := by
 refine returnsInHanded_of_change_shaped (C := Tryz.checked) ownFnExactEvaluateConjunction started (by kernel_rfl) Tryz.func6
  (ChangeSpec.witness6 (enc := enc) (C := Tryz.checked) false ⟨#[], #[.agg #[.slice none 0 0, .slice none 0 0], .agg #[.int .i64 0, .slice none 0 0]], []⟩ 8 (by kernel_rfl) (by kernel_rfl) (by kernel_rfl) (by kernel_rfl)) ?_
 intro W base args ds gs before hval0 hW hcnd _ hsh _
 have hgood : Go.Q.Good W [] := Go.Q.good_of ⟨hsh, trivial, trivial⟩
 have hval : ∀ (j : Nat) t v, Tryz.f6.params[j]? = some t → args[j]? = some v → Value.okWide Tryz.prog W .any base t v := hval0
 have hW' := hW
 obtain ⟨p, q, hA0, hV, rfl, hfz, hnd⟩ := hW
 have hA : DataW.TrodAll enc Tryz.prog W 0 (fun _ => true) true Tryz.f6.params.toList args.toList ds p := hA0
 rw [Tryz.params6] at hA hval
 obtain ⟨v0, vs0, d0, ds0, p0, q0, hargs, rfl, rfl, h0, r0⟩ := trodAll_cons hA
 obtain ⟨v1, vs1, d1, ds1, p1, q1, rfl, rfl, rfl, h1, r1⟩ := trodAll_cons r0
 obtain ⟨rfl, rfl, rfl⟩ := trodAll_nil r1
 obtain rfl : args = #[v0, v1] := by cases args; simp_all
 obtain ⟨rfl, rfl⟩ := trodVars_none hV
 obtain ⟨cs0, rfl, _⟩ := okWide_struct Tryz.underlying25 (hval 0 25 v0 rfl rfl)
 have k0 := h0
 have lt0 : ∀ x ∈ p0, x.block < W.heap.size := by obtain ⟨m, hm⟩ := k0; exact DataW.trod_lt m _ _ _ hm
 obtain ⟨x0, F0, hs0⟩ := OpensT.vl opensGraph h0
 obtain ⟨cs1, rfl, _⟩ := okWide_struct Tryz.underlying82 (hval 1 82 v1 rfl rfl)
 have k1 := h1
 have lt1 : ∀ x ∈ p1, x.block < W.heap.size := by obtain ⟨m, hm⟩ := k1; exact DataW.trod_lt m _ _ _ hm
 obtain ⟨x1, F1, hs1⟩ := OpensT.vl opensConjunction h1
 clear hA0 hval0
 refine ((lawFnExactEvaluateConjunction x0 x1).2 W _ _ hgood ⟨_, _, _, _, rfl, (show V0r false W (.agg (cGraph x0)) _ _ from ⟨cs0.toList, by simp, hs0⟩), ⟨_, _, _, _, rfl, (show V0r false W (.agg (cConjunction x1)) _ _ from ⟨cs1.toList, by simp, hs1⟩), ⟨rfl, rfl⟩, rfl⟩, rfl⟩).mono fun e W' ⟨v, F, he, hv, _, _, bel⟩ => ?_
 have hv2 : v = .bool true := by unfold Vr V0r C at hv; exact hv.1
 subst hv2
 subst he
 exact ⟨_, rfl, _, _, _, [], _, [], hW', trodAll_mk1 (shut_bool Tryz.underlying4 _), (trodAll_cons_mk (Below.trod laidOutFnExactEvaluateConjunction (by kernel_rfl) (of_decide_eq_true (by kernel_rfl)) k0 bel lt0) (trodAll_cons_mk (Below.trod laidOutFnExactEvaluateConjunction (by kernel_rfl) (of_decide_eq_true (by kernel_rfl)) k1 bel lt1) trodAll_mk0)), rfl, Below.frame bel _, fun h => by cases h⟩
theorem jfa : (Rows.fnExactEvaluateConjunctionRow.inPlace == Tryz.prog.inPlace 6) = true := by kernel_rfl
theorem jfb : (Rows.fnExactEvaluateConjunctionRow.unfollowed == Tryz.prog.unfollowed 6) = true := by kernel_rfl
theorem jfc : (Rows.fnExactEvaluateConjunctionRow.recurses == Tryz.prog.recurses 6) = true := by kernel_rfl
theorem jfd : (Rows.fnExactEvaluateConjunctionRow.named == Tryz.prog.varsNamed 6) = true := by kernel_rfl
theorem jfe : mapsRowed Tryz.prog = true := by kernel_rfl
theorem jff : joinedFacts Tryz.prog 6 Tryz.f6 Rows.fnExactEvaluateConjunctionSpec Rows.fnExactEvaluateConjunctionRow = true := by
 unfold joinedFacts
 rw [laidOutFnExactEvaluateConjunction, jfa, jfb, jfc, jfd, jfe]
 kernel_rfl
set_option maxRecDepth 100000 in
theorem provedFnExactEvaluateConjunction : Rows.FnExactEvaluateConjunctionSaid :=
 OpenClaim.holds_of_wide 6 Tryz.f6 rfl rfl rfl rfl rfl rfl rfl ⟨rfl, rfl, rfl, rfl, rfl⟩ rfl rfl rfl rfl rfl (by kernel_rfl) Tryz.func6 jff
  (of_decide_eq_true (by kernel_rfl)) (by unfold Func.isWrapper; first | (rw [if_pos (by decide +kernel)]; kernel_rfl) | (rw [if_neg (by decide +kernel)]; exact ⟨rfl, rfl⟩))
  (fun os started H enc _ => liftedFnExactEvaluateConjunction os started H enc)
#print axioms provedFnExactEvaluateConjunction
end LFnExactEvaluateConjunction
end Go.Proofs.YtoealglkenhphaaGreat
