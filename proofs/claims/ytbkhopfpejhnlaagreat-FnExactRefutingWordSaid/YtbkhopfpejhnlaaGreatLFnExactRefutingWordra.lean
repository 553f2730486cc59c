import Derived.Test.YtbkhopfpejhnlaaGreatRows
import Derived.Test.YtbkhopfpejhnlaaGreatHAra
import Derived.Test.YtbkhopfpejhnlaaGreatHMra
import Derived.Test.YtbkhopfpejhnlaaGreatOpenTra
import Derived.Test.YtbkhopfpejhnlaaGreatB124ra
set_option linter.unusedVariables false
set_option linter.unusedSimpArgs false
namespace Go.Proofs.YtbkhopfpejhnlaaGreat
open Go.RowKit Go.Q Go.D Go.ChangeShapes Go.WideShapes Go.ChangeAt Go.Deep
open Go.ChangeMaps (open_string shut_string)
set_option maxRecDepth 100000 in
set_option maxHeartbeats 1000000 in
theorem lawFnExactRefutingWord (aA : TExpr) (aB : TExpr) (aLength : Int) : FnT Tryz.prog 5 [.agg (cExpr aA), .agg (cExpr aB), .one (.v (.int .i64 aLength))] (.a (.one (.v (.bool true)))) := by
 refine FnT.walk Tryz.func5 rfl (by kernel_rfl) Tryz.ntmps5 rfl fun hlen w0 => ?_
 try simp [cPair, cToken, cExpr, cEdge, cGraph, cStep, cWalk, cChange, cBatch, cHistory, cPositions, cAutomaton, cProductStep, cPathAtom, cConjunction, cView, cDelta, cRegistered, cRegistry] at hlen
 clear hlen
 refine AW.sr ?_
 refine AWl.put (R_boxz rfl rfl rfl (.tm rfl) (ts := _) (by rfl)) rfl ?_
 refine AWl.put (R_boxz rfl rfl rfl (.tm rfl) (ts := _) (by rfl)) rfl ?_
 refine AWl.ac rfl rfl rfl rfl rfl ?_
 refine AWl.nil (AW.sr ?_)
 refine AWl.ac rfl rfl rfl rfl rfl ?_
 refine AWl.nil (AW.sr ?_)
 refine AWl.put (by exact R_load rfl (.no rfl) rfl (.tm rfl) ty46 rfl rfl) rfl ?_
 refine AWl.mv rfl rfl rfl rfl rfl ?_
 refine AWl.put (R_callz (FnT.fr (HszExpr _ _ (by omega))) rfl (.no rfl) rfl (.cons (.tm rfl) rfl (.cons (.tm rfl) rfl .nil))) rfl ?_
 refine AWl.av rfl rfl rfl rfl rfl ?_
 refine AWl.nil (AW.seq ?_)
 refine AW.sr ?_
 refine AWl.mv rfl rfl rfl rfl rfl ?_
 refine AWl.put (R_lt rfl (.no rfl) rfl (.tm rfl) (.const rfl)) rfl ?_
 refine AWl.nil ?_
 refine AW.cond (.tm rfl) (fun h23 => ?_) (fun h23 => ?_)
 · skip
   try simp at h23
   refine AW.sr ?_
   refine AWl.ac rfl rfl rfl rfl rfl ?_
   refine AWl.nil (AW.ret ?_)
   refine Res.v rfl rfl ?_
   rfl
 · skip
   try simp at h23
   have hb0 := szExpr_ok aA 1048576 (by omega) (by omega)
   have hz0 := hb0.2 (by omega)
   refine AW.skip ?_
   refine AW.sr ?_
   refine AWl.put (by exact R_load rfl (.no rfl) rfl (.tm rfl) ty46 rfl rfl) rfl ?_
   refine AWl.mv rfl rfl rfl rfl rfl ?_
   refine AWl.put (R_callz (FnT.fr (HszExpr _ _ (by omega))) rfl (.no rfl) rfl (.cons (.tm rfl) rfl (.cons (.tm rfl) rfl .nil))) rfl ?_
   refine AWl.av rfl rfl rfl rfl rfl ?_
   refine AWl.nil (AW.seq ?_)
   refine AW.sr ?_
   refine AWl.mv rfl rfl rfl rfl rfl ?_
   refine AWl.put (R_lt rfl (.no rfl) rfl (.tm rfl) (.const rfl)) rfl ?_
   refine AWl.nil ?_
   refine AW.cond (.tm rfl) (fun h28 => ?_) (fun h28 => ?_)
   · skip
     try simp at h28
     refine AW.sr ?_
     refine AWl.ac rfl rfl rfl rfl rfl ?_
     refine AWl.nil (AW.ret ?_)
     refine Res.v rfl rfl ?_
     rfl
   · skip
     try simp at h28
     have hb1 := szExpr_ok aB (szExpr aA 1048576) (by omega) (by omega)
     have hz1 := hb1.2 (by omega)
     have hcn0 := cpExpr_nn aA
     have hco0 := cpExpr_ok (by exact (hz0 : okExpr aA))
     have hcn1 := cpExpr_nn aB
     have hco1 := cpExpr_ok (by exact (hz1 : okExpr aB))
     have hbd0 := refW_cnt aA aB aLength
     have hbd1 := cntIntS_nn (refW aA aB aLength).1
     refine AW.skip ?_
     refine AW.seq ?_
     refine AW.drawn 11 (nthB [[], [0], [], [0, 1, 2], [], [0, 1, 2, 3, 4], [0, 1, 2, 3, 4, 5], [0, 1, 2, 3, 4, 5, 6], [0, 1, 2, 3, 4, 5, 6], [0, 1, 2, 3, 4, 5, 6, 7], [0, 1, 2, 3, 4, 5, 6, 7, 8, 9]]) (by kernel_rfl) (by kernel_rfl) (by kernel_rfl) ?_
     refine DrawC.step rfl rfl rfl (Loc.of rfl fun σ' hs => (by exact R_load rfl (.no rfl) (hd_sup hs rfl) (.tm (hs.slots _ _ rfl)) ty46 rfl rfl)) ?_
     refine DrawC.step rfl rfl rfl (Loc.ofs rfl fun σ' hs hf => R_call 3100 (HtoExpr _ (by exact hz0)) rfl rfl (hd_sup hs rfl) (.cons (.tm (hs.slots _ _ rfl)) (readA_sup hs rfl) .nil) rfl (all_fresh hf)) ?_
     refine DrawC.step rfl rfl rfl (Loc.of rfl fun σ' hs => (by exact R_load rfl (.no rfl) (hd_sup hs rfl) (.tm (hs.slots _ _ rfl)) ty46 rfl rfl)) ?_
     refine DrawC.step rfl rfl rfl (Loc.ofs rfl fun σ' hs hf => R_call 3300 (HtoExpr _ (by exact hz1)) rfl rfl (hd_sup hs rfl) (.cons (.tm (hs.slots _ _ rfl)) (readA_sup hs rfl) .nil) rfl (all_fresh hf)) ?_
     refine DrawC.step rfl rfl rfl (Loc.of rfl fun σ' hs => R_move rfl (.no rfl) (hd_sup hs rfl) (.tm (hs.slots _ _ rfl))) ?_
     refine DrawC.step rfl rfl rfl (Loc.of rfl fun σ' hs => R_callz (FnT.fr (specRefutingWord _ _ _)) rfl (.no rfl) (hd_sup hs rfl) (.cons (.tm (hs.slots _ _ rfl)) (readA_sup hs rfl) (.cons (.tm (hs.slots _ _ rfl)) (readA_sup hs rfl) (.cons (.tm (hs.slots _ _ rfl)) (readA_sup hs rfl) .nil)))) ?_
     refine DrawC.step rfl rfl rfl (Loc.of rfl fun σ' hs => R_movet rfl (.no rfl) (hd_sup hs rfl) (hs.slots _ _ rfl) fun _ => rfl) ?_
     refine DrawC.step rfl rfl rfl (Loc.of rfl fun σ' hs => R_extract rfl (.no rfl) (hd_sup hs rfl) (hs.slots _ _ rfl) (fun _ => rfl) rfl) ?_
     refine DrawC.step rfl rfl rfl (Loc.of rfl fun σ' hs => R_extract rfl (.no rfl) (hd_sup hs rfl) (hs.slots _ _ rfl) (fun _ => rfl) rfl) ?_
     refine DrawC.step rfl rfl rfl (Loc.of rfl fun σ' hs => R_assign rfl (.no rfl) (hd_sup hs rfl) (.tm (hs.slots _ _ rfl))) ?_
     refine DrawC.step rfl rfl rfl (Loc.of rfl fun σ' hs => R_assign rfl (.no rfl) (hd_sup hs rfl) (.tm (hs.slots _ _ rfl))) ?_
     refine DrawC.fin rfl rfl ?_
     refine AWl.nil (AW.sr ?_)
     refine AWl.put (by exact R_load rfl (.no rfl) rfl (.tm rfl) ty46 rfl rfl) rfl ?_
     refine AWl.adds (R_call 3900 (HtoExpr _ (by exact hz0)) rfl rfl rfl (.cons (.tm rfl) rfl .nil) rfl rfl) rfl ?_
     refine AWl.add (R_alloc 10 rfl rfl rfl in30 rfl rfl rfl) rfl ?_
     refine AWl.chgb (R_store_pb rfl rfl rfl (.tm rfl) (.tm rfl) rfl ty30 rfl rfl rfl (by kernel_rfl) rfl) ?_
     refine AWl.nil (AW.sr ?_)
     refine AWl.put (by exact R_load rfl (.no rfl) rfl (.tm rfl) ty46 rfl rfl) rfl ?_
     refine AWl.adds (R_call 4100 (HtoExpr _ (by exact hz1)) rfl rfl rfl (.cons (.tm rfl) rfl .nil) rfl rfl) rfl ?_
     refine AWl.add (R_alloc 11 rfl rfl rfl in30 rfl rfl rfl) rfl ?_
     refine AWl.chgb (R_store_pb rfl rfl rfl (.tm rfl) (.tm rfl) rfl ty30 rfl rfl rfl (by kernel_rfl) rfl) ?_
     refine AWl.nil (AW.sr ?_)
     refine AWl.put (by exact R_load_pp rfl (.no rfl) rfl (.tm rfl) rfl ty30 rfl rfl) rfl ?_
     refine AWl.put (by exact R_load_pp rfl (.no rfl) rfl (.tm rfl) rfl ty30 rfl rfl) rfl ?_
     refine AWl.mv rfl rfl rfl rfl rfl ?_
     refine AWl.adds (R_call 4600 (implRefutingWord _ _ _) rfl rfl rfl (.cons (.tm rfl) rfl (.cons (.tm rfl) rfl (.cons (.tm rfl) rfl .nil))) rfl rfl) rfl ?_
     refine AWl.put (R_movet rfl (.no rfl) rfl rfl fun _ => rfl) rfl ?_
     refine AWl.put (R_extract rfl (.no rfl) rfl rfl (fun _ => rfl) rfl) rfl ?_
     refine AWl.put (R_extract rfl (.no rfl) rfl rfl (fun _ => rfl) rfl) rfl ?_
     refine AWl.av rfl rfl rfl rfl rfl ?_
     refine AWl.av rfl rfl rfl rfl rfl ?_
     refine AWl.nil (AW.seq ?_)
     refine AW.sr ?_
     refine AWl.mv rfl rfl rfl rfl rfl ?_
     refine AWl.mv rfl rfl rfl rfl rfl ?_
     refine AWl.put (R_callz (FnT.fr (HeqIntS _)) rfl (.no rfl) rfl (.cons (.tm rfl) rfl (.cons (.tm rfl) rfl .nil))) rfl ?_
     refine AWl.put (R_not rfl (.no rfl) rfl (.tm rfl)) rfl ?_
     refine AWl.mv rfl rfl rfl rfl rfl ?_
     refine AWl.put (R_move rfl (by exact .not1 rfl rfl rfl rfl) rfl (.tmp rfl (by exact fun _ => rfl))) rfl ?_
     refine AWl.put (R_move rfl (by exact .not1 rfl rfl rfl rfl) rfl (.tmp rfl (by exact fun _ => rfl))) rfl ?_
     refine AWl.put (R_neb rfl (by exact .not1 rfl rfl rfl rfl) rfl (.tmp rfl (by exact fun _ => rfl)) (.tmp rfl (by exact fun _ => rfl)) Tryz.underlying4) rfl ?_
     refine AWl.put (R_or rfl (.no rfl) rfl (.tm rfl) (.tmp rfl (by exact fun _ => rfl))) rfl ?_
     refine AWl.nil ?_
     refine AW.cond (.tm rfl) (fun h57 => ?_) (fun h57 => ?_)
     · (exfalso; revert h57; simp; try omega)
     · skip
       try simp at h57
       refine AW.skip ?_
       refine AW.seq ?_
       refine AW.seq ?_
       refine AW.drawn 5 (nthB [[], [], [1], [0, 1, 2], [0, 1, 2, 3]]) (by kernel_rfl) (by kernel_rfl) (by kernel_rfl) ?_
       refine DrawC.step rfl rfl rfl (Loc.of rfl fun σ' hs => (by exact R_load_pp rfl (.no rfl) (hd_sup hs rfl) (.tm (hs.slots _ _ rfl)) (hs.res _ _ rfl) ty30 rfl rfl)) ?_
       refine DrawC.step rfl rfl rfl (Loc.of rfl fun σ' hs => (by exact R_load rfl (.no rfl) (hd_sup hs rfl) (.tm (hs.slots _ _ rfl)) ty46 rfl rfl)) ?_
       refine DrawC.step rfl rfl rfl (Loc.ofs rfl fun σ' hs hf => R_call 6000 (HtoExpr _ (by exact hz0)) rfl rfl (hd_sup hs rfl) (.cons (.tm (hs.slots _ _ rfl)) (readA_sup hs rfl) .nil) rfl (all_fresh hf)) ?_
       refine DrawC.step rfl rfl rfl (Loc.of rfl fun σ' hs => R_callz (FnT.fr (HeqExpr _)) rfl (.no rfl) (hd_sup hs rfl) (.cons (.tm (hs.slots _ _ rfl)) (readA_sup hs rfl) (.cons (.tm (hs.slots _ _ rfl)) (readA_sup hs rfl) .nil))) ?_
       refine DrawC.step rfl rfl rfl (Loc.of rfl fun σ' hs => R_not rfl (.no rfl) (hd_sup hs rfl) (.tm (hs.slots _ _ rfl))) ?_
       refine DrawC.fin rfl rfl ?_
       refine AWl.nil ?_
       refine AW.cond (.tm rfl) (fun h62 => ?_) (fun h62 => ?_)
       · (exfalso; revert h62; simp; try omega)
       · skip
         try simp at h62
         refine AW.skip ?_
         refine AW.seq ?_
         refine AW.seq ?_
         refine AW.drawn 5 (nthB [[], [], [1], [0, 1, 2], [0, 1, 2, 3]]) (by kernel_rfl) (by kernel_rfl) (by kernel_rfl) ?_
         refine DrawC.step rfl rfl rfl (Loc.of rfl fun σ' hs => (by exact R_load_pp rfl (.no rfl) (hd_sup hs rfl) (.tm (hs.slots _ _ rfl)) (hs.res _ _ rfl) ty30 rfl rfl)) ?_
         refine DrawC.step rfl rfl rfl (Loc.of rfl fun σ' hs => (by exact R_load rfl (.no rfl) (hd_sup hs rfl) (.tm (hs.slots _ _ rfl)) ty46 rfl rfl)) ?_
         refine DrawC.step rfl rfl rfl (Loc.ofs rfl fun σ' hs hf => R_call 6500 (HtoExpr _ (by exact hz1)) rfl rfl (hd_sup hs rfl) (.cons (.tm (hs.slots _ _ rfl)) (readA_sup hs rfl) .nil) rfl (all_fresh hf)) ?_
         refine DrawC.step rfl rfl rfl (Loc.of rfl fun σ' hs => R_callz (FnT.fr (HeqExpr _)) rfl (.no rfl) (hd_sup hs rfl) (.cons (.tm (hs.slots _ _ rfl)) (readA_sup hs rfl) (.cons (.tm (hs.slots _ _ rfl)) (readA_sup hs rfl) .nil))) ?_
         refine DrawC.step rfl rfl rfl (Loc.of rfl fun σ' hs => R_not rfl (.no rfl) (hd_sup hs rfl) (.tm (hs.slots _ _ rfl))) ?_
         refine DrawC.fin rfl rfl ?_
         refine AWl.nil ?_
         refine AW.cond (.tm rfl) (fun h67 => ?_) (fun h67 => ?_)
         · (exfalso; revert h67; simp; try omega)
         · skip
           try simp at h67
           refine AW.skip ?_
           refine AW.sr ?_
           refine AWl.ac rfl rfl rfl rfl rfl ?_
           refine AWl.nil (AW.sr ?_)
           refine AWl.put (by exact R_load_pp rfl (.no rfl) rfl (.tm rfl) rfl ty30 rfl rfl) rfl ?_
           refine AWl.mv rfl rfl rfl rfl rfl ?_
           refine AWl.marks (R_markc rfl rfl rfl (.tm rfl) (.tm rfl) (MmarkExpr _ _ (by omega)) (.rf rfl rfl .nil) rfl rfl) rfl ?_
           refine AWl.av rfl rfl rfl rfl rfl ?_
           refine AWl.nil (AW.sr ?_)
           refine AWl.put (by exact R_load_pp rfl (.no rfl) rfl (.tm rfl) rfl ty30 rfl rfl) rfl ?_
           refine AWl.mv rfl rfl rfl rfl rfl ?_
           refine AWl.marks (R_markc rfl rfl rfl (.tm rfl) (.tm rfl) (MmarkExpr _ _ (by omega)) (.rf rfl rfl .nil) rfl rfl) rfl ?_
           refine AWl.av rfl rfl rfl rfl rfl ?_
           refine AWl.nil (AW.seq ?_)
           refine AW.sr ?_
           refine AWl.mv rfl rfl rfl rfl rfl ?_
           refine AWl.put (R_lt rfl (.no rfl) rfl (.tm rfl) (.const rfl)) rfl ?_
           refine AWl.mv rfl rfl rfl rfl rfl ?_
           refine AWl.put (R_move rfl (by exact .not1 rfl rfl rfl rfl) rfl (.tmp rfl (by exact fun _ => rfl))) rfl ?_
           refine AWl.put (R_move rfl (by exact .not1 rfl rfl rfl rfl) rfl (.tmp rfl (by exact fun _ => rfl))) rfl ?_
           refine AWl.put (R_callz (FnT.fr (HeqIntS _)) rfl (by exact .not1 rfl rfl rfl rfl) rfl (.cons (.tmp rfl (by exact id)) rfl (.cons (.tmp rfl (by exact id)) rfl .nil))) rfl ?_
           refine AWl.put (R_not rfl (by exact .not1 rfl rfl rfl rfl) rfl (.tmp rfl (by exact id))) rfl ?_
           refine AWl.put (R_or rfl (.no rfl) rfl (.tm rfl) (.tmp rfl (by exact id))) rfl ?_
           refine AWl.mv rfl rfl rfl rfl rfl ?_
           refine AWl.put (R_move rfl (by exact .not1 rfl rfl rfl rfl) rfl (.tmp rfl (by exact fun _ => rfl))) rfl ?_
           refine AWl.put (R_move rfl (by exact .not1 rfl rfl rfl rfl) rfl (.tmp rfl (by exact fun _ => rfl))) rfl ?_
           refine AWl.put (R_neb rfl (by exact .not1 rfl rfl rfl rfl) rfl (.tmp rfl (by exact id)) (.tmp rfl (by exact id)) Tryz.underlying4) rfl ?_
           refine AWl.put (R_or rfl (.no rfl) rfl (.tm rfl) (.tmp rfl (by exact id))) rfl ?_
           refine AWl.nil ?_
           refine AW.cond (.tm rfl) (fun h86 => ?_) (fun h86 => ?_)
           · (exfalso; revert h86; simp; try omega)
           · skip
             try simp at h86
             refine AW.skip ?_
             refine AW.sr ?_
             refine AWl.ac rfl rfl rfl rfl rfl ?_
             refine AWl.nil (AW.sr ?_)
             refine AWl.mv rfl rfl rfl rfl rfl ?_
             refine AWl.mv rfl rfl rfl rfl rfl ?_
             refine AWl.marks (R_markc rfl rfl rfl (.tm rfl) (.tm rfl) (MmarkIntS _ _ (by omega)) (.rf rfl rfl .nil) rfl rfl) rfl ?_
             refine AWl.av rfl rfl rfl rfl rfl ?_
             refine AWl.nil (AW.sr ?_)
             refine AWl.ac rfl rfl rfl rfl rfl ?_
             refine AWl.nil (AW.sr ?_)
             refine AWl.mv rfl rfl rfl rfl rfl ?_
             refine AWl.mv rfl rfl rfl rfl rfl ?_
             refine AWl.put (R_callz (FnT.fr (MheldIntS _ _ (by omega))) rfl (.no rfl) rfl (.cons (.tm rfl) rfl (.cons (.tm rfl) rfl .nil))) rfl ?_
             refine AWl.av rfl rfl rfl rfl rfl ?_
             refine AWl.nil (AW.seq ?_)
             refine AW.sr ?_
             refine AWl.mv rfl rfl rfl rfl rfl ?_
             refine AWl.put (R_lt rfl (.no rfl) rfl (.tm rfl) (.const rfl)) rfl ?_
             refine AWl.nil ?_
             refine AW.cond (.tm rfl) (fun h94 => ?_) (fun h94 => ?_)
             · (exfalso; revert h94; simp; try omega)
             · skip
               try simp at h94
               refine AW.skip ?_
               refine AW.seq ?_
               refine AW.sr ?_
               refine AWl.mv rfl rfl rfl rfl rfl ?_
               refine AWl.mv rfl rfl rfl rfl rfl ?_
               refine AWl.put (R_ne rfl (.no rfl) rfl (.tm rfl) (.tm rfl)) rfl ?_
               refine AWl.nil ?_
               refine AW.cond (.tm rfl) (fun h97 => ?_) (fun h97 => ?_)
               · (exfalso; revert h97; simp; try omega)
               · skip
                 try simp at h97
                 refine AW.skip ?_
                 refine AW.seq ?_
                 refine AW.drawn 11 (nthB [[], [0], [], [0, 1, 2], [], [0, 1, 2, 3, 4], [0, 1, 2, 3, 4, 5], [0, 1, 2, 3, 4, 5, 6], [0, 1, 2, 3, 4, 5, 6], [0, 1, 2, 3, 4, 5, 6, 7], [0, 1, 2, 3, 4, 5, 6, 7, 8, 9]]) (by kernel_rfl) (by kernel_rfl) (by kernel_rfl) ?_
                 refine DrawC.step rfl rfl rfl (Loc.of rfl fun σ' hs => (by exact R_load rfl (.no rfl) (hd_sup hs rfl) (.tm (hs.slots _ _ rfl)) ty46 rfl rfl)) ?_
                 refine DrawC.step rfl rfl rfl (Loc.ofs rfl fun σ' hs hf => R_call 10000 (HtoExpr _ (by exact hz0)) rfl rfl (hd_sup hs rfl) (.cons (.tm (hs.slots _ _ rfl)) (readA_sup hs rfl) .nil) rfl (all_fresh hf)) ?_
                 refine DrawC.step rfl rfl rfl (Loc.of rfl fun σ' hs => (by exact R_load rfl (.no rfl) (hd_sup hs rfl) (.tm (hs.slots _ _ rfl)) ty46 rfl rfl)) ?_
                 refine DrawC.step rfl rfl rfl (Loc.ofs rfl fun σ' hs hf => R_call 10200 (HtoExpr _ (by exact hz1)) rfl rfl (hd_sup hs rfl) (.cons (.tm (hs.slots _ _ rfl)) (readA_sup hs rfl) .nil) rfl (all_fresh hf)) ?_
                 refine DrawC.step rfl rfl rfl (Loc.of rfl fun σ' hs => R_move rfl (.no rfl) (hd_sup hs rfl) (.tm (hs.slots _ _ rfl))) ?_
                 refine DrawC.step rfl rfl rfl (Loc.ofs rfl fun σ' hs hf => R_call 10400 (implRefutingWord _ _ _) rfl rfl (hd_sup hs rfl) (.cons (.tm (hs.slots _ _ rfl)) (readA_sup hs rfl) (.cons (.tm (hs.slots _ _ rfl)) (readA_sup hs rfl) (.cons (.tm (hs.slots _ _ rfl)) (readA_sup hs rfl) .nil))) rfl (all_fresh hf)) ?_
                 refine DrawC.step rfl rfl rfl (Loc.of rfl fun σ' hs => R_movet rfl (.no rfl) (hd_sup hs rfl) (hs.slots _ _ rfl) fun _ => rfl) ?_
                 refine DrawC.step rfl rfl rfl (Loc.of rfl fun σ' hs => R_extract rfl (.no rfl) (hd_sup hs rfl) (hs.slots _ _ rfl) (fun _ => rfl) rfl) ?_
                 refine DrawC.step rfl rfl rfl (Loc.of rfl fun σ' hs => R_extract rfl (.no rfl) (hd_sup hs rfl) (hs.slots _ _ rfl) (fun _ => rfl) rfl) ?_
                 refine DrawC.step rfl rfl rfl (Loc.of rfl fun σ' hs => R_assign rfl (.no rfl) (hd_sup hs rfl) (.tm (hs.slots _ _ rfl))) ?_
                 refine DrawC.step rfl rfl rfl (Loc.of rfl fun σ' hs => R_assign rfl (.no rfl) (hd_sup hs rfl) (.tm (hs.slots _ _ rfl))) ?_
                 refine DrawC.fin rfl rfl ?_
                 refine AWl.nil (AW.seq ?_)
                 refine AW.sr ?_
                 refine AWl.mv rfl rfl rfl rfl rfl ?_
                 refine AWl.mv rfl rfl rfl rfl rfl ?_
                 refine AWl.put (R_callz (FnT.fr (HeqIntS _)) rfl (.no rfl) rfl (.cons (.tm rfl) rfl (.cons (.tm rfl) rfl .nil))) rfl ?_
                 refine AWl.put (R_not rfl (.no rfl) rfl (.tm rfl)) rfl ?_
                 refine AWl.mv rfl rfl rfl rfl rfl ?_
                 refine AWl.put (R_move rfl (by exact .not1 rfl rfl rfl rfl) rfl (.tmp rfl (by exact fun _ => rfl))) rfl ?_
                 refine AWl.put (R_move rfl (by exact .not1 rfl rfl rfl rfl) rfl (.tmp rfl (by exact fun _ => rfl))) rfl ?_
                 refine AWl.put (R_neb rfl (by exact .not1 rfl rfl rfl rfl) rfl (.tmp rfl (by exact fun _ => rfl)) (.tmp rfl (by exact fun _ => rfl)) Tryz.underlying4) rfl ?_
                 refine AWl.put (R_or rfl (.no rfl) rfl (.tm rfl) (.tmp rfl (by exact fun _ => rfl))) rfl ?_
                 refine AWl.nil ?_
                 refine AW.cond (.tm rfl) (fun h115 => ?_) (fun h115 => ?_)
                 · (exfalso; revert h115; simp; try omega)
                 · skip
                   try simp at h115
                   refine AW.skip ?_
                   refine AW.sr ?_
                   refine AWl.ac rfl rfl rfl rfl rfl ?_
                   refine AWl.nil (AW.sr ?_)
                   refine AWl.mv rfl rfl rfl rfl rfl ?_
                   refine AWl.mv rfl rfl rfl rfl rfl ?_
                   refine AWl.put (R_callz (FnT.fr (MheldIntS _ _ (by omega))) rfl (.no rfl) rfl (.cons (.tm rfl) rfl (.cons (.tm rfl) rfl .nil))) rfl ?_
                   refine AWl.av rfl rfl rfl rfl rfl ?_
                   refine AWl.nil (AW.seq ?_)
                   refine AW.sr ?_
                   refine AWl.mv rfl rfl rfl rfl rfl ?_
                   refine AWl.put (R_lt rfl (.no rfl) rfl (.tm rfl) (.const rfl)) rfl ?_
                   refine AWl.nil ?_
                   refine AW.cond (.tm rfl) (fun h120 => ?_) (fun h120 => ?_)
                   · (exfalso; revert h120; simp; try omega)
                   · skip
                     try simp at h120
                     refine AW.skip ?_
                     refine AW.seq ?_
                     refine AW.sr ?_
                     refine AWl.mv rfl rfl rfl rfl rfl ?_
                     refine AWl.mv rfl rfl rfl rfl rfl ?_
                     refine AWl.put (R_ne rfl (.no rfl) rfl (.tm rfl) (.tm rfl)) rfl ?_
                     refine AWl.nil ?_
                     refine AW.cond (.tm rfl) (fun h123 => ?_) (fun h123 => ?_)
                     · (exfalso; revert h123; simp; try omega)
                     · skip
                       try simp at h123
                       refine AW.skip ?_
                       refine AW.sr ?_
                       refine AWl.ac rfl rfl rfl rfl rfl ?_
                       refine AWl.nil (AW.ret ?_)
                       refine Res.v rfl rfl ?_
                       rfl
namespace LFnExactRefutingWord
theorem opensInt : OpensT cInt Tryz.prog 3 := opensTInt Tryz.underlying3
set_option maxRecDepth 100000 in
theorem opensToken : OpensT cToken Tryz.prog 114 := by
 intro H enc w base spare held fuel cs x h
 obtain ⟨xs, n, _, _, hlen, hxl, hf⟩ := DataW.trod_struct Tryz.underlying114 h
 rw [show Tryz.prog.cellsOf 114 = 4 from by kernel_rfl] at hlen
 have kInt : Tryz.prog.cellsOf 3 = 1 := by kernel_rfl
 match cs, hlen, xs, hxl with
 | [c0, c1, c2, c3], _, [y0, y1, y2, y3], _ =>
  have g0 : DataW.trod enc Tryz.prog w base spare held n 3 [c0] = some y0 := by simpa [kInt] using hf 0 _ rfl
  obtain ⟨x0, F0, e0⟩ := opensInt g0
  have g1 : DataW.trod enc Tryz.prog w base spare held n 3 [c1] = some y1 := by simpa [kInt] using hf 1 _ rfl
  obtain ⟨x1, F1, e1⟩ := opensInt g1
  have g2 : DataW.trod enc Tryz.prog w base spare held n 3 [c2] = some y2 := by simpa [kInt] using hf 2 _ rfl
  obtain ⟨x2, F2, e2⟩ := opensInt g2
  have g3 : DataW.trod enc Tryz.prog w base spare held n 3 [c3] = some y3 := by simpa [kInt] using hf 3 _ rfl
  obtain ⟨x3, F3, e3⟩ := opensInt g3
  exact ⟨⟨x0, x1, x2, x3⟩, _, (e0.append (e1.append (e2.append e3)))⟩
theorem opensTokenS : OpensT cTokenS Tryz.prog 44 := opensTSlice (c := cToken) Tryz.underlying44 (by kernel_rfl) (by decide) (fun _ => rfl) opensToken
set_option maxRecDepth 100000 in
theorem opensExpr : OpensT cExpr Tryz.prog 46 := by
 intro H enc w base spare held fuel cs x h
 obtain ⟨xs, n, _, _, hlen, hxl, hf⟩ := DataW.trod_struct Tryz.underlying46 h
 rw [show Tryz.prog.cellsOf 46 = 1 from by kernel_rfl] at hlen
 have kTokenS : Tryz.prog.cellsOf 44 = 1 := by kernel_rfl
 match cs, hlen, xs, hxl with
 | [c0], _, [y0], _ =>
  have g0 : DataW.trod enc Tryz.prog w base spare held n 44 [c0] = some y0 := by simpa [kTokenS] using hf 0 _ rfl
  obtain ⟨x0, F0, e0⟩ := opensTokenS g0
  exact ⟨⟨x0⟩, _, e0⟩
theorem ownFnExactRefutingWord : ownKnob Tryz.prog.godebug = none := by kernel_rfl
theorem laidOutFnExactRefutingWord : laidOutB Tryz.prog = true := by kernel_rfl
set_option maxRecDepth 100000 in
theorem liftedFnExactRefutingWord (os : Os) (started : os.Started) (H : Type) (enc : TypeId × Value → H) :
 ReturnsInHanded {} Tryz.checked os 5 .any (Rows.fnExactRefutingWordSpec.pre6 enc Tryz.prog Tryz.f5 Rows.fnExactRefutingWordRow.domain false) (Rows.fnExactRefutingWordSpec.post enc Tryz.prog Tryz.f5 false true false false) := by
 refine returnsInHanded_of_change_shaped (C := Tryz.checked) ownFnExactRefutingWord started (by kernel_rfl) Tryz.func5
  (ChangeSpec.witness6 (enc := enc) (C := Tryz.checked) false ⟨#[], #[.agg #[.slice none 0 0], .agg #[.slice none 0 0], .int .i64 0], []⟩ 8 (by kernel_rfl) (by kernel_rfl) (by kernel_rfl) (by kernel_rfl)) ?_
 intro W base args ds gs before hval0 hW hcnd _ hsh _
 have hgood : Go.Q.Good W [] := Go.Q.good_of ⟨hsh, trivial, trivial⟩
 have hval : ∀ (j : Nat) t v, Tryz.f5.params[j]? = some t → args[j]? = some v → Value.okWide Tryz.prog W .any base t v := hval0
 have hW' := hW
 obtain ⟨p, q, hA0, hV, rfl, hfz, hnd⟩ := hW
 have hA : DataW.TrodAll enc Tryz.prog W 0 (fun _ => true) true Tryz.f5.params.toList args.toList ds p := hA0
 rw [Tryz.params5] at hA hval
 obtain ⟨v0, vs0, d0, ds0, p0, q0, hargs, rfl, rfl, h0, r0⟩ := trodAll_cons hA
 obtain ⟨v1, vs1, d1, ds1, p1, q1, rfl, rfl, rfl, h1, r1⟩ := trodAll_cons r0
 obtain ⟨v2, vs2, d2, ds2, p2, q2, rfl, rfl, rfl, h2, r2⟩ := trodAll_cons r1
 obtain ⟨rfl, rfl, rfl⟩ := trodAll_nil r2
 obtain rfl : args = #[v0, v1, v2] := by cases args; simp_all
 obtain ⟨rfl, rfl⟩ := trodVars_none hV
 obtain ⟨cs0, rfl, _⟩ := okWide_struct Tryz.underlying46 (hval 0 46 v0 rfl rfl)
 have k0 := h0
 have lt0 : ∀ x ∈ p0, x.block < W.heap.size := by obtain ⟨m, hm⟩ := k0; exact DataW.trod_lt m _ _ _ hm
 obtain ⟨x0, F0, hs0⟩ := OpensT.vl opensExpr h0
 obtain ⟨cs1, rfl, _⟩ := okWide_struct Tryz.underlying46 (hval 1 46 v1 rfl rfl)
 have k1 := h1
 have lt1 : ∀ x ∈ p1, x.block < W.heap.size := by obtain ⟨m, hm⟩ := k1; exact DataW.trod_lt m _ _ _ hm
 obtain ⟨x1, F1, hs1⟩ := OpensT.vl opensExpr h1
 obtain ⟨x2, rfl, rfl, rfl, wf2⟩ := open_int Tryz.underlying3 (hval 2 3 v2 rfl rfl) h2
 clear hA0 hval0
 refine ((lawFnExactRefutingWord x0 x1 x2).2 W _ _ hgood ⟨_, _, _, _, rfl, (show V0r false W (.agg (cExpr x0)) _ _ from ⟨cs0.toList, by simp, hs0⟩), ⟨_, _, _, _, rfl, (show V0r false W (.agg (cExpr x1)) _ _ from ⟨cs1.toList, by simp, hs1⟩), ⟨_, _, _, _, rfl, (show V0r false W (.one (.v (.int .i64 x2))) _ [] by unfold V0r C; exact ⟨rfl, rfl, rfl⟩), ⟨rfl, rfl⟩, rfl⟩, rfl⟩, rfl⟩).mono fun e W' ⟨v, F, he, hv, _, _, bel⟩ => ?_
 have hv2 : v = .bool true := by unfold Vr V0r C at hv; exact hv.1
 subst hv2
 subst he
 exact ⟨_, rfl, _, _, _, [], _, [], hW', trodAll_mk1 (shut_bool Tryz.underlying4 _), (trodAll_cons_mk (Below.trod laidOutFnExactRefutingWord (by kernel_rfl) (of_decide_eq_true (by kernel_rfl)) k0 bel lt0) (trodAll_cons_mk (Below.trod laidOutFnExactRefutingWord (by kernel_rfl) (of_decide_eq_true (by kernel_rfl)) k1 bel lt1) (trodAll_cons_mk (shut_int Tryz.underlying3 wf2) trodAll_mk0))), rfl, Below.frame bel _, fun h => by cases h⟩
theorem jfa : (Rows.fnExactRefutingWordRow.inPlace == Tryz.prog.inPlace 5) = true := by kernel_rfl
theorem jfb : (Rows.fnExactRefutingWordRow.unfollowed == Tryz.prog.unfollowed 5) = true := by kernel_rfl
theorem jfc : (Rows.fnExactRefutingWordRow.recurses == Tryz.prog.recurses 5) = true := by kernel_rfl
theorem jfd : (Rows.fnExactRefutingWordRow.named == Tryz.prog.varsNamed 5) = true := by kernel_rfl
theorem jfe : mapsRowed Tryz.prog = true := by kernel_rfl
theorem jff : joinedFacts Tryz.prog 5 Tryz.f5 Rows.fnExactRefutingWordSpec Rows.fnExactRefutingWordRow = true := by
 unfold joinedFacts
 rw [laidOutFnExactRefutingWord, jfa, jfb, jfc, jfd, jfe]
 kernel_rfl
set_option maxRecDepth 100000 in
theorem provedFnExactRefutingWord : Rows.FnExactRefutingWordSaid :=
 OpenClaim.holds_of_wide 5 Tryz.f5 rfl rfl rfl rfl rfl rfl rfl ⟨rfl, rfl, rfl, rfl, rfl⟩ rfl rfl rfl rfl rfl (by kernel_rfl) Tryz.func5 jff
  (of_decide_eq_true (by kernel_rfl)) (by unfold Func.isWrapper; first | (rw [if_pos (by decide +kernel)]; kernel_rfl) | (rw [if_neg (by decide +kernel)]; exact ⟨rfl, rfl⟩))
  (fun os started H enc _ => liftedFnExactRefutingWord os started H enc)
#print axioms provedFnExactRefutingWord
end LFnExactRefutingWord
end Go.Proofs.YtbkhopfpejhnlaaGreat
