import Derived.Test.YtbkhopfpejhnlaaGreatDoorRows
import Derived.Test.YtbkhopfpejhnlaaGreatDoorTie
import Derived.Test.YtbkhopfpejhnlaaGreatDoorCards
import Derived.Test.YtbkhopfpejhnlaaGreatDoorOpenBda
import Derived.Test.YtbkhopfpejhnlaaGreatDoorB134da
import Derived.WalkKit
import Derived.Handy
import Derived.Lay
import Derived.SevenTiedAt
import Derived.MakeChecks
import Derived.Stop.LaidErr
set_option linter.unusedVariables false
set_option linter.unusedSimpArgs false
namespace Go.Proofs.YtbkhopfpejhnlaaGreatDoor
open Go.RowKit Go.Q Go.D Go.ChangeShapes Go.WideShapes Go.ChangeAt Go.Deep
open Go.ChangeMaps (open_string shut_string)
set_option maxRecDepth 100000 in
set_option maxHeartbeats 1000000 in
theorem lawFnDeltas (bs : List Int) (hb : ∀ n ∈ bs, 0 ≤ n ∧ n < 256) : FnT Tryz.prog 3 [.one (.sl 1 (byR bs))] (.a (.one (.v (.bool true)))) := by
 refine FnT.walk Tryz.func3 U (by kernel_rfl) Tryz.ntmps3 U fun hlen w0 => ?_
 try simp [cPair, cToken, cExpr, cEdge, cGraph, cStep, cWalk, cChange, cBatch, cHistory, cPositions, cAutomaton, cProductStep, cPathAtom, cConjunction, cView, cDelta, cRegistered, cRegistry] at hlen
 clear hlen
 refine AW.sr ?_
 refine AWl.ac U U U U U ?_
 refine AWl.nil (AW.seq ?_)
 refine AW.sr ?_
 refine AWl.mv U U U U U ?_
 refine AWl.put (R_callz (FnT.fr (lawsbig bs)) U (.no U) U (.cons (.tm U) U .nil)) U ?_
 refine AWl.nil ?_
 refine AW.cond (.tm U) (fun h28 => ?_) (fun h28 => ?_)
 · skip
   try simp at h28
   refine AW.sr ?_
   refine AWl.ac U U U U U ?_
   refine AWl.nil (AW.ret ?_)
   refine Res.v U U ?_
   rfl
 · skip
   try simp at h28
   refine AW.skip ?_
   refine AW.sr ?_
   refine AWl.mv U U U U U ?_
   refine AWl.opE (R_calleX ((specDrawDeltaBetween bs hb).fr) U U U (.cons (.tm U) U .nil)) ?_
   rintro _ ⟨z31, hz31, rfl⟩
   try dsimp only at hz31
   refine AWl.put (R_movet U (.no U) U U fun _ => rfl) U ?_
   refine AWl.put (R_extract U (.no U) U U (fun _ => rfl) U) U ?_
   refine AWl.put (R_extract U (.no U) U U (fun _ => rfl) U) U ?_
   refine AWl.av U U U U U ?_
   refine AWl.av U U U U U ?_
   refine AWl.nil (AW.sr ?_)
   refine AWl.mv U U U U U ?_
   refine AWl.mv U U U U U ?_
   refine AWl.put (R_callz (FnT.fr (implDeltaBetween z31.1 z31.2 (by omega) (by omega))) U (.no U) U (.cons (.tm U) U (.cons (.tm U) U .nil))) U ?_
   refine AWl.add (R_alloc 5 U U U in28 U U U) U ?_
   refine AWl.chgb (R_store_pb U U U (.tm U) (.tm U) U ty28 U U U (by kernel_rfl) U) ?_
   refine AWl.nil (AW.seq ?_)
   refine AW.seq ?_
   refine AW.drawn 6 (nthB [[], [], [], [1, 2], [0, 1, 2, 3], [0, 1, 2, 3, 4]]) (by kernel_rfl) (by kernel_rfl) (by kernel_rfl) ?_
   refine DrawC.step U U U (Loc.of U fun σ' hs => (by first | exact R_load U (.no U) (hd_sup hs U) (.tm (hs.slots _ _ U)) ty28 U U | exact R_load_pp U (.no U) (hd_sup hs U) (.tm (hs.slots _ _ U)) (hs.res _ _ U) ty28 U U | exact R_load_vw U (.no U) (hd_sup hs U) (.tm (hs.slots _ _ U)) ty28 U U | exact R_load_pr U (.no U) (hd_sup hs U) (.tm (hs.slots _ _ U)) (hs.res _ _ U) (by first | assumption | exact map_get (by assumption)) ty28 U U)) ?_
   refine DrawC.step U U U (Loc.of U fun σ' hs => R_move U (.no U) (hd_sup hs U) (.tm (hs.slots _ _ U))) ?_
   refine DrawC.step U U U (Loc.of U fun σ' hs => R_move U (.no U) (hd_sup hs U) (.tm (hs.slots _ _ U))) ?_
   refine DrawC.step U U U (Loc.of U fun σ' hs => R_callz (FnT.fr (specDeltaBetween z31.1 z31.2 (by omega) (by omega))) U (.no U) (hd_sup hs U) (.cons (.tm (hs.slots _ _ U)) (readA_sup hs U) (.cons (.tm (hs.slots _ _ U)) (readA_sup hs U) .nil))) ?_
   refine DrawC.step U U U (Loc.of U fun σ' hs => R_callz (FnT.fr (specEqualDeltas _ _)) U (.no U) (hd_sup hs U) (.cons (.tm (hs.slots _ _ U)) (readA_sup hs U) (.cons (.tm (hs.slots _ _ U)) (readA_sup hs U) .nil))) ?_
   refine DrawC.step U U U (Loc.of U fun σ' hs => R_not U (.no U) (hd_sup hs U) (.tm (hs.slots _ _ U))) ?_
   refine DrawC.fin U U ?_
   refine AWl.nil ?_
   refine AW.cond (.tm U) (fun h42 => ?_) (fun h42 => ?_)
   · exact absurd h42 (by simp)
   · skip
     try simp at h42
     refine AW.skip ?_
     refine AW.seq ?_
     refine AW.sr ?_
     refine AWl.mv U U U U U ?_
     refine AWl.put (R_callz (FnT.fr (specArePairs z31.1)) U (.no U) U (.cons (.tm U) U .nil)) U ?_
     refine AWl.mv U U U U U ?_
     refine AWl.put (R_move U (by first | exact .yes1 U U U U | exact .yes U U U U) U (.tmp U (by first | exact fun _ => rfl | exact id | simp))) U ?_
     refine AWl.put (R_callq U (by first | exact .yes1 U U U U | exact .yes U U U U) U (.cons (.tmp U (by first | exact fun _ => rfl | exact id | simp)) U .nil) fun hq => FnT.fr (specArePairs z31.2)) U ?_
     refine AWl.put (R_and U (.no U) U (.tm U) (.tmp U (by first | exact fun _ => rfl | exact id | simp))) U ?_
     refine AWl.nil ?_
     refine AW.cond (.tm U) (fun h48 => ?_) (fun h48 => ?_)
     · skip
       try simp at h48
       have hap : arePairs z31.1 = true ∧ arePairs z31.2 = true := (by simpa using h48)
       have e1 := delta_turns hap.1 hap.2
       have e2 := delta_turns hap.2 hap.1
       have e3 := delta_is hap.1 hap.2
       refine AW.sr ?_
       refine AWl.mv U U U U U ?_
       refine AWl.put ((by first | exact R_load U (.no U) U (.tm U) ty28 U U | exact R_load_pp U (.no U) U (.tm U) U ty28 U U | exact R_load_vw U (.no U) U (.tm U) ty28 U U | exact R_load_pr U (.no U) U (.tm U) U (by first | assumption | exact map_get (by assumption)) ty28 U U)) U ?_
       refine AWl.put (R_callz (FnT.fr (implApplyDelta z31.1 (deltaB z31.1 z31.2) (by omega) (Nat.le_trans (psub_len _ _) (by omega)) (Nat.le_trans (psub_len _ _) (by omega)))) U (.no U) U (.cons (.tm U) U (.cons (.tm U) U .nil))) U ?_
       refine AWl.put (R_movet U (.no U) U U fun _ => rfl) U ?_
       refine AWl.put (R_extract U (.no U) U U (fun _ => rfl) U) U ?_
       refine AWl.put (R_extract U (.no U) U U (fun _ => rfl) U) U ?_
       refine AWl.av U U U U U ?_
       refine AWl.av U U U U U ?_
       refine AWl.nil (AW.sr ?_)
       refine AWl.mv U U U U U ?_
       refine AWl.put ((by first | exact R_load U (.no U) U (.tm U) ty28 U U | exact R_load_pp U (.no U) U (.tm U) U ty28 U U | exact R_load_vw U (.no U) U (.tm U) ty28 U U | exact R_load_pr U (.no U) U (.tm U) U (by first | assumption | exact map_get (by assumption)) ty28 U U)) U ?_
       refine AWl.put (R_callz (FnT.fr (implInvertDelta (deltaB z31.1 z31.2) (Nat.le_trans (psub_len _ _) (by omega)) (Nat.le_trans (psub_len _ _) (by omega)))) U (.no U) U (.cons (.tm U) U .nil)) U ?_
       refine AWl.put (R_callz (FnT.fr (implApplyDelta z31.2 (deltaB z31.2 z31.1) (by omega) (Nat.le_trans (psub_len _ _) (by omega)) (Nat.le_trans (psub_len _ _) (by omega)))) U (.no U) U (.cons (.tm U) U (.cons (.tm U) U .nil))) U ?_
       refine AWl.put (R_movet U (.no U) U U fun _ => rfl) U ?_
       refine AWl.put (R_extract U (.no U) U U (fun _ => rfl) U) U ?_
       refine AWl.put (R_extract U (.no U) U U (fun _ => rfl) U) U ?_
       refine AWl.av U U U U U ?_
       refine AWl.av U U U U U ?_
       refine AWl.nil (AW.sr ?_)
       refine AWl.mv U U U U U ?_
       refine AWl.put (R_not U (.no U) U (.tm U)) U ?_
       refine AWl.mv U U U U U ?_
       refine AWl.put (R_move U (by first | exact .not1 U U U U | exact .not U U U U) U (.tmp U (by first | exact fun _ => rfl | exact id | simp))) U ?_
       refine AWl.put (R_not U (by first | exact .not1 U U U U | exact .not U U U U) U (.tmp U (by first | exact fun _ => rfl | exact id | simp))) U ?_
       refine AWl.put (R_or U (.no U) U (.tm U) (.tmp U (by first | exact fun _ => rfl | exact id | simp))) U ?_
       refine AWl.mv U U U U U ?_
       refine AWl.put (R_move U (by first | exact .not1 U U U U | exact .not U U U U) U (.tmp U (by first | exact fun _ => rfl | exact id | simp))) U ?_
       refine AWl.put (R_move U (by first | exact .not1 U U U U | exact .not U U U U) U (.tmp U (by first | exact fun _ => rfl | exact id | simp))) U ?_
       refine AWl.put (R_callq U (by first | exact .not1 U U U U | exact .not U U U U) U (.cons (.tmp U (by first | exact fun _ => rfl | exact id | simp)) U (.cons (.tmp U (by first | exact fun _ => rfl | exact id | simp)) U .nil)) fun hq => FnT.fr (specEqualPairs _ _)) U ?_
       refine AWl.put (R_not U (by first | exact .not1 U U U U | exact .not U U U U) U (.tmp U (by first | exact fun _ => rfl | exact id | simp))) U ?_
       refine AWl.put (R_or U (.no U) U (.tm U) (.tmp U (by first | exact fun _ => rfl | exact id | simp))) U ?_
       refine AWl.mv U U U U U ?_
       refine AWl.put (R_move U (by first | exact .not1 U U U U | exact .not U U U U) U (.tmp U (by first | exact fun _ => rfl | exact id | simp))) U ?_
       refine AWl.put (R_move U (by first | exact .not1 U U U U | exact .not U U U U) U (.tmp U (by first | exact fun _ => rfl | exact id | simp))) U ?_
       refine AWl.put (R_callq U (by first | exact .not1 U U U U | exact .not U U U U) U (.cons (.tmp U (by first | exact fun _ => rfl | exact id | simp)) U (.cons (.tmp U (by first | exact fun _ => rfl | exact id | simp)) U .nil)) fun hq => FnT.fr (specEqualPairs _ _)) U ?_
       refine AWl.put (R_not U (by first | exact .not1 U U U U | exact .not U U U U) U (.tmp U (by first | exact fun _ => rfl | exact id | simp))) U ?_
       refine AWl.put (R_or U (.no U) U (.tm U) (.tmp U (by first | exact fun _ => rfl | exact id | simp))) U ?_
       refine AWl.mv U U U U U ?_
       refine AWl.put ((by first | exact R_load U (by first | exact .not1 U U U U | exact .not U U U U) U (.tmp U (by first | exact fun _ => rfl | exact id | simp)) ty28 U U | exact R_load_pp U (by first | exact .not1 U U U U | exact .not U U U U) U (.tmp U (by first | exact fun _ => rfl | exact id | simp)) U ty28 U U | exact R_load_vw U (by first | exact .not1 U U U U | exact .not U U U U) U (.tmp U (by first | exact fun _ => rfl | exact id | simp)) ty28 U U | exact R_load_pr U (by first | exact .not1 U U U U | exact .not U U U U) U (.tmp U (by first | exact fun _ => rfl | exact id | simp)) U (by first | assumption | exact map_get (by assumption)) ty28 U U)) U ?_
       refine AWl.put (R_callq U (by first | exact .not1 U U U U | exact .not U U U U) U (.cons (.tmp U (by first | exact fun _ => rfl | exact id | simp)) U .nil) fun hq => FnT.fr (implIsDelta _)) U ?_
       refine AWl.put (R_not U (by first | exact .not1 U U U U | exact .not U U U U) U (.tmp U (by first | exact fun _ => rfl | exact id | simp))) U ?_
       refine AWl.put (R_or U (.no U) U (.tm U) (.tmp U (by first | exact fun _ => rfl | exact id | simp))) U ?_
       refine AWl.nil ?_
       refine AW.cond (.tm U) (fun h84 => ?_) (fun h84 => ?_)
       · exact absurd h84 (by simp [e1, e2, e3])
       · skip
         try simp at h84
         refine AW.skip ?_
         refine AW.sr ?_
         refine AWl.mv U U U U U ?_
         refine AWl.opE (R_calleX ((specDrawComposeDeltas bs hb).fr) U U U (.cons (.tm U) U .nil)) ?_
         rintro _ ⟨z87, hz87, rfl⟩
         try dsimp only at hz87
         refine AWl.put (R_movet U (.no U) U U fun _ => rfl) U ?_
         refine AWl.put (R_extract U (.no U) U U (fun _ => rfl) U) U ?_
         refine AWl.put (R_extract U (.no U) U U (fun _ => rfl) U) U ?_
         refine AWl.add (R_alloc 10 U U U in28 U U U) U ?_
         refine AWl.add (R_alloc 11 U U U in28 U U U) U ?_
         refine AWl.chgb (R_store_pb U U U (.tm U) (.tm U) U ty28 U U U (by kernel_rfl) U) ?_
         refine AWl.chgb (R_store_pb U U U (.tm U) (.tm U) U ty28 U U U (by kernel_rfl) U) ?_
         refine AWl.nil (AW.sr ?_)
         refine AWl.put ((by first | exact R_load U (.no U) U (.tm U) ty28 U U | exact R_load_pp U (.no U) U (.tm U) U ty28 U U | exact R_load_vw U (.no U) U (.tm U) ty28 U U | exact R_load_pr U (.no U) U (.tm U) U (by first | assumption | exact map_get (by assumption)) ty28 U U)) U ?_
         refine AWl.put ((by first | exact R_load U (.no U) U (.tm U) ty28 U U | exact R_load_pp U (.no U) U (.tm U) U ty28 U U | exact R_load_vw U (.no U) U (.tm U) ty28 U U | exact R_load_pr U (.no U) U (.tm U) U (by first | assumption | exact map_get (by assumption)) ty28 U U)) U ?_
         refine AWl.put (R_callz (FnT.fr (implComposeDeltas z87.1 z87.2 (Nat.le_trans hz87.1.1 (by omega)) (Nat.le_trans hz87.1.2 (by omega)) (Nat.le_trans hz87.2.1 (by omega)) (Nat.le_trans hz87.2.2 (by omega)))) U (.no U) U (.cons (.tm U) U (.cons (.tm U) U .nil))) U ?_
         refine AWl.put (R_movet U (.no U) U U fun _ => rfl) U ?_
         refine AWl.put (R_extract U (.no U) U U (fun _ => rfl) U) U ?_
         refine AWl.put (R_extract U (.no U) U U (fun _ => rfl) U) U ?_
         refine AWl.add (R_alloc 12 U U U in28 U U U) U ?_
         refine AWl.chgb (R_store_pb U U U (.tm U) (.tm U) U ty28 U U U (by kernel_rfl) U) ?_
         refine AWl.av U U U U U ?_
         refine AWl.nil (AW.sr ?_)
         refine AWl.put ((by first | exact R_load U (.no U) U (.tm U) ty28 U U | exact R_load_pp U (.no U) U (.tm U) U ty28 U U | exact R_load_vw U (.no U) U (.tm U) ty28 U U | exact R_load_pr U (.no U) U (.tm U) U (by first | assumption | exact map_get (by assumption)) ty28 U U)) U ?_
         refine AWl.put ((by first | exact R_load U (.no U) U (.tm U) ty28 U U | exact R_load_pp U (.no U) U (.tm U) U ty28 U U | exact R_load_vw U (.no U) U (.tm U) ty28 U U | exact R_load_pr U (.no U) U (.tm U) U (by first | assumption | exact map_get (by assumption)) ty28 U U)) U ?_
         refine AWl.put (R_callz (FnT.fr (specComposeDeltas z87.1 z87.2 (Nat.le_trans hz87.1.1 (by omega)) (Nat.le_trans hz87.1.2 (by omega)) (Nat.le_trans hz87.2.1 (by omega)) (Nat.le_trans hz87.2.2 (by omega)))) U (.no U) U (.cons (.tm U) U (.cons (.tm U) U .nil))) U ?_
         refine AWl.put (R_movet U (.no U) U U fun _ => rfl) U ?_
         refine AWl.put (R_extract U (.no U) U U (fun _ => rfl) U) U ?_
         refine AWl.put (R_extract U (.no U) U U (fun _ => rfl) U) U ?_
         refine AWl.add (R_alloc 14 U U U in28 U U U) U ?_
         refine AWl.chgb (R_store_pb U U U (.tm U) (.tm U) U ty28 U U U (by kernel_rfl) U) ?_
         refine AWl.av U U U U U ?_
         refine AWl.nil (AW.seq ?_)
         refine AW.sr ?_
         refine AWl.mv U U U U U ?_
         refine AWl.mv U U U U U ?_
         refine AWl.put (R_neb U (.no U) U (.tm U) (.tm U) Tryz.underlying4) U ?_
         refine AWl.nil ?_
         refine AW.cond (.tm U) (fun h104 => ?_) (fun h104 => ?_)
         · exact absurd h104 (by simp)
         · skip
           try simp at h104
           refine AW.skip ?_
           refine AW.sr ?_
           refine AWl.mv U U U U U ?_
           refine AWl.opE (R_calleX ((specDrawApplyDelta bs hb).fr) U U U (.cons (.tm U) U .nil)) ?_
           rintro _ ⟨z107, hz107, rfl⟩
           try dsimp only at hz107
           refine AWl.put (R_movet U (.no U) U U fun _ => rfl) U ?_
           refine AWl.put (R_extract U (.no U) U U (fun _ => rfl) U) U ?_
           refine AWl.put (R_extract U (.no U) U U (fun _ => rfl) U) U ?_
           refine AWl.add (R_alloc 17 U U U in28 U U U) U ?_
           refine AWl.av U U U U U ?_
           refine AWl.chgb (R_store_pb U U U (.tm U) (.tm U) U ty28 U U U (by kernel_rfl) U) ?_
           refine AWl.nil (AW.sr ?_)
           refine AWl.mv U U U U U ?_
           refine AWl.put ((by first | exact R_load U (.no U) U (.tm U) ty28 U U | exact R_load_pp U (.no U) U (.tm U) U ty28 U U | exact R_load_vw U (.no U) U (.tm U) ty28 U U | exact R_load_pr U (.no U) U (.tm U) U (by first | assumption | exact map_get (by assumption)) ty28 U U)) U ?_
           refine AWl.put (R_callz (FnT.fr (specApplyDelta z107.1 z87.1 (by omega) (Nat.le_trans hz87.1.1 (by omega)) (Nat.le_trans hz87.1.2 (by omega)))) U (.no U) U (.cons (.tm U) U (.cons (.tm U) U .nil))) U ?_
           refine AWl.put (R_movet U (.no U) U U fun _ => rfl) U ?_
           refine AWl.put (R_extract U (.no U) U U (fun _ => rfl) U) U ?_
           refine AWl.put (R_extract U (.no U) U U (fun _ => rfl) U) U ?_
           refine AWl.av U U U U U ?_
           refine AWl.av U U U U U ?_
           refine AWl.nil (AW.sr ?_)
           refine AWl.mv U U U U U ?_
           refine AWl.put ((by first | exact R_load U (.no U) U (.tm U) ty28 U U | exact R_load_pp U (.no U) U (.tm U) U ty28 U U | exact R_load_vw U (.no U) U (.tm U) ty28 U U | exact R_load_pr U (.no U) U (.tm U) U (by first | assumption | exact map_get (by assumption)) ty28 U U)) U ?_
           refine AWl.put (R_callz (FnT.fr (specApplyDelta (applyD z107.1 z87.1).1 z87.2 (applyD_small hz107 hz87.1) (Nat.le_trans hz87.2.1 (by omega)) (Nat.le_trans hz87.2.2 (by omega)))) U (.no U) U (.cons (.tm U) U (.cons (.tm U) U .nil))) U ?_
           refine AWl.put (R_movet U (.no U) U U fun _ => rfl) U ?_
           refine AWl.put (R_extract U (.no U) U U (fun _ => rfl) U) U ?_
           refine AWl.put (R_extract U (.no U) U U (fun _ => rfl) U) U ?_
           refine AWl.av U U U U U ?_
           refine AWl.av U U U U U ?_
           refine AWl.nil (AW.seq ?_)
           refine AW.sr ?_
           refine AWl.mv U U U U U ?_
           refine AWl.mv U U U U U ?_
           refine AWl.put (R_move U (by first | exact .yes1 U U U U | exact .yes U U U U) U (.tmp U (by first | exact fun _ => rfl | exact id | simp))) U ?_
           refine AWl.put (R_and U (.no U) U (.tm U) (.tmp U (by first | exact fun _ => rfl | exact id | simp))) U ?_
           refine AWl.nil ?_
           refine AW.cond (.tm U) (fun h125 => ?_) (fun h125 => ?_)
           · skip
             try simp at h125
             have hab : (applyD z107.1 z87.1).2 = true ∧ (applyD (applyD z107.1 z87.1).1 z87.2).2 = true := (by simpa using h125)
             have e4 := compose_acts hab.1 hab.2
             refine AW.sr ?_
             refine AWl.mv U U U U U ?_
             refine AWl.put ((by first | exact R_load U (.no U) U (.tm U) ty28 U U | exact R_load_pp U (.no U) U (.tm U) U ty28 U U | exact R_load_vw U (.no U) U (.tm U) ty28 U U | exact R_load_pr U (.no U) U (.tm U) U (by first | assumption | exact map_get (by assumption)) ty28 U U)) U ?_
             refine AWl.put (R_callz (FnT.fr (implApplyDelta z107.1 (composeD z87.1 z87.2).1 (by omega) (composeD_small hz87.1 hz87.2).1 (composeD_small hz87.1 hz87.2).2)) U (.no U) U (.cons (.tm U) U (.cons (.tm U) U .nil))) U ?_
             refine AWl.put (R_movet U (.no U) U U fun _ => rfl) U ?_
             refine AWl.put (R_extract U (.no U) U U (fun _ => rfl) U) U ?_
             refine AWl.put (R_extract U (.no U) U U (fun _ => rfl) U) U ?_
             refine AWl.av U U U U U ?_
             refine AWl.av U U U U U ?_
             refine AWl.nil (AW.sr ?_)
             refine AWl.mv U U U U U ?_
             refine AWl.put (R_not U (.no U) U (.tm U)) U ?_
             refine AWl.mv U U U U U ?_
             refine AWl.put (R_move U (by first | exact .not1 U U U U | exact .not U U U U) U (.tmp U (by first | exact fun _ => rfl | exact id | simp))) U ?_
             refine AWl.put (R_not U (by first | exact .not1 U U U U | exact .not U U U U) U (.tmp U (by first | exact fun _ => rfl | exact id | simp))) U ?_
             refine AWl.put (R_or U (.no U) U (.tm U) (.tmp U (by first | exact fun _ => rfl | exact id | simp))) U ?_
             refine AWl.mv U U U U U ?_
             refine AWl.put (R_move U (by first | exact .not1 U U U U | exact .not U U U U) U (.tmp U (by first | exact fun _ => rfl | exact id | simp))) U ?_
             refine AWl.put (R_move U (by first | exact .not1 U U U U | exact .not U U U U) U (.tmp U (by first | exact fun _ => rfl | exact id | simp))) U ?_
             refine AWl.put (R_callq U (by first | exact .not1 U U U U | exact .not U U U U) U (.cons (.tmp U (by first | exact fun _ => rfl | exact id | simp)) U (.cons (.tmp U (by first | exact fun _ => rfl | exact id | simp)) U .nil)) fun hq => FnT.fr (specEqualPairs _ _)) U ?_
             refine AWl.put (R_not U (by first | exact .not1 U U U U | exact .not U U U U) U (.tmp U (by first | exact fun _ => rfl | exact id | simp))) U ?_
             refine AWl.put (R_or U (.no U) U (.tm U) (.tmp U (by first | exact fun _ => rfl | exact id | simp))) U ?_
             refine AWl.nil ?_
             refine AW.cond (.tm U) (fun h143 => ?_) (fun h143 => ?_)
             · exact absurd h143 (by simp [e4.1, e4.2])
             · skip
               try simp at h143
               refine AW.skip ?_
               refine AW.sr ?_
               refine AWl.put ((by first | exact R_load U (.no U) U (.tm U) ty28 U U | exact R_load_pp U (.no U) U (.tm U) U ty28 U U | exact R_load_vw U (.no U) U (.tm U) ty28 U U | exact R_load_pr U (.no U) U (.tm U) U (by first | assumption | exact map_get (by assumption)) ty28 U U)) U ?_
               refine AWl.put (R_callz (FnT.fr (implFormatDelta z87.1 (Nat.le_trans hz87.1.1 (by omega)) (Nat.le_trans hz87.1.2 (by omega)))) U (.no U) U (.cons (.tm U) U .nil)) U ?_
               refine AWl.av U U U U U ?_
               refine AWl.nil (AW.sr ?_)
               refine AWl.mv U U U U U ?_
               refine AWl.put (R_callz (FnT.fr (parseD_fmt z87.1 hz87.1)) U (.no U) U (.cons (.tm U) U .nil)) U ?_
               refine AWl.put (R_movet U (.no U) U U fun _ => rfl) U ?_
               refine AWl.put (R_extract U (.no U) U U (fun _ => rfl) U) U ?_
               refine AWl.put (R_extract U (.no U) U U (fun _ => rfl) U) U ?_
               refine AWl.add (R_alloc 25 U U U in28 U U U) U ?_
               refine AWl.chgb (R_store_pb U U U (.tm U) (.tm U) U ty28 U U U (by kernel_rfl) U) ?_
               refine AWl.av U U U U U ?_
               refine AWl.nil (AW.sr ?_)
               refine AWl.mv U U U U U ?_
               refine AWl.put ((by first | exact R_load U (.no U) U (.tm U) ty28 U U | exact R_load_pp U (.no U) U (.tm U) U ty28 U U | exact R_load_vw U (.no U) U (.tm U) ty28 U U | exact R_load_pr U (.no U) U (.tm U) U (by first | assumption | exact map_get (by assumption)) ty28 U U)) U ?_
               refine AWl.put (R_callz (FnT.fr (specIsDelta z87.1)) U (.no U) U (.cons (.tm U) U .nil)) U ?_
               refine AWl.put (R_eqb U (.no U) U (.tm U) (.tm U) Tryz.underlying4) U ?_
               refine AWl.mv U U U U U ?_
               refine AWl.put (R_move U (by first | exact .yes1 U U U U | exact .yes U U U U) U (.tmp U (by first | exact fun _ => rfl | exact id | simp))) U ?_
               refine AWl.put (R_not U (by first | exact .yes1 U U U U | exact .yes U U U U) U (.tmp U (by first | exact fun _ => rfl | exact id | simp))) U ?_
               refine AWl.put (R_move U (by first | exact .yes1 U U U U | exact .yes U U U U) U (.tmp U (by first | exact fun _ => rfl | exact id | simp))) U ?_
               refine AWl.put ((by first | exact R_load U (by first | exact .not1 U U U U | exact .not U U U U) U (.tmp U (by first | exact fun _ => rfl | exact id | simp)) ty28 U U | exact R_load_pp U (by first | exact .not1 U U U U | exact .not U U U U) U (.tmp U (by first | exact fun _ => rfl | exact id | simp)) U ty28 U U | exact R_load_vw U (by first | exact .not1 U U U U | exact .not U U U U) U (.tmp U (by first | exact fun _ => rfl | exact id | simp)) ty28 U U | exact R_load_pr U (by first | exact .not1 U U U U | exact .not U U U U) U (.tmp U (by first | exact fun _ => rfl | exact id | simp)) U (by first | assumption | exact map_get (by assumption)) ty28 U U)) U ?_
               refine AWl.put ((by first | exact R_load U (by first | exact .not1 U U U U | exact .not U U U U) U (.tmp U (by first | exact fun _ => rfl | exact id | simp)) ty28 U U | exact R_load_pp U (by first | exact .not1 U U U U | exact .not U U U U) U (.tmp U (by first | exact fun _ => rfl | exact id | simp)) U ty28 U U | exact R_load_vw U (by first | exact .not1 U U U U | exact .not U U U U) U (.tmp U (by first | exact fun _ => rfl | exact id | simp)) ty28 U U | exact R_load_pr U (by first | exact .not1 U U U U | exact .not U U U U) U (.tmp U (by first | exact fun _ => rfl | exact id | simp)) U (by first | assumption | exact map_get (by assumption)) ty28 U U)) U ?_
               refine AWl.put (R_callq U (by first | exact .not1 U U U U | exact .not U U U U) U (.cons (.tmp U (by first | exact fun _ => rfl | exact id | simp)) U (.cons (.tmp U (by first | exact fun _ => rfl | exact id | simp)) U .nil)) fun hq => FnT.fr (implEqualDeltas _ _)) U ?_
               refine AWl.put (R_or U (by first | exact .yes1 U U U U | exact .yes U U U U) U (.tmp U (by first | exact fun _ => rfl | exact id | simp)) (.tmp U (by first | exact fun _ => rfl | exact id | simp))) U ?_
               refine AWl.put (R_and U (.no U) U (.tm U) (.tmp U (by first | exact fun _ => rfl | exact id | simp))) U ?_
               refine AWl.av U U U U U ?_
               refine AWl.nil (AW.ret ?_)
               refine Res.v U U ?_
               exact congrArg Value.bool (back_end z87.1)
           · skip
             try simp at h125
             refine AW.skip ?_
             refine AW.sr ?_
             refine AWl.put ((by first | exact R_load U (.no U) U (.tm U) ty28 U U | exact R_load_pp U (.no U) U (.tm U) U ty28 U U | exact R_load_vw U (.no U) U (.tm U) ty28 U U | exact R_load_pr U (.no U) U (.tm U) U (by first | assumption | exact map_get (by assumption)) ty28 U U)) U ?_
             refine AWl.put (R_callz (FnT.fr (implFormatDelta z87.1 (Nat.le_trans hz87.1.1 (by omega)) (Nat.le_trans hz87.1.2 (by omega)))) U (.no U) U (.cons (.tm U) U .nil)) U ?_
             refine AWl.av U U U U U ?_
             refine AWl.nil (AW.sr ?_)
             refine AWl.mv U U U U U ?_
             refine AWl.put (R_callz (FnT.fr (parseD_fmt z87.1 hz87.1)) U (.no U) U (.cons (.tm U) U .nil)) U ?_
             refine AWl.put (R_movet U (.no U) U U fun _ => rfl) U ?_
             refine AWl.put (R_extract U (.no U) U U (fun _ => rfl) U) U ?_
             refine AWl.put (R_extract U (.no U) U U (fun _ => rfl) U) U ?_
             refine AWl.add (R_alloc 25 U U U in28 U U U) U ?_
             refine AWl.chgb (R_store_pb U U U (.tm U) (.tm U) U ty28 U U U (by kernel_rfl) U) ?_
             refine AWl.av U U U U U ?_
             refine AWl.nil (AW.sr ?_)
             refine AWl.mv U U U U U ?_
             refine AWl.put ((by first | exact R_load U (.no U) U (.tm U) ty28 U U | exact R_load_pp U (.no U) U (.tm U) U ty28 U U | exact R_load_vw U (.no U) U (.tm U) ty28 U U | exact R_load_pr U (.no U) U (.tm U) U (by first | assumption | exact map_get (by assumption)) ty28 U U)) U ?_
             refine AWl.put (R_callz (FnT.fr (specIsDelta z87.1)) U (.no U) U (.cons (.tm U) U .nil)) U ?_
             refine AWl.put (R_eqb U (.no U) U (.tm U) (.tm U) Tryz.underlying4) U ?_
             refine AWl.mv U U U U U ?_
             refine AWl.put (R_move U (by first | exact .yes1 U U U U | exact .yes U U U U) U (.tmp U (by first | exact fun _ => rfl | exact id | simp))) U ?_
             refine AWl.put (R_not U (by first | exact .yes1 U U U U | exact .yes U U U U) U (.tmp U (by first | exact fun _ => rfl | exact id | simp))) U ?_
             refine AWl.put (R_move U (by first | exact .yes1 U U U U | exact .yes U U U U) U (.tmp U (by first | exact fun _ => rfl | exact id | simp))) U ?_
             refine AWl.put ((by first | exact R_load U (by first | exact .not1 U U U U | exact .not U U U U) U (.tmp U (by first | exact fun _ => rfl | exact id | simp)) ty28 U U | exact R_load_pp U (by first | exact .not1 U U U U | exact .not U U U U) U (.tmp U (by first | exact fun _ => rfl | exact id | simp)) U ty28 U U | exact R_load_vw U (by first | exact .not1 U U U U | exact .not U U U U) U (.tmp U (by first | exact fun _ => rfl | exact id | simp)) ty28 U U | exact R_load_pr U (by first | exact .not1 U U U U | exact .not U U U U) U (.tmp U (by first | exact fun _ => rfl | exact id | simp)) U (by first | assumption | exact map_get (by assumption)) ty28 U U)) U ?_
             refine AWl.put ((by first | exact R_load U (by first | exact .not1 U U U U | exact .not U U U U) U (.tmp U (by first | exact fun _ => rfl | exact id | simp)) ty28 U U | exact R_load_pp U (by first | exact .not1 U U U U | exact .not U U U U) U (.tmp U (by first | exact fun _ => rfl | exact id | simp)) U ty28 U U | exact R_load_vw U (by first | exact .not1 U U U U | exact .not U U U U) U (.tmp U (by first | exact fun _ => rfl | exact id | simp)) ty28 U U | exact R_load_pr U (by first | exact .not1 U U U U | exact .not U U U U) U (.tmp U (by first | exact fun _ => rfl | exact id | simp)) U (by first | assumption | exact map_get (by assumption)) ty28 U U)) U ?_
             refine AWl.put (R_callq U (by first | exact .not1 U U U U | exact .not U U U U) U (.cons (.tmp U (by first | exact fun _ => rfl | exact id | simp)) U (.cons (.tmp U (by first | exact fun _ => rfl | exact id | simp)) U .nil)) fun hq => FnT.fr (implEqualDeltas _ _)) U ?_
             refine AWl.put (R_or U (by first | exact .yes1 U U U U | exact .yes U U U U) U (.tmp U (by first | exact fun _ => rfl | exact id | simp)) (.tmp U (by first | exact fun _ => rfl | exact id | simp))) U ?_
             refine AWl.put (R_and U (.no U) U (.tm U) (.tmp U (by first | exact fun _ => rfl | exact id | simp))) U ?_
             refine AWl.av U U U U U ?_
             refine AWl.nil (AW.ret ?_)
             refine Res.v U U ?_
             exact congrArg Value.bool (back_end z87.1)
     · skip
       try simp at h48
       refine AW.skip ?_
       refine AW.sr ?_
       refine AWl.mv U U U U U ?_
       refine AWl.opE (R_calleX ((specDrawComposeDeltas bs hb).fr) U U U (.cons (.tm U) U .nil)) ?_
       rintro _ ⟨z87, hz87, rfl⟩
       try dsimp only at hz87
       refine AWl.put (R_movet U (.no U) U U fun _ => rfl) U ?_
       refine AWl.put (R_extract U (.no U) U U (fun _ => rfl) U) U ?_
       refine AWl.put (R_extract U (.no U) U U (fun _ => rfl) U) U ?_
       refine AWl.add (R_alloc 10 U U U in28 U U U) U ?_
       refine AWl.add (R_alloc 11 U U U in28 U U U) U ?_
       refine AWl.chgb (R_store_pb U U U (.tm U) (.tm U) U ty28 U U U (by kernel_rfl) U) ?_
       refine AWl.chgb (R_store_pb U U U (.tm U) (.tm U) U ty28 U U U (by kernel_rfl) U) ?_
       refine AWl.nil (AW.sr ?_)
       refine AWl.put ((by first | exact R_load U (.no U) U (.tm U) ty28 U U | exact R_load_pp U (.no U) U (.tm U) U ty28 U U | exact R_load_vw U (.no U) U (.tm U) ty28 U U | exact R_load_pr U (.no U) U (.tm U) U (by first | assumption | exact map_get (by assumption)) ty28 U U)) U ?_
       refine AWl.put ((by first | exact R_load U (.no U) U (.tm U) ty28 U U | exact R_load_pp U (.no U) U (.tm U) U ty28 U U | exact R_load_vw U (.no U) U (.tm U) ty28 U U | exact R_load_pr U (.no U) U (.tm U) U (by first | assumption | exact map_get (by assumption)) ty28 U U)) U ?_
       refine AWl.put (R_callz (FnT.fr (implComposeDeltas z87.1 z87.2 (Nat.le_trans hz87.1.1 (by omega)) (Nat.le_trans hz87.1.2 (by omega)) (Nat.le_trans hz87.2.1 (by omega)) (Nat.le_trans hz87.2.2 (by omega)))) U (.no U) U (.cons (.tm U) U (.cons (.tm U) U .nil))) U ?_
       refine AWl.put (R_movet U (.no U) U U fun _ => rfl) U ?_
       refine AWl.put (R_extract U (.no U) U U (fun _ => rfl) U) U ?_
       refine AWl.put (R_extract U (.no U) U U (fun _ => rfl) U) U ?_
       refine AWl.add (R_alloc 12 U U U in28 U U U) U ?_
       refine AWl.chgb (R_store_pb U U U (.tm U) (.tm U) U ty28 U U U (by kernel_rfl) U) ?_
       refine AWl.av U U U U U ?_
       refine AWl.nil (AW.sr ?_)
       refine AWl.put ((by first | exact R_load U (.no U) U (.tm U) ty28 U U | exact R_load_pp U (.no U) U (.tm U) U ty28 U U | exact R_load_vw U (.no U) U (.tm U) ty28 U U | exact R_load_pr U (.no U) U (.tm U) U (by first | assumption | exact map_get (by assumption)) ty28 U U)) U ?_
       refine AWl.put ((by first | exact R_load U (.no U) U (.tm U) ty28 U U | exact R_load_pp U (.no U) U (.tm U) U ty28 U U | exact R_load_vw U (.no U) U (.tm U) ty28 U U | exact R_load_pr U (.no U) U (.tm U) U (by first | assumption | exact map_get (by assumption)) ty28 U U)) U ?_
       refine AWl.put (R_callz (FnT.fr (specComposeDeltas z87.1 z87.2 (Nat.le_trans hz87.1.1 (by omega)) (Nat.le_trans hz87.1.2 (by omega)) (Nat.le_trans hz87.2.1 (by omega)) (Nat.le_trans hz87.2.2 (by omega)))) U (.no U) U (.cons (.tm U) U (.cons (.tm U) U .nil))) U ?_
       refine AWl.put (R_movet U (.no U) U U fun _ => rfl) U ?_
       refine AWl.put (R_extract U (.no U) U U (fun _ => rfl) U) U ?_
       refine AWl.put (R_extract U (.no U) U U (fun _ => rfl) U) U ?_
       refine AWl.add (R_alloc 14 U U U in28 U U U) U ?_
       refine AWl.chgb (R_store_pb U U U (.tm U) (.tm U) U ty28 U U U (by kernel_rfl) U) ?_
       refine AWl.av U U U U U ?_
       refine AWl.nil (AW.seq ?_)
       refine AW.sr ?_
       refine AWl.mv U U U U U ?_
       refine AWl.mv U U U U U ?_
       refine AWl.put (R_neb U (.no U) U (.tm U) (.tm U) Tryz.underlying4) U ?_
       refine AWl.nil ?_
       refine AW.cond (.tm U) (fun h104 => ?_) (fun h104 => ?_)
       · exact absurd h104 (by simp)
       · skip
         try simp at h104
         refine AW.skip ?_
         refine AW.sr ?_
         refine AWl.mv U U U U U ?_
         refine AWl.opE (R_calleX ((specDrawApplyDelta bs hb).fr) U U U (.cons (.tm U) U .nil)) ?_
         rintro _ ⟨z107, hz107, rfl⟩
         try dsimp only at hz107
         refine AWl.put (R_movet U (.no U) U U fun _ => rfl) U ?_
         refine AWl.put (R_extract U (.no U) U U (fun _ => rfl) U) U ?_
         refine AWl.put (R_extract U (.no U) U U (fun _ => rfl) U) U ?_
         refine AWl.add (R_alloc 17 U U U in28 U U U) U ?_
         refine AWl.av U U U U U ?_
         refine AWl.chgb (R_store_pb U U U (.tm U) (.tm U) U ty28 U U U (by kernel_rfl) U) ?_
         refine AWl.nil (AW.sr ?_)
         refine AWl.mv U U U U U ?_
         refine AWl.put ((by first | exact R_load U (.no U) U (.tm U) ty28 U U | exact R_load_pp U (.no U) U (.tm U) U ty28 U U | exact R_load_vw U (.no U) U (.tm U) ty28 U U | exact R_load_pr U (.no U) U (.tm U) U (by first | assumption | exact map_get (by assumption)) ty28 U U)) U ?_
         refine AWl.put (R_callz (FnT.fr (specApplyDelta z107.1 z87.1 (by omega) (Nat.le_trans hz87.1.1 (by omega)) (Nat.le_trans hz87.1.2 (by omega)))) U (.no U) U (.cons (.tm U) U (.cons (.tm U) U .nil))) U ?_
         refine AWl.put (R_movet U (.no U) U U fun _ => rfl) U ?_
         refine AWl.put (R_extract U (.no U) U U (fun _ => rfl) U) U ?_
         refine AWl.put (R_extract U (.no U) U U (fun _ => rfl) U) U ?_
         refine AWl.av U U U U U ?_
         refine AWl.av U U U U U ?_
         refine AWl.nil (AW.sr ?_)
         refine AWl.mv U U U U U ?_
         refine AWl.put ((by first | exact R_load U (.no U) U (.tm U) ty28 U U | exact R_load_pp U (.no U) U (.tm U) U ty28 U U | exact R_load_vw U (.no U) U (.tm U) ty28 U U | exact R_load_pr U (.no U) U (.tm U) U (by first | assumption | exact map_get (by assumption)) ty28 U U)) U ?_
         refine AWl.put (R_callz (FnT.fr (specApplyDelta (applyD z107.1 z87.1).1 z87.2 (applyD_small hz107 hz87.1) (Nat.le_trans hz87.2.1 (by omega)) (Nat.le_trans hz87.2.2 (by omega)))) U (.no U) U (.cons (.tm U) U (.cons (.tm U) U .nil))) U ?_
         refine AWl.put (R_movet U (.no U) U U fun _ => rfl) U ?_
         refine AWl.put (R_extract U (.no U) U U (fun _ => rfl) U) U ?_
         refine AWl.put (R_extract U (.no U) U U (fun _ => rfl) U) U ?_
         refine AWl.av U U U U U ?_
         refine AWl.av U U U U U ?_
         refine AWl.nil (AW.seq ?_)
         refine AW.sr ?_
         refine AWl.mv U U U U U ?_
         refine AWl.mv U U U U U ?_
         refine AWl.put (R_move U (by first | exact .yes1 U U U U | exact .yes U U U U) U (.tmp U (by first | exact fun _ => rfl | exact id | simp))) U ?_
         refine AWl.put (R_and U (.no U) U (.tm U) (.tmp U (by first | exact fun _ => rfl | exact id | simp))) U ?_
         refine AWl.nil ?_
         refine AW.cond (.tm U) (fun h125 => ?_) (fun h125 => ?_)
         · skip
           try simp at h125
           have hab : (applyD z107.1 z87.1).2 = true ∧ (applyD (applyD z107.1 z87.1).1 z87.2).2 = true := (by simpa using h125)
           have e4 := compose_acts hab.1 hab.2
           refine AW.sr ?_
           refine AWl.mv U U U U U ?_
           refine AWl.put ((by first | exact R_load U (.no U) U (.tm U) ty28 U U | exact R_load_pp U (.no U) U (.tm U) U ty28 U U | exact R_load_vw U (.no U) U (.tm U) ty28 U U | exact R_load_pr U (.no U) U (.tm U) U (by first | assumption | exact map_get (by assumption)) ty28 U U)) U ?_
           refine AWl.put (R_callz (FnT.fr (implApplyDelta z107.1 (composeD z87.1 z87.2).1 (by omega) (composeD_small hz87.1 hz87.2).1 (composeD_small hz87.1 hz87.2).2)) U (.no U) U (.cons (.tm U) U (.cons (.tm U) U .nil))) U ?_
           refine AWl.put (R_movet U (.no U) U U fun _ => rfl) U ?_
           refine AWl.put (R_extract U (.no U) U U (fun _ => rfl) U) U ?_
           refine AWl.put (R_extract U (.no U) U U (fun _ => rfl) U) U ?_
           refine AWl.av U U U U U ?_
           refine AWl.av U U U U U ?_
           refine AWl.nil (AW.sr ?_)
           refine AWl.mv U U U U U ?_
           refine AWl.put (R_not U (.no U) U (.tm U)) U ?_
           refine AWl.mv U U U U U ?_
           refine AWl.put (R_move U (by first | exact .not1 U U U U | exact .not U U U U) U (.tmp U (by first | exact fun _ => rfl | exact id | simp))) U ?_
           refine AWl.put (R_not U (by first | exact .not1 U U U U | exact .not U U U U) U (.tmp U (by first | exact fun _ => rfl | exact id | simp))) U ?_
           refine AWl.put (R_or U (.no U) U (.tm U) (.tmp U (by first | exact fun _ => rfl | exact id | simp))) U ?_
           refine AWl.mv U U U U U ?_
           refine AWl.put (R_move U (by first | exact .not1 U U U U | exact .not U U U U) U (.tmp U (by first | exact fun _ => rfl | exact id | simp))) U ?_
           refine AWl.put (R_move U (by first | exact .not1 U U U U | exact .not U U U U) U (.tmp U (by first | exact fun _ => rfl | exact id | simp))) U ?_
           refine AWl.put (R_callq U (by first | exact .not1 U U U U | exact .not U U U U) U (.cons (.tmp U (by first | exact fun _ => rfl | exact id | simp)) U (.cons (.tmp U (by first | exact fun _ => rfl | exact id | simp)) U .nil)) fun hq => FnT.fr (specEqualPairs _ _)) U ?_
           refine AWl.put (R_not U (by first | exact .not1 U U U U | exact .not U U U U) U (.tmp U (by first | exact fun _ => rfl | exact id | simp))) U ?_
           refine AWl.put (R_or U (.no U) U (.tm U) (.tmp U (by first | exact fun _ => rfl | exact id | simp))) U ?_
           refine AWl.nil ?_
           refine AW.cond (.tm U) (fun h143 => ?_) (fun h143 => ?_)
           · exact absurd h143 (by simp [e4.1, e4.2])
           · skip
             try simp at h143
             refine AW.skip ?_
             refine AW.sr ?_
             refine AWl.put ((by first | exact R_load U (.no U) U (.tm U) ty28 U U | exact R_load_pp U (.no U) U (.tm U) U ty28 U U | exact R_load_vw U (.no U) U (.tm U) ty28 U U | exact R_load_pr U (.no U) U (.tm U) U (by first | assumption | exact map_get (by assumption)) ty28 U U)) U ?_
             refine AWl.put (R_callz (FnT.fr (implFormatDelta z87.1 (Nat.le_trans hz87.1.1 (by omega)) (Nat.le_trans hz87.1.2 (by omega)))) U (.no U) U (.cons (.tm U) U .nil)) U ?_
             refine AWl.av U U U U U ?_
             refine AWl.nil (AW.sr ?_)
             refine AWl.mv U U U U U ?_
             refine AWl.put (R_callz (FnT.fr (parseD_fmt z87.1 hz87.1)) U (.no U) U (.cons (.tm U) U .nil)) U ?_
             refine AWl.put (R_movet U (.no U) U U fun _ => rfl) U ?_
             refine AWl.put (R_extract U (.no U) U U (fun _ => rfl) U) U ?_
             refine AWl.put (R_extract U (.no U) U U (fun _ => rfl) U) U ?_
             refine AWl.add (R_alloc 25 U U U in28 U U U) U ?_
             refine AWl.chgb (R_store_pb U U U (.tm U) (.tm U) U ty28 U U U (by kernel_rfl) U) ?_
             refine AWl.av U U U U U ?_
             refine AWl.nil (AW.sr ?_)
             refine AWl.mv U U U U U ?_
             refine AWl.put ((by first | exact R_load U (.no U) U (.tm U) ty28 U U | exact R_load_pp U (.no U) U (.tm U) U ty28 U U | exact R_load_vw U (.no U) U (.tm U) ty28 U U | exact R_load_pr U (.no U) U (.tm U) U (by first | assumption | exact map_get (by assumption)) ty28 U U)) U ?_
             refine AWl.put (R_callz (FnT.fr (specIsDelta z87.1)) U (.no U) U (.cons (.tm U) U .nil)) U ?_
             refine AWl.put (R_eqb U (.no U) U (.tm U) (.tm U) Tryz.underlying4) U ?_
             refine AWl.mv U U U U U ?_
             refine AWl.put (R_move U (by first | exact .yes1 U U U U | exact .yes U U U U) U (.tmp U (by first | exact fun _ => rfl | exact id | simp))) U ?_
             refine AWl.put (R_not U (by first | exact .yes1 U U U U | exact .yes U U U U) U (.tmp U (by first | exact fun _ => rfl | exact id | simp))) U ?_
             refine AWl.put (R_move U (by first | exact .yes1 U U U U | exact .yes U U U U) U (.tmp U (by first | exact fun _ => rfl | exact id | simp))) U ?_
             refine AWl.put ((by first | exact R_load U (by first | exact .not1 U U U U | exact .not U U U U) U (.tmp U (by first | exact fun _ => rfl | exact id | simp)) ty28 U U | exact R_load_pp U (by first | exact .not1 U U U U | exact .not U U U U) U (.tmp U (by first | exact fun _ => rfl | exact id | simp)) U ty28 U U | exact R_load_vw U (by first | exact .not1 U U U U | exact .not U U U U) U (.tmp U (by first | exact fun _ => rfl | exact id | simp)) ty28 U U | exact R_load_pr U (by first | exact .not1 U U U U | exact .not U U U U) U (.tmp U (by first | exact fun _ => rfl | exact id | simp)) U (by first | assumption | exact map_get (by assumption)) ty28 U U)) U ?_
             refine AWl.put ((by first | exact R_load U (by first | exact .not1 U U U U | exact .not U U U U) U (.tmp U (by first | exact fun _ => rfl | exact id | simp)) ty28 U U | exact R_load_pp U (by first | exact .not1 U U U U | exact .not U U U U) U (.tmp U (by first | exact fun _ => rfl | exact id | simp)) U ty28 U U | exact R_load_vw U (by first | exact .not1 U U U U | exact .not U U U U) U (.tmp U (by first | exact fun _ => rfl | exact id | simp)) ty28 U U | exact R_load_pr U (by first | exact .not1 U U U U | exact .not U U U U) U (.tmp U (by first | exact fun _ => rfl | exact id | simp)) U (by first | assumption | exact map_get (by assumption)) ty28 U U)) U ?_
             refine AWl.put (R_callq U (by first | exact .not1 U U U U | exact .not U U U U) U (.cons (.tmp U (by first | exact fun _ => rfl | exact id | simp)) U (.cons (.tmp U (by first | exact fun _ => rfl | exact id | simp)) U .nil)) fun hq => FnT.fr (implEqualDeltas _ _)) U ?_
             refine AWl.put (R_or U (by first | exact .yes1 U U U U | exact .yes U U U U) U (.tmp U (by first | exact fun _ => rfl | exact id | simp)) (.tmp U (by first | exact fun _ => rfl | exact id | simp))) U ?_
             refine AWl.put (R_and U (.no U) U (.tm U) (.tmp U (by first | exact fun _ => rfl | exact id | simp))) U ?_
             refine AWl.av U U U U U ?_
             refine AWl.nil (AW.ret ?_)
             refine Res.v U U ?_
             exact congrArg Value.bool (back_end z87.1)
         · skip
           try simp at h125
           refine AW.skip ?_
           refine AW.sr ?_
           refine AWl.put ((by first | exact R_load U (.no U) U (.tm U) ty28 U U | exact R_load_pp U (.no U) U (.tm U) U ty28 U U | exact R_load_vw U (.no U) U (.tm U) ty28 U U | exact R_load_pr U (.no U) U (.tm U) U (by first | assumption | exact map_get (by assumption)) ty28 U U)) U ?_
           refine AWl.put (R_callz (FnT.fr (implFormatDelta z87.1 (Nat.le_trans hz87.1.1 (by omega)) (Nat.le_trans hz87.1.2 (by omega)))) U (.no U) U (.cons (.tm U) U .nil)) U ?_
           refine AWl.av U U U U U ?_
           refine AWl.nil (AW.sr ?_)
           refine AWl.mv U U U U U ?_
           refine AWl.put (R_callz (FnT.fr (parseD_fmt z87.1 hz87.1)) U (.no U) U (.cons (.tm U) U .nil)) U ?_
           refine AWl.put (R_movet U (.no U) U U fun _ => rfl) U ?_
           refine AWl.put (R_extract U (.no U) U U (fun _ => rfl) U) U ?_
           refine AWl.put (R_extract U (.no U) U U (fun _ => rfl) U) U ?_
           refine AWl.add (R_alloc 25 U U U in28 U U U) U ?_
           refine AWl.chgb (R_store_pb U U U (.tm U) (.tm U) U ty28 U U U (by kernel_rfl) U) ?_
           refine AWl.av U U U U U ?_
           refine AWl.nil (AW.sr ?_)
           refine AWl.mv U U U U U ?_
           refine AWl.put ((by first | exact R_load U (.no U) U (.tm U) ty28 U U | exact R_load_pp U (.no U) U (.tm U) U ty28 U U | exact R_load_vw U (.no U) U (.tm U) ty28 U U | exact R_load_pr U (.no U) U (.tm U) U (by first | assumption | exact map_get (by assumption)) ty28 U U)) U ?_
           refine AWl.put (R_callz (FnT.fr (specIsDelta z87.1)) U (.no U) U (.cons (.tm U) U .nil)) U ?_
           refine AWl.put (R_eqb U (.no U) U (.tm U) (.tm U) Tryz.underlying4) U ?_
           refine AWl.mv U U U U U ?_
           refine AWl.put (R_move U (by first | exact .yes1 U U U U | exact .yes U U U U) U (.tmp U (by first | exact fun _ => rfl | exact id | simp))) U ?_
           refine AWl.put (R_not U (by first | exact .yes1 U U U U | exact .yes U U U U) U (.tmp U (by first | exact fun _ => rfl | exact id | simp))) U ?_
           refine AWl.put (R_move U (by first | exact .yes1 U U U U | exact .yes U U U U) U (.tmp U (by first | exact fun _ => rfl | exact id | simp))) U ?_
           refine AWl.put ((by first | exact R_load U (by first | exact .not1 U U U U | exact .not U U U U) U (.tmp U (by first | exact fun _ => rfl | exact id | simp)) ty28 U U | exact R_load_pp U (by first | exact .not1 U U U U | exact .not U U U U) U (.tmp U (by first | exact fun _ => rfl | exact id | simp)) U ty28 U U | exact R_load_vw U (by first | exact .not1 U U U U | exact .not U U U U) U (.tmp U (by first | exact fun _ => rfl | exact id | simp)) ty28 U U | exact R_load_pr U (by first | exact .not1 U U U U | exact .not U U U U) U (.tmp U (by first | exact fun _ => rfl | exact id | simp)) U (by first | assumption | exact map_get (by assumption)) ty28 U U)) U ?_
           refine AWl.put ((by first | exact R_load U (by first | exact .not1 U U U U | exact .not U U U U) U (.tmp U (by first | exact fun _ => rfl | exact id | simp)) ty28 U U | exact R_load_pp U (by first | exact .not1 U U U U | exact .not U U U U) U (.tmp U (by first | exact fun _ => rfl | exact id | simp)) U ty28 U U | exact R_load_vw U (by first | exact .not1 U U U U | exact .not U U U U) U (.tmp U (by first | exact fun _ => rfl | exact id | simp)) ty28 U U | exact R_load_pr U (by first | exact .not1 U U U U | exact .not U U U U) U (.tmp U (by first | exact fun _ => rfl | exact id | simp)) U (by first | assumption | exact map_get (by assumption)) ty28 U U)) U ?_
           refine AWl.put (R_callq U (by first | exact .not1 U U U U | exact .not U U U U) U (.cons (.tmp U (by first | exact fun _ => rfl | exact id | simp)) U (.cons (.tmp U (by first | exact fun _ => rfl | exact id | simp)) U .nil)) fun hq => FnT.fr (implEqualDeltas _ _)) U ?_
           refine AWl.put (R_or U (by first | exact .yes1 U U U U | exact .yes U U U U) U (.tmp U (by first | exact fun _ => rfl | exact id | simp)) (.tmp U (by first | exact fun _ => rfl | exact id | simp))) U ?_
           refine AWl.put (R_and U (.no U) U (.tm U) (.tmp U (by first | exact fun _ => rfl | exact id | simp))) U ?_
           refine AWl.av U U U U U ?_
           refine AWl.nil (AW.ret ?_)
           refine Res.v U U ?_
           exact congrArg Value.bool (back_end z87.1)
namespace LFnDeltas
theorem opensByte : OpensT cByte Tryz.prog 5 := opensTByte Tryz.underlying5
theorem opensByteS : OpensT (fun (l : List (Fin 256)) => [T.sl 1 (l.map cByte)]) Tryz.prog 22 := opensTSlice (c := cByte) Tryz.underlying22 (by kernel_rfl) (by decide) (fun _ => rfl) opensByte
theorem ownFnDeltas : ownKnob Tryz.prog.godebug = none := by kernel_rfl
theorem laidOutFnDeltas : laidOutB Tryz.prog = true := by kernel_rfl
set_option maxRecDepth 100000 in
theorem liftedFnDeltas (os : Os) (started : os.Started) (H : Type) (enc : TypeId × Value → H) :
 ReturnsInHanded {} Tryz.checked os 3 .any (fun w args => (Rows.fnDeltasSpec.pre enc Tryz.prog Tryz.f3 Rows.fnDeltasRow.domain false w args ∧ laidMetH Tryz.prog Rows.fnDeltasRow.laid w) ∧ sizedMet enc Tryz.prog Tryz.f3 (OpenSpec.ofChange Rows.fnDeltasSpec) false w args) (Rows.fnDeltasSpec.post enc Tryz.prog Tryz.f3 false true false false) := by
 refine frame_laid (C := Tryz.checked) (X := fun w => laidMetH Tryz.prog Rows.fnDeltasRow.laid w) (fun _ _ hh h => h.of_heap hh) ownFnDeltas started (by kernel_rfl) Tryz.func3
  (ChangeSpec.witness_shaped (enc := enc) (C := Tryz.checked) (os := os) (X := fun w _ => laidMetH Tryz.prog Rows.fnDeltasRow.laid w) false (World.laidAll Tryz.prog os Rows.fnDeltasRow.laid) #[.slice none 0 0] 8 (World.laidAll_os _ _ _)
   (World.shaped_of_ZipB (by kernel_rfl) (by kernel_rfl)) (by kernel_rfl) (by kernel_rfl) (by kernel_rfl)
   (by rw [MakeChecks.laidMetH_plain _ _ _ (by kernel_rfl)]; exact laidMet_laidAll _ (by kernel_rfl) (by kernel_rfl))) ?_
 intro W base args ds gs before hval0 hW hX hsh
 rw [MakeChecks.laidMetH_plain _ _ _ (by kernel_rfl)] at hX
 have hgood : Go.Q.Good W [] := Go.Q.good_of ⟨hsh, Lib.tabIs_of_head (g := ((Tryz.prog).globalNamed "internal/strconv.uint64pow10").getD 0) (t := (((Tryz.prog).globals[((Tryz.prog).globalNamed "internal/strconv.uint64pow10").getD 0]?).map (·.type)).getD 0) (e := 179) (n := 20) (by kernel_rfl) (by kernel_rfl) (by kernel_rfl) (by kernel_rfl) (by kernel_rfl) (by kernel_rfl) (laid_one "internal/strconv.uint64pow10" (x := ("internal/strconv.uint64pow10", Lib.tabData .u64 Lib.pow10Tab)) hX (by kernel_rfl)), trivial⟩
 have hval : ∀ (j : Nat) t v, Tryz.f3.params[j]? = some t → args[j]? = some v → Value.okWide Tryz.prog W .any base t v := hval0
 have hW' := hW
 obtain ⟨p, q, hA0, hV, rfl, hfz, hnd⟩ := hW
 have hA : DataW.TrodAll enc Tryz.prog W 0 (fun _ => true) true Tryz.f3.params.toList args.toList ds p := hA0
 rw [Tryz.params3] at hA hval
 obtain ⟨v0, vs0, d0, ds0, p0, q0, hargs, rfl, rfl, h0, r0⟩ := trodAll_cons hA
 obtain ⟨rfl, rfl, rfl⟩ := trodAll_nil r0
 obtain rfl : args = #[v0] := by cases args; simp_all
 obtain ⟨rfl, rfl⟩ := trodVars_none hV
 obtain ⟨a0, len0, cap0, rfl⟩ := okWide_slice Tryz.underlying22 (hval 0 22 v0 rfl rfl)
 have k0 := h0
 have lt0 : ∀ x ∈ p0, x.block < W.heap.size := by obtain ⟨m, hm⟩ := k0; exact DataW.trod_lt m _ _ _ hm
 obtain ⟨x0, F0, hs0⟩ := OpensT.vl opensByteS h0
 clear hA0 hval0
 refine ((lawFnDeltas _ (fin_range x0)).2 W _ _ hgood ⟨_, _, _, _, rfl, (show V0r false W (.one _) _ _ from C_fin (Cs_one_inv hs0)), ⟨rfl, rfl⟩, rfl⟩).mono fun e W' ⟨v, F, he, hv, _, _, bel⟩ => ?_
 have hv2 : v = .bool true := by unfold Vr V0r C at hv; exact hv.1
 subst hv2
 subst he
 exact ⟨_, rfl, _, _, _, [], _, [], hW', trodAll_mk1 (shut_bool Tryz.underlying4 _), (trodAll_cons_mk (Below.trod laidOutFnDeltas (by kernel_rfl) (of_decide_eq_true (by kernel_rfl)) k0 bel lt0) trodAll_mk0), rfl, Below.frame bel _, fun h => by cases h⟩
theorem jfa : (Rows.fnDeltasRow.inPlace == Tryz.prog.inPlace 3) = true := by kernel_rfl
theorem jfb : (Rows.fnDeltasRow.unfollowed == Tryz.prog.unfollowed 3) = true := by kernel_rfl
theorem jfc : (Rows.fnDeltasRow.recurses == Tryz.prog.recurses 3) = true := by kernel_rfl
theorem jfd : (Rows.fnDeltasRow.named == Tryz.prog.varsNamed 3) = true := by kernel_rfl
theorem jfe : mapsRowed Tryz.prog = true := by kernel_rfl
theorem jff : joinedFacts Tryz.prog 3 Tryz.f3 Rows.fnDeltasSpec Rows.fnDeltasRow = true := by
 unfold joinedFacts
 rw [laidOutFnDeltas, jfa, jfb, jfc, jfd, jfe]
 kernel_rfl
set_option maxRecDepth 100000 in
theorem provedFnDeltas : Rows.FnDeltasSaid :=
 OpenClaim.holds_of_wide 3 Tryz.f3 rfl rfl rfl rfl rfl rfl rfl ⟨rfl, rfl, rfl, rfl, rfl⟩ rfl rfl rfl rfl rfl (by kernel_rfl) Tryz.func3 jff
  (of_decide_eq_true (by kernel_rfl)) (by unfold Func.isWrapper; first | (rw [if_pos (by decide +kernel)]; kernel_rfl) | (rw [if_neg (by decide +kernel)]; exact ⟨rfl, rfl⟩))
  (fun os started H enc _ => liftedFnDeltas os started H enc)
theorem cardFnDeltas : Rows.FnDeltasCardSaid :=
 Claim7.holds_tied_plain_at .later [] [.data, .data, .data, .data, .pinned] true (true, "82fb585b56f0825df3b7514f9c1cffea2ab64ae61400bd5a618f11e6dec062eb") true provedFnDeltas (fun _ h => by cases h) (by kernel_rfl) (fun _ h => by cases h) fnDeltas_row_tie rfl ⟨rfl, rfl⟩ (by kernel_rfl) rfl
  (fun f fn hf hfn => by
   obtain rfl : f = 3 := Option.some.inj ((show Tryz.prog.funcNamed "loop.example/g01922/laws.FnDeltas" = some 3 by kernel_rfl).symm.trans hf) |>.symm
   obtain rfl : fn = Tryz.f3 := (Option.some.inj (Tryz.func3.symm.trans hfn)).symm
   exact ⟨by kernel_rfl, fun j t ht => by
    rw [Tryz.params3] at ht
    have hm : t ∈ [22] := by simpa using Array.mem_of_getElem? ht
    have hall : ([22].all fun u => !Tryz.prog.wantsStandIn u) = true := by kernel_rfl
    exact (show Tryz.prog.wantsStandIn t = false by simpa using List.all_eq_true.1 hall t hm)⟩)
  (by kernel_rfl)
#print axioms cardFnDeltas
#print axioms provedFnDeltas
end LFnDeltas
end Go.Proofs.YtbkhopfpejhnlaaGreatDoor
