/- FnExactLineGraph: the law returns true for every input, and its arguments read as they did. No condition. -/
import Derived.Test.YtjnekafkdellkaaRows
import Derived.Test.YtjnekafkdellkaaHA
import Derived.Test.YtjnekafkdellkaaHB
import Derived.Test.YtjnekafkdellkaaHM
import Derived.Test.YtjnekafkdellkaaOpenT
import Derived.Test.YtjnekafkdellkaaB29
set_option linter.unusedVariables false
set_option linter.unusedSimpArgs false
namespace Go.Proofs.Ytjnekafkdellkaa
open Go.RowKit Go.Q Go.D Go.ChangeShapes Go.WideShapes Go.ChangeAt Go.Deep
open Go.ChangeMaps (open_string shut_string)
set_option maxRecDepth 100000 in
set_option maxHeartbeats 1000000 in
theorem lawFnExactLineGraph (aWord : List Int) : FnT Try.prog 3 [.one (.sl 1 (aWord.map cInt))] (.a (.one (.v (.bool true)))) := by
  refine FnT.walk Try.func3 rfl (by kernel_rfl) Try.ntmps3 rfl fun hlen w0 => ?_
  try simp [cPair, cToken, cExpr, cEdge, cGraph, cStep, cWalk, cChange, cBatch, cHistory, cPositions, cAutomaton, cProductStep, cPathAtom, cConjunction, cView, cDelta, cRegistered, cRegistry] at hlen
  clear hlen
  refine AW.seq ?_
  -- region 0
  refine AW.region ?_
  refine AWl.put (R_assign rfl (.no rfl) rfl (.const rfl)) rfl ?_
  refine AWl.nil ?_
  refine AW.seq ?_
  refine AW.seq ?_
  -- region 1
  refine AW.region ?_
  refine AWl.put (R_move rfl (.no rfl) rfl (.tmp rfl fun _ => rfl)) rfl ?_
  refine AWl.put ((by first | exact R_lenm rfl (.no rfl) rfl (.tmp rfl fun _ => rfl) (by first | exact .t | exact .rf rfl | exact .vw | exact .nil) Try.underlying22 | exact R_len rfl (.no rfl) rfl (.tmp rfl fun _ => rfl) (by first | exact .t | exact .rf rfl | exact .vw | exact .nil) Try.underlying22)) rfl ?_
  refine AWl.put (R_gt rfl (.no rfl) rfl (.tmp rfl fun _ => rfl) (.const rfl)) rfl ?_
  refine AWl.nil ?_
  refine AW.cond (.tmp rfl fun _ => rfl) (fun h15 => ?_) (fun h15 => ?_)
  · skip
    try simp at h15
    refine AW.seq ?_
    -- region 2
    refine AW.region ?_
    refine AWl.put (R_assign rfl (.no rfl) rfl (.const rfl)) rfl ?_
    refine AWl.nil ?_
    refine AW.ret ?_
    refine Res.v rfl rfl ?_
    rfl
  · skip
    try simp at h15
    have hz0 : okIntS aWord := by show _ ≤ _; omega
    have hcn0 := cntIntS_nn aWord
    have hco0 := cntIntS_ok (by first | exact (hz0 : okIntS aWord))
    have hbd0 := lineGraph_cnt aWord
    have hbd1 := cpGraph_nn (lineGraph aWord).1
    refine AW.skip ?_
    refine AW.seq ?_
    -- region 3
    refine AW.region ?_
    refine AWl.put (R_move rfl (.no rfl) rfl (.tmp rfl fun _ => rfl)) rfl ?_
    refine AWl.adds (R_call 1800 (HtoIntS _ (by first | exact hz0)) rfl rfl rfl (.cons (.tmp rfl fun _ => rfl) rfl .nil) rfl rfl) rfl ?_
    refine AWl.put (R_callz (FnT.fr (specLineGraph _)) rfl (.no rfl) rfl (.cons (.tmp rfl fun _ => rfl) rfl .nil)) rfl ?_
    refine AWl.put (R_movet rfl (.no rfl) rfl rfl fun _ => rfl) rfl ?_
    refine AWl.put (R_extract rfl (.no rfl) rfl rfl (fun _ => rfl) rfl) rfl ?_
    refine AWl.put (R_extract rfl (.no rfl) rfl rfl (fun _ => rfl) rfl) rfl ?_
    refine AWl.add (R_alloc 3 rfl rfl rfl in25 rfl rfl rfl) rfl ?_
    refine AWl.chgb (R_store_pb rfl rfl rfl (.tmp rfl fun _ => rfl) (.tmp rfl fun _ => rfl) rfl ty25 rfl rfl rfl (by kernel_rfl) rfl) ?_
    refine AWl.put (R_assign rfl (.no rfl) rfl (.tmp rfl fun _ => rfl)) rfl ?_
    refine AWl.nil ?_
    refine AW.seq ?_
    -- region 4
    refine AW.region ?_
    refine AWl.put (R_move rfl (.no rfl) rfl (.tmp rfl fun _ => rfl)) rfl ?_
    refine AWl.adds (R_call 2300 (HtoIntS _ (by first | exact hz0)) rfl rfl rfl (.cons (.tmp rfl fun _ => rfl) rfl .nil) rfl rfl) rfl ?_
    refine AWl.put (R_assign rfl (.no rfl) rfl (.tmp rfl fun _ => rfl)) rfl ?_
    refine AWl.nil ?_
    refine AW.seq ?_
    -- region 5
    refine AW.region ?_
    refine AWl.put (R_move rfl (.no rfl) rfl (.tmp rfl fun _ => rfl)) rfl ?_
    refine AWl.adds (R_call 2600 (implLineGraph _) rfl rfl rfl (.cons (.tmp rfl fun _ => rfl) rfl .nil) rfl rfl) rfl ?_
    refine AWl.put (R_movet rfl (.no rfl) rfl rfl fun _ => rfl) rfl ?_
    refine AWl.put (R_extract rfl (.no rfl) rfl rfl (fun _ => rfl) rfl) rfl ?_
    refine AWl.put (R_extract rfl (.no rfl) rfl rfl (fun _ => rfl) rfl) rfl ?_
    refine AWl.add (R_alloc 6 rfl rfl rfl in25 rfl rfl rfl) rfl ?_
    refine AWl.chgb (R_store_pb rfl rfl rfl (.tmp rfl fun _ => rfl) (.tmp rfl fun _ => rfl) rfl ty25 rfl rfl rfl (by kernel_rfl) rfl) ?_
    refine AWl.put (R_assign rfl (.no rfl) rfl (.tmp rfl fun _ => rfl)) rfl ?_
    refine AWl.nil ?_
    refine AW.seq ?_
    refine AW.seq ?_
    -- region 6
    refine AW.region ?_
    refine AWl.put ((by first | exact R_load rfl (.no rfl) rfl (.tmp rfl fun _ => rfl) ty25 rfl rfl | exact R_load_pp rfl (.no rfl) rfl (.tmp rfl fun _ => rfl) rfl ty25 rfl rfl | exact R_load_vw rfl (.no rfl) rfl (.tmp rfl fun _ => rfl) ty25 rfl rfl | exact R_load_pr rfl (.no rfl) rfl (.tmp rfl fun _ => rfl) rfl (by first | assumption | exact map_get (by assumption)) ty25 rfl rfl)) rfl ?_
    refine AWl.put ((by first | exact R_load rfl (.no rfl) rfl (.tmp rfl fun _ => rfl) ty25 rfl rfl | exact R_load_pp rfl (.no rfl) rfl (.tmp rfl fun _ => rfl) rfl ty25 rfl rfl | exact R_load_vw rfl (.no rfl) rfl (.tmp rfl fun _ => rfl) ty25 rfl rfl | exact R_load_pr rfl (.no rfl) rfl (.tmp rfl fun _ => rfl) rfl (by first | assumption | exact map_get (by assumption)) ty25 rfl rfl)) rfl ?_
    refine AWl.put (R_callz (FnT.fr (HeqGraph _)) rfl (.no rfl) rfl (.cons (.tmp rfl fun _ => rfl) rfl (.cons (.tmp rfl fun _ => rfl) rfl .nil))) rfl ?_
    refine AWl.put (R_not rfl (.no rfl) rfl (.tmp rfl fun _ => rfl)) rfl ?_
    refine AWl.put (R_move rfl (.no rfl) rfl (.tmp rfl fun _ => rfl)) rfl ?_
    refine AWl.put (R_move rfl (by first | exact .not1 rfl rfl rfl rfl | exact .not rfl rfl rfl rfl) rfl (.tmp rfl (by first | exact fun _ => rfl | exact id | simp))) rfl ?_
    refine AWl.put (R_move rfl (by first | exact .not1 rfl rfl rfl rfl | exact .not rfl rfl rfl rfl) rfl (.tmp rfl (by first | exact fun _ => rfl | exact id | simp))) rfl ?_
    refine AWl.put (R_neb rfl (by first | exact .not1 rfl rfl rfl rfl | exact .not rfl rfl rfl rfl) rfl (.tmp rfl (by first | exact fun _ => rfl | exact id | simp)) (.tmp rfl (by first | exact fun _ => rfl | exact id | simp)) Try.underlying4) rfl ?_
    refine AWl.put (R_or rfl (.no rfl) rfl (.tmp rfl fun _ => rfl) (.tmp rfl (by first | exact fun _ => rfl | exact id | simp))) rfl ?_
    refine AWl.nil ?_
    refine AW.cond (.tmp rfl fun _ => rfl) (fun h37 => ?_) (fun h37 => ?_)
    · (exfalso; revert h37; simp; try omega)
    · skip
      try simp at h37
      refine AW.skip ?_
      refine AW.seq ?_
      refine AW.seq ?_
      -- region 8
      refine AW.region ?_
      refine AWl.put (R_move rfl (.no rfl) rfl (.tmp rfl fun _ => rfl)) rfl ?_
      refine AWl.put (R_move rfl (.no rfl) rfl (.tmp rfl fun _ => rfl)) rfl ?_
      refine AWl.adds (R_call 4000 (HtoIntS _ (by first | exact hz0)) rfl rfl rfl (.cons (.tmp rfl fun _ => rfl) rfl .nil) rfl rfl) rfl ?_
      refine AWl.put (R_callz (FnT.fr (HeqIntS _)) rfl (.no rfl) rfl (.cons (.tmp rfl fun _ => rfl) rfl (.cons (.tmp rfl fun _ => rfl) rfl .nil))) rfl ?_
      refine AWl.put (R_not rfl (.no rfl) rfl (.tmp rfl fun _ => rfl)) rfl ?_
      refine AWl.nil ?_
      refine AW.cond (.tmp rfl fun _ => rfl) (fun h42 => ?_) (fun h42 => ?_)
      · (exfalso; revert h42; simp; try omega)
      · skip
        try simp at h42
        refine AW.skip ?_
        refine AW.seq ?_
        -- region 10
        refine AW.region ?_
        refine AWl.put (R_assign rfl (.no rfl) rfl (.const rfl)) rfl ?_
        refine AWl.nil ?_
        refine AW.seq ?_
        -- region 11
        refine AW.region ?_
        refine AWl.put (R_move rfl (.no rfl) rfl (.tmp rfl fun _ => rfl)) rfl ?_
        refine AWl.put (R_move rfl (.no rfl) rfl (.tmp rfl fun _ => rfl)) rfl ?_
        refine AWl.marks (R_markc rfl rfl rfl (.tmp rfl fun _ => rfl) (.tmp rfl fun _ => rfl) (MmarkIntS _ _ (by omega)) (.rf rfl rfl .nil) rfl rfl) rfl ?_
        refine AWl.put (R_assign rfl (.no rfl) rfl (.tmp rfl fun _ => rfl)) rfl ?_
        refine AWl.nil ?_
        refine AW.seq ?_
        refine AW.seq ?_
        -- region 12
        refine AW.region ?_
        refine AWl.put (R_move rfl (.no rfl) rfl (.tmp rfl fun _ => rfl)) rfl ?_
        refine AWl.put (R_lt rfl (.no rfl) rfl (.tmp rfl fun _ => rfl) (.const rfl)) rfl ?_
        refine AWl.put (R_move rfl (.no rfl) rfl (.tmp rfl fun _ => rfl)) rfl ?_
        refine AWl.put ((by first | exact R_load rfl (by first | exact .not1 rfl rfl rfl rfl | exact .not rfl rfl rfl rfl) rfl (.tmp rfl (by first | exact fun _ => rfl | exact id | simp)) ty25 rfl rfl | exact R_load_pp rfl (by first | exact .not1 rfl rfl rfl rfl | exact .not rfl rfl rfl rfl) rfl (.tmp rfl (by first | exact fun _ => rfl | exact id | simp)) rfl ty25 rfl rfl | exact R_load_vw rfl (by first | exact .not1 rfl rfl rfl rfl | exact .not rfl rfl rfl rfl) rfl (.tmp rfl (by first | exact fun _ => rfl | exact id | simp)) ty25 rfl rfl | exact R_load_pr rfl (by first | exact .not1 rfl rfl rfl rfl | exact .not rfl rfl rfl rfl) rfl (.tmp rfl (by first | exact fun _ => rfl | exact id | simp)) rfl (by first | assumption | exact map_get (by assumption)) ty25 rfl rfl)) rfl ?_
        refine AWl.put ((by first | exact R_load rfl (by first | exact .not1 rfl rfl rfl rfl | exact .not rfl rfl rfl rfl) rfl (.tmp rfl (by first | exact fun _ => rfl | exact id | simp)) ty25 rfl rfl | exact R_load_pp rfl (by first | exact .not1 rfl rfl rfl rfl | exact .not rfl rfl rfl rfl) rfl (.tmp rfl (by first | exact fun _ => rfl | exact id | simp)) rfl ty25 rfl rfl | exact R_load_vw rfl (by first | exact .not1 rfl rfl rfl rfl | exact .not rfl rfl rfl rfl) rfl (.tmp rfl (by first | exact fun _ => rfl | exact id | simp)) ty25 rfl rfl | exact R_load_pr rfl (by first | exact .not1 rfl rfl rfl rfl | exact .not rfl rfl rfl rfl) rfl (.tmp rfl (by first | exact fun _ => rfl | exact id | simp)) rfl (by first | assumption | exact map_get (by assumption)) ty25 rfl rfl)) rfl ?_
        refine AWl.put (R_callz (FnT.fr (HeqGraph _)) rfl (by first | exact .not1 rfl rfl rfl rfl | exact .not rfl rfl rfl rfl) rfl (.cons (.tmp rfl (by first | exact fun _ => rfl | exact id | simp)) rfl (.cons (.tmp rfl (by first | exact fun _ => rfl | exact id | simp)) rfl .nil))) rfl ?_
        refine AWl.put (R_not rfl (by first | exact .not1 rfl rfl rfl rfl | exact .not rfl rfl rfl rfl) rfl (.tmp rfl (by first | exact fun _ => rfl | exact id | simp))) rfl ?_
        refine AWl.put (R_or rfl (.no rfl) rfl (.tmp rfl fun _ => rfl) (.tmp rfl (by first | exact fun _ => rfl | exact id | simp))) rfl ?_
        refine AWl.put (R_move rfl (.no rfl) rfl (.tmp rfl fun _ => rfl)) rfl ?_
        refine AWl.put (R_move rfl (by first | exact .not1 rfl rfl rfl rfl | exact .not rfl rfl rfl rfl) rfl (.tmp rfl (by first | exact fun _ => rfl | exact id | simp))) rfl ?_
        refine AWl.put (R_move rfl (by first | exact .not1 rfl rfl rfl rfl | exact .not rfl rfl rfl rfl) rfl (.tmp rfl (by first | exact fun _ => rfl | exact id | simp))) rfl ?_
        refine AWl.put (R_neb rfl (by first | exact .not1 rfl rfl rfl rfl | exact .not rfl rfl rfl rfl) rfl (.tmp rfl (by first | exact fun _ => rfl | exact id | simp)) (.tmp rfl (by first | exact fun _ => rfl | exact id | simp)) Try.underlying4) rfl ?_
        refine AWl.put (R_or rfl (.no rfl) rfl (.tmp rfl fun _ => rfl) (.tmp rfl (by first | exact fun _ => rfl | exact id | simp))) rfl ?_
        refine AWl.nil ?_
        refine AW.cond (.tmp rfl fun _ => rfl) (fun h58 => ?_) (fun h58 => ?_)
        · (exfalso; revert h58; simp; try omega)
        · skip
          try simp at h58
          refine AW.skip ?_
          refine AW.seq ?_
          -- region 14
          refine AW.region ?_
          refine AWl.put (R_assign rfl (.no rfl) rfl (.const rfl)) rfl ?_
          refine AWl.nil ?_
          refine AW.seq ?_
          -- region 15
          refine AW.region ?_
          refine AWl.put ((by first | exact R_load rfl (.no rfl) rfl (.tmp rfl fun _ => rfl) ty25 rfl rfl | exact R_load_pp rfl (.no rfl) rfl (.tmp rfl fun _ => rfl) rfl ty25 rfl rfl | exact R_load_vw rfl (.no rfl) rfl (.tmp rfl fun _ => rfl) ty25 rfl rfl | exact R_load_pr rfl (.no rfl) rfl (.tmp rfl fun _ => rfl) rfl (by first | assumption | exact map_get (by assumption)) ty25 rfl rfl)) rfl ?_
          refine AWl.put (R_move rfl (.no rfl) rfl (.tmp rfl fun _ => rfl)) rfl ?_
          refine AWl.marks (R_markc rfl rfl rfl (.tmp rfl fun _ => rfl) (.tmp rfl fun _ => rfl) (MmarkGraph _ _ (by omega)) (.rf rfl rfl (.rf rfl rfl .nil)) rfl rfl) rfl ?_
          refine AWl.put (R_assign rfl (.no rfl) rfl (.tmp rfl fun _ => rfl)) rfl ?_
          refine AWl.nil ?_
          refine AW.seq ?_
          -- region 16
          refine AW.region ?_
          refine AWl.put (R_assign rfl (.no rfl) rfl (.const rfl)) rfl ?_
          refine AWl.nil ?_
          refine AW.seq ?_
          -- region 17
          refine AW.region ?_
          refine AWl.put ((by first | exact R_load rfl (.no rfl) rfl (.tmp rfl fun _ => rfl) ty25 rfl rfl | exact R_load_pp rfl (.no rfl) rfl (.tmp rfl fun _ => rfl) rfl ty25 rfl rfl | exact R_load_vw rfl (.no rfl) rfl (.tmp rfl fun _ => rfl) ty25 rfl rfl | exact R_load_pr rfl (.no rfl) rfl (.tmp rfl fun _ => rfl) rfl (by first | assumption | exact map_get (by assumption)) ty25 rfl rfl)) rfl ?_
          refine AWl.put (R_move rfl (.no rfl) rfl (.tmp rfl fun _ => rfl)) rfl ?_
          refine AWl.put (R_callz (FnT.fr (MheldGraph _ _ (by omega))) rfl (.no rfl) rfl (.cons (.tmp rfl fun _ => rfl) rfl (.cons (.tmp rfl fun _ => rfl) rfl .nil))) rfl ?_
          refine AWl.put (R_assign rfl (.no rfl) rfl (.tmp rfl fun _ => rfl)) rfl ?_
          refine AWl.nil ?_
          refine AW.seq ?_
          refine AW.seq ?_
          -- region 18
          refine AW.region ?_
          refine AWl.put (R_move rfl (.no rfl) rfl (.tmp rfl fun _ => rfl)) rfl ?_
          refine AWl.put (R_lt rfl (.no rfl) rfl (.tmp rfl fun _ => rfl) (.const rfl)) rfl ?_
          refine AWl.nil ?_
          refine AW.cond (.tmp rfl fun _ => rfl) (fun h66 => ?_) (fun h66 => ?_)
          · (exfalso; revert h66; simp; try omega)
          · skip
            try simp at h66
            refine AW.skip ?_
            refine AW.seq ?_
            refine AW.seq ?_
            -- region 20
            refine AW.region ?_
            refine AWl.put (R_move rfl (.no rfl) rfl (.tmp rfl fun _ => rfl)) rfl ?_
            refine AWl.put (R_move rfl (.no rfl) rfl (.tmp rfl fun _ => rfl)) rfl ?_
            refine AWl.put (R_ne rfl (.no rfl) rfl (.tmp rfl fun _ => rfl) (.tmp rfl fun _ => rfl)) rfl ?_
            refine AWl.nil ?_
            refine AW.cond (.tmp rfl fun _ => rfl) (fun h69 => ?_) (fun h69 => ?_)
            · (exfalso; revert h69; simp; try omega)
            · skip
              try simp at h69
              refine AW.skip ?_
              refine AW.seq ?_
              -- region 22
              refine AW.region ?_
              refine AWl.put (R_move rfl (.no rfl) rfl (.tmp rfl fun _ => rfl)) rfl ?_
              refine AWl.adds (R_call 7200 (HtoIntS _ (by first | exact hz0)) rfl rfl rfl (.cons (.tmp rfl fun _ => rfl) rfl .nil) rfl rfl) rfl ?_
              refine AWl.adds (R_call 7300 (implLineGraph _) rfl rfl rfl (.cons (.tmp rfl fun _ => rfl) rfl .nil) rfl rfl) rfl ?_
              refine AWl.put (R_movet rfl (.no rfl) rfl rfl fun _ => rfl) rfl ?_
              refine AWl.put (R_extract rfl (.no rfl) rfl rfl (fun _ => rfl) rfl) rfl ?_
              refine AWl.put (R_extract rfl (.no rfl) rfl rfl (fun _ => rfl) rfl) rfl ?_
              refine AWl.add (R_alloc 11 rfl rfl rfl in25 rfl rfl rfl) rfl ?_
              refine AWl.chgb (R_store_pb rfl rfl rfl (.tmp rfl fun _ => rfl) (.tmp rfl fun _ => rfl) rfl ty25 rfl rfl rfl (by kernel_rfl) rfl) ?_
              refine AWl.put (R_assign rfl (.no rfl) rfl (.tmp rfl fun _ => rfl)) rfl ?_
              refine AWl.nil ?_
              refine AW.seq ?_
              refine AW.seq ?_
              -- region 23
              refine AW.region ?_
              refine AWl.put ((by first | exact R_load rfl (.no rfl) rfl (.tmp rfl fun _ => rfl) ty25 rfl rfl | exact R_load_pp rfl (.no rfl) rfl (.tmp rfl fun _ => rfl) rfl ty25 rfl rfl | exact R_load_vw rfl (.no rfl) rfl (.tmp rfl fun _ => rfl) ty25 rfl rfl | exact R_load_pr rfl (.no rfl) rfl (.tmp rfl fun _ => rfl) rfl (by first | assumption | exact map_get (by assumption)) ty25 rfl rfl)) rfl ?_
              refine AWl.put ((by first | exact R_load rfl (.no rfl) rfl (.tmp rfl fun _ => rfl) ty25 rfl rfl | exact R_load_pp rfl (.no rfl) rfl (.tmp rfl fun _ => rfl) rfl ty25 rfl rfl | exact R_load_vw rfl (.no rfl) rfl (.tmp rfl fun _ => rfl) ty25 rfl rfl | exact R_load_pr rfl (.no rfl) rfl (.tmp rfl fun _ => rfl) rfl (by first | assumption | exact map_get (by assumption)) ty25 rfl rfl)) rfl ?_
              refine AWl.put (R_callz (FnT.fr (HeqGraph _)) rfl (.no rfl) rfl (.cons (.tmp rfl fun _ => rfl) rfl (.cons (.tmp rfl fun _ => rfl) rfl .nil))) rfl ?_
              refine AWl.put (R_not rfl (.no rfl) rfl (.tmp rfl fun _ => rfl)) rfl ?_
              refine AWl.put (R_move rfl (.no rfl) rfl (.tmp rfl fun _ => rfl)) rfl ?_
              refine AWl.put (R_move rfl (by first | exact .not1 rfl rfl rfl rfl | exact .not rfl rfl rfl rfl) rfl (.tmp rfl (by first | exact fun _ => rfl | exact id | simp))) rfl ?_
              refine AWl.put (R_move rfl (by first | exact .not1 rfl rfl rfl rfl | exact .not rfl rfl rfl rfl) rfl (.tmp rfl (by first | exact fun _ => rfl | exact id | simp))) rfl ?_
              refine AWl.put (R_neb rfl (by first | exact .not1 rfl rfl rfl rfl | exact .not rfl rfl rfl rfl) rfl (.tmp rfl (by first | exact fun _ => rfl | exact id | simp)) (.tmp rfl (by first | exact fun _ => rfl | exact id | simp)) Try.underlying4) rfl ?_
              refine AWl.put (R_or rfl (.no rfl) rfl (.tmp rfl fun _ => rfl) (.tmp rfl (by first | exact fun _ => rfl | exact id | simp))) rfl ?_
              refine AWl.nil ?_
              refine AW.cond (.tmp rfl fun _ => rfl) (fun h84 => ?_) (fun h84 => ?_)
              · (exfalso; revert h84; simp; try omega)
              · skip
                try simp at h84
                refine AW.skip ?_
                refine AW.seq ?_
                -- region 25
                refine AW.region ?_
                refine AWl.put (R_assign rfl (.no rfl) rfl (.const rfl)) rfl ?_
                refine AWl.nil ?_
                refine AW.seq ?_
                -- region 26
                refine AW.region ?_
                refine AWl.put ((by first | exact R_load rfl (.no rfl) rfl (.tmp rfl fun _ => rfl) ty25 rfl rfl | exact R_load_pp rfl (.no rfl) rfl (.tmp rfl fun _ => rfl) rfl ty25 rfl rfl | exact R_load_vw rfl (.no rfl) rfl (.tmp rfl fun _ => rfl) ty25 rfl rfl | exact R_load_pr rfl (.no rfl) rfl (.tmp rfl fun _ => rfl) rfl (by first | assumption | exact map_get (by assumption)) ty25 rfl rfl)) rfl ?_
                refine AWl.put (R_move rfl (.no rfl) rfl (.tmp rfl fun _ => rfl)) rfl ?_
                refine AWl.put (R_callz (FnT.fr (MheldGraph _ _ (by omega))) rfl (.no rfl) rfl (.cons (.tmp rfl fun _ => rfl) rfl (.cons (.tmp rfl fun _ => rfl) rfl .nil))) rfl ?_
                refine AWl.put (R_assign rfl (.no rfl) rfl (.tmp rfl fun _ => rfl)) rfl ?_
                refine AWl.nil ?_
                refine AW.seq ?_
                refine AW.seq ?_
                -- region 27
                refine AW.region ?_
                refine AWl.put (R_move rfl (.no rfl) rfl (.tmp rfl fun _ => rfl)) rfl ?_
                refine AWl.put (R_lt rfl (.no rfl) rfl (.tmp rfl fun _ => rfl) (.const rfl)) rfl ?_
                refine AWl.nil ?_
                refine AW.cond (.tmp rfl fun _ => rfl) (fun h89 => ?_) (fun h89 => ?_)
                · (exfalso; revert h89; simp; try omega)
                · skip
                  try simp at h89
                  refine AW.skip ?_
                  refine AW.seq ?_
                  refine AW.seq ?_
                  -- region 29
                  refine AW.region ?_
                  refine AWl.put (R_move rfl (.no rfl) rfl (.tmp rfl fun _ => rfl)) rfl ?_
                  refine AWl.put (R_move rfl (.no rfl) rfl (.tmp rfl fun _ => rfl)) rfl ?_
                  refine AWl.put (R_ne rfl (.no rfl) rfl (.tmp rfl fun _ => rfl) (.tmp rfl fun _ => rfl)) rfl ?_
                  refine AWl.nil ?_
                  refine AW.cond (.tmp rfl fun _ => rfl) (fun h92 => ?_) (fun h92 => ?_)
                  · (exfalso; revert h92; simp; try omega)
                  · skip
                    try simp at h92
                    refine AW.skip ?_
                    refine AW.seq ?_
                    -- region 31
                    refine AW.region ?_
                    refine AWl.put (R_assign rfl (.no rfl) rfl (.const rfl)) rfl ?_
                    refine AWl.nil ?_
                    refine AW.ret ?_
                    refine Res.v rfl rfl ?_
                    rfl
namespace LFnExactLineGraph
theorem opensInt : OpensT cInt Try.prog 3 := opensTInt Try.underlying3
theorem opensIntS : OpensT cIntS Try.prog 22 := opensTSlice (c := cInt) Try.underlying22 (by kernel_rfl) (by decide) (fun _ => rfl) opensInt
theorem ownFnExactLineGraph : ownKnob Try.prog.godebug = none := by kernel_rfl
theorem laidOutFnExactLineGraph : laidOutB Try.prog = true := by kernel_rfl
set_option maxRecDepth 100000 in
theorem liftedFnExactLineGraph (os : Os) (started : os.Started) (H : Type) (enc : TypeId × Value → H) :
    ReturnsInHanded {} Try.checked os 3 .any (Rows.fnExactLineGraphSpec.pre6 enc Try.prog Try.f3 Rows.fnExactLineGraphRow.domain false) (Rows.fnExactLineGraphSpec.post enc Try.prog Try.f3 false true false false) := by
  refine returnsInHanded_of_change (C := Try.checked) ownFnExactLineGraph started (by kernel_rfl) Try.func3
    (ChangeSpec.witness6 (enc := enc) (C := Try.checked) false ⟨#[], #[.slice none 0 0], []⟩ 8 (by kernel_rfl) (by kernel_rfl) (by kernel_rfl) (by kernel_rfl)) ?_
  intro W base args ds gs before hval0 hW hcnd _
  have hval : ∀ (j : Nat) t v, Try.f3.params[j]? = some t → args[j]? = some v → Value.okWide Try.prog W .any base t v := hval0
  have hW' := hW
  obtain ⟨p, q, hA0, hV, rfl, hfz, hnd⟩ := hW
  have hA : DataW.TrodAll enc Try.prog W 0 (fun _ => true) true Try.f3.params.toList args.toList ds p := hA0
  rw [Try.params3] at hA hval
  obtain ⟨v0, vs0, d0, ds0, p0, q0, hargs, rfl, rfl, h0, r0⟩ := trodAll_cons hA
  obtain ⟨rfl, rfl, rfl⟩ := trodAll_nil r0
  obtain rfl : args = #[v0] := by cases args; simp_all
  obtain ⟨rfl, rfl⟩ := trodVars_none hV
  obtain ⟨a0, len0, cap0, rfl⟩ := okWide_slice Try.underlying22 (hval 0 22 v0 rfl rfl)
  have k0 := h0
  have lt0 : ∀ x ∈ p0, x.block < W.heap.size := by obtain ⟨m, hm⟩ := k0; exact DataW.trod_lt m _ _ _ hm
  obtain ⟨x0, F0, hs0⟩ := OpensT.vl opensIntS h0
  clear hA0 hval0
  refine ((lawFnExactLineGraph x0).2 W _ _ ⟨_, _, _, _, rfl, (show V0r false W (.one _) _ _ from Cs_one_inv hs0), ⟨rfl, rfl⟩, rfl⟩).mono fun e W' ⟨v, F, he, hv, _, _, bel⟩ => ?_
  have hv2 : v = .bool true := by unfold Vr V0r C at hv; exact hv.1
  subst hv2
  subst he
  exact ⟨_, rfl, _, _, _, [], _, [], hW', trodAll_mk1 (shut_bool Try.underlying4 _), (trodAll_cons_mk (Below.trod laidOutFnExactLineGraph (by kernel_rfl) (of_decide_eq_true (by kernel_rfl)) k0 bel lt0) trodAll_mk0), rfl, Below.frame bel _, fun h => by cases h⟩
set_option maxRecDepth 100000 in
/-- The statement. -/
theorem provedFnExactLineGraph : Rows.FnExactLineGraphSaid :=
  OpenClaim.holds_of_wide 3 Try.f3 rfl rfl rfl rfl rfl rfl rfl ⟨rfl, rfl, rfl, rfl, rfl⟩ rfl rfl rfl rfl rfl (by kernel_rfl) Try.func3 (by kernel_rfl)
    (of_decide_eq_true (by kernel_rfl)) (by unfold Func.isWrapper; first | (rw [if_pos (by decide +kernel)]; kernel_rfl) | (rw [if_neg (by decide +kernel)]; exact ⟨rfl, rfl⟩))
    (fun os started H enc _ => liftedFnExactLineGraph os started H enc)
#print axioms provedFnExactLineGraph
end LFnExactLineGraph
end Go.Proofs.Ytjnekafkdellkaa
