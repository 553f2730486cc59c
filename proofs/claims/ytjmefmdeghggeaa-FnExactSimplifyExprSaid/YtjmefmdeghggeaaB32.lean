/- Simplified expressions: both texts. -/
import Derived.Test.YtjmefmdeghggeaaB31
import Derived.Test.YtjmefmdeghggeaaAbs16
import Derived.Test.YtjmefmdeghggeaaMD
set_option linter.unusedVariables false
set_option linter.unusedSimpArgs false
set_option maxHeartbeats 1000000
set_option maxRecDepth 100000
namespace Go.Proofs.Ytjmefmdeghggeaa
open Go.RowKit Go.Q Go.D
theorem specl30Repeat (a : TExpr) (lo hi : Int) (hp : 0 < a.Tokens.length) (hz : a.Tokens.length ≤ 4194304) : FnC Try.prog 147 [(true, .agg (cExpr a)), (false, .one (.v (.int .i64 lo))), (false, .one (.v (.int .i64 hi)))] (.a (.agg (cExpr ⟨repS a.Tokens lo hi⟩))) := by
  refine FnC.walk Try.func147 rfl (by kernel_rfl) Try.ntmps147 rfl (by rfl) fun w0 => ?_
  refine AW.le (σ' := ⟨_, [(0, _), (1, _), (2, _)], [(1000, _)]⟩) (Le.sub0 rfl ⟨rfl, rfl, rfl, trivial⟩ ⟨rfl, trivial⟩) ?_
  try simp [cPair, cToken, cExpr, cEdge, cGraph, cStep, cWalk, cChange, cBatch, cHistory, cPositions, cAutomaton, cProductStep, cPathAtom, cConjunction, cView, cDelta, cRegistered, cRegistry] at hlen
  refine AW.seq ?_
  -- region 0
  refine AW.region ?_
  refine AWl.add (R_box 3 rfl rfl rfl (.tmp rfl fun _ => rfl) rfl rfl rfl) rfl ?_
  refine AWl.add (R_alloc 6 rfl rfl rfl in28 rfl rfl rfl) rfl ?_
  refine AWl.nil ?_
  refine AW.seq ?_
  refine AW.seq ?_
  -- region 1
  refine AW.region ?_
  refine AWl.put ((by first | exact R_load rfl (.no rfl) rfl (.tmp rfl fun _ => rfl) ty28 rfl rfl | exact R_load_pp rfl (.no rfl) rfl (.tmp rfl fun _ => rfl) rfl ty28 rfl rfl | exact R_load_vw rfl (.no rfl) rfl (.tmp rfl fun _ => rfl) ty28 rfl rfl | exact R_load_pr rfl (.no rfl) rfl (.tmp rfl fun _ => rfl) rfl (map_get (f := cToken) (getD_at (d := tok0 0) (by omega))) ty28 rfl rfl)) rfl ?_
  refine AWl.put (R_callz (FnT.fr (specl8Is a _)) rfl (.no rfl) rfl (.cons (.tmp rfl fun _ => rfl) rfl (.cons (.const rfl) rfl .nil))) rfl ?_
  refine AWl.put (R_move rfl (.no rfl) rfl (.tmp rfl fun _ => rfl)) rfl ?_
  refine AWl.put ((by first | exact R_fieldAddr rfl (by first | exact .not1 rfl rfl rfl rfl | exact .not rfl rfl rfl rfl) rfl (.tmp rfl (by first | exact fun _ => rfl | exact id | simp)) fl28_0 | exact R_fieldAddr_pp rfl (by first | exact .not1 rfl rfl rfl rfl | exact .not rfl rfl rfl rfl) rfl (.tmp rfl (by first | exact fun _ => rfl | exact id | simp)) fl28_0 | exact R_fieldAddr_vw rfl (by first | exact .not1 rfl rfl rfl rfl | exact .not rfl rfl rfl rfl) rfl (.tmp rfl (by first | exact fun _ => rfl | exact id | simp)) fl28_0 | exact R_fieldAddr_pr rfl (by first | exact .not1 rfl rfl rfl rfl | exact .not rfl rfl rfl rfl) rfl (.tmp rfl (by first | exact fun _ => rfl | exact id | simp)) fl28_0)) rfl ?_
  refine AWl.put ((by first | exact R_load rfl (by first | exact .not1 rfl rfl rfl rfl | exact .not rfl rfl rfl rfl) rfl (.tmp rfl (by first | exact fun _ => rfl | exact id | simp)) ty26 rfl rfl | exact R_load_pp rfl (by first | exact .not1 rfl rfl rfl rfl | exact .not rfl rfl rfl rfl) rfl (.tmp rfl (by first | exact fun _ => rfl | exact id | simp)) rfl ty26 rfl rfl | exact R_load_vw rfl (by first | exact .not1 rfl rfl rfl rfl | exact .not rfl rfl rfl rfl) rfl (.tmp rfl (by first | exact fun _ => rfl | exact id | simp)) ty26 rfl rfl | exact R_load_pr rfl (by first | exact .not1 rfl rfl rfl rfl | exact .not rfl rfl rfl rfl) rfl (.tmp rfl (by first | exact fun _ => rfl | exact id | simp)) rfl (map_get (f := cToken) (getD_at (d := tok0 0) (by omega))) ty26 rfl rfl)) rfl ?_
  refine AWl.put ((by first | exact R_fieldAddr rfl (by first | exact .not1 rfl rfl rfl rfl | exact .not rfl rfl rfl rfl) rfl (.tmp rfl (by first | exact fun _ => rfl | exact id | simp)) fl28_0 | exact R_fieldAddr_pp rfl (by first | exact .not1 rfl rfl rfl rfl | exact .not rfl rfl rfl rfl) rfl (.tmp rfl (by first | exact fun _ => rfl | exact id | simp)) fl28_0 | exact R_fieldAddr_vw rfl (by first | exact .not1 rfl rfl rfl rfl | exact .not rfl rfl rfl rfl) rfl (.tmp rfl (by first | exact fun _ => rfl | exact id | simp)) fl28_0 | exact R_fieldAddr_pr rfl (by first | exact .not1 rfl rfl rfl rfl | exact .not rfl rfl rfl rfl) rfl (.tmp rfl (by first | exact fun _ => rfl | exact id | simp)) fl28_0)) rfl ?_
  refine AWl.put ((by first | exact R_load rfl (by first | exact .not1 rfl rfl rfl rfl | exact .not rfl rfl rfl rfl) rfl (.tmp rfl (by first | exact fun _ => rfl | exact id | simp)) ty26 rfl rfl | exact R_load_pp rfl (by first | exact .not1 rfl rfl rfl rfl | exact .not rfl rfl rfl rfl) rfl (.tmp rfl (by first | exact fun _ => rfl | exact id | simp)) rfl ty26 rfl rfl | exact R_load_vw rfl (by first | exact .not1 rfl rfl rfl rfl | exact .not rfl rfl rfl rfl) rfl (.tmp rfl (by first | exact fun _ => rfl | exact id | simp)) ty26 rfl rfl | exact R_load_pr rfl (by first | exact .not1 rfl rfl rfl rfl | exact .not rfl rfl rfl rfl) rfl (.tmp rfl (by first | exact fun _ => rfl | exact id | simp)) rfl (map_get (f := cToken) (getD_at (d := tok0 0) (by omega))) ty26 rfl rfl)) rfl ?_
  refine AWl.put ((by first | exact R_lenm rfl (by first | exact .not1 rfl rfl rfl rfl | exact .not rfl rfl rfl rfl) rfl (.tmp rfl (by first | exact fun _ => rfl | exact id | simp)) (by first | exact .t | exact .rf rfl | exact .vw | exact .nil) Try.underlying26 | exact R_len rfl (by first | exact .not1 rfl rfl rfl rfl | exact .not rfl rfl rfl rfl) rfl (.tmp rfl (by first | exact fun _ => rfl | exact id | simp)) (by first | exact .t | exact .rf rfl | exact .vw | exact .nil) Try.underlying26)) rfl ?_
  refine AWl.put (R_sub rfl (by first | exact .not1 rfl rfl rfl rfl | exact .not rfl rfl rfl rfl) rfl (.tmp rfl (by first | exact fun _ => rfl | exact id | simp)) (.const rfl) (fun hq => by first | omega | (simp at hq; omega))) rfl ?_
  refine AWl.put ((by first | exact R_indexAddr rfl (by first | exact .not1 rfl rfl rfl rfl | exact .not rfl rfl rfl rfl) rfl (.tmp rfl (by first | exact fun _ => rfl | exact id | simp)) (.tmp rfl (by first | exact fun _ => rfl | exact id | simp)) Try.underlying26 ty165 (fun hq => by (try simp at hq); exact ⟨by omega, (map_get (f := cToken) (getD_at (d := tok0 0) (by omega)))⟩) | exact R_indexAddr_vw rfl (by first | exact .not1 rfl rfl rfl rfl | exact .not rfl rfl rfl rfl) rfl (.tmp rfl (by first | exact fun _ => rfl | exact id | simp)) (.tmp rfl (by first | exact fun _ => rfl | exact id | simp)) Try.underlying26 ty165 (fun hq => by (try simp at hq); exact ⟨by omega, (map_get (f := cToken) (getD_at (d := tok0 0) (by omega)))⟩) | exact R_indexAddr_rf rfl (by first | exact .not1 rfl rfl rfl rfl | exact .not rfl rfl rfl rfl) rfl (.tmp rfl (by first | exact fun _ => rfl | exact id | simp)) rfl (.tmp rfl (by first | exact fun _ => rfl | exact id | simp)) Try.underlying26 ty165 (fun hq => by (try simp at hq); exact ⟨by omega, (map_get (f := cToken) (getD_at (d := tok0 0) (by omega)))⟩))) rfl ?_
  refine AWl.put ((by first | exact R_fieldAddr rfl (by first | exact .not1 rfl rfl rfl rfl | exact .not rfl rfl rfl rfl) rfl (.tmp rfl (by first | exact fun _ => rfl | exact id | simp)) fl165_0 | exact R_fieldAddr_pp rfl (by first | exact .not1 rfl rfl rfl rfl | exact .not rfl rfl rfl rfl) rfl (.tmp rfl (by first | exact fun _ => rfl | exact id | simp)) fl165_0 | exact R_fieldAddr_vw rfl (by first | exact .not1 rfl rfl rfl rfl | exact .not rfl rfl rfl rfl) rfl (.tmp rfl (by first | exact fun _ => rfl | exact id | simp)) fl165_0 | exact R_fieldAddr_pr rfl (by first | exact .not1 rfl rfl rfl rfl | exact .not rfl rfl rfl rfl) rfl (.tmp rfl (by first | exact fun _ => rfl | exact id | simp)) fl165_0)) rfl ?_
  refine AWl.put ((by first | exact R_load rfl (by first | exact .not1 rfl rfl rfl rfl | exact .not rfl rfl rfl rfl) rfl (.tmp rfl (by first | exact fun _ => rfl | exact id | simp)) ty3 rfl rfl | exact R_load_pp rfl (by first | exact .not1 rfl rfl rfl rfl | exact .not rfl rfl rfl rfl) rfl (.tmp rfl (by first | exact fun _ => rfl | exact id | simp)) rfl ty3 rfl rfl | exact R_load_vw rfl (by first | exact .not1 rfl rfl rfl rfl | exact .not rfl rfl rfl rfl) rfl (.tmp rfl (by first | exact fun _ => rfl | exact id | simp)) ty3 rfl rfl | exact R_load_pr rfl (by first | exact .not1 rfl rfl rfl rfl | exact .not rfl rfl rfl rfl) rfl (.tmp rfl (by first | exact fun _ => rfl | exact id | simp)) rfl (map_get (f := cToken) (getD_at (d := tok0 0) (by omega))) ty3 rfl rfl)) rfl ?_
  refine AWl.put (R_eq rfl (by first | exact .not1 rfl rfl rfl rfl | exact .not rfl rfl rfl rfl) rfl (.tmp rfl (by first | exact fun _ => rfl | exact id | simp)) (.const rfl)) rfl ?_
  refine AWl.put (R_or rfl (.no rfl) rfl (.tmp rfl fun _ => rfl) (.tmp rfl (by first | exact fun _ => rfl | exact id | simp))) rfl ?_
  refine AWl.nil ?_
  refine AW.cond (.tmp rfl fun _ => rfl) (fun h20 => ?_) (fun h20 => ?_)
  · skip
    skip
    refine AW.seq ?_
    -- region 2
    refine AW.le (σ' := ⟨_, [(0, _), (1, _), (2, _), (3, _), (6, _)], [(1000, _), (3, _), (6, _)]⟩) (Le.sub0 rfl ⟨rfl, rfl, rfl, rfl, rfl, trivial⟩ ⟨rfl, rfl, rfl, trivial⟩) ?_
    refine AW.region ?_
    refine AWl.put ((by first | exact R_load rfl (.no rfl) rfl (.tmp rfl fun _ => rfl) ty28 rfl rfl | exact R_load_pp rfl (.no rfl) rfl (.tmp rfl fun _ => rfl) rfl ty28 rfl rfl | exact R_load_vw rfl (.no rfl) rfl (.tmp rfl fun _ => rfl) ty28 rfl rfl | exact R_load_pr rfl (.no rfl) rfl (.tmp rfl fun _ => rfl) rfl (map_get (f := cToken) (getD_at (d := tok0 0) (by omega))) ty28 rfl rfl)) rfl ?_
    refine AWl.chgb (R_store_pb rfl rfl rfl (.tmp rfl fun _ => rfl) (.tmp rfl fun _ => rfl) rfl ty28 rfl rfl rfl (by kernel_rfl) rfl) ?_
    refine AWl.nil ?_
    refine AW.ret ?_
    refine Res.one rfl (.cell rfl rfl ty28 rfl rfl .nil) rfl ?_
    unfold repS lastK; rw [if_pos h20]; rfl
  · skip
    skip
    refine AW.skip ?_
    refine AW.seq ?_
    refine AW.seq ?_
    -- region 3
    refine AW.le (σ' := ⟨_, [(0, _), (1, _), (2, _), (3, _), (6, _)], [(1000, _), (3, _), (6, _)]⟩) (Le.sub0 rfl ⟨rfl, rfl, rfl, rfl, rfl, trivial⟩ ⟨rfl, rfl, rfl, trivial⟩) ?_
    refine AW.region ?_
    refine AWl.put ((by first | exact R_load rfl (.no rfl) rfl (.tmp rfl fun _ => rfl) ty28 rfl rfl | exact R_load_pp rfl (.no rfl) rfl (.tmp rfl fun _ => rfl) rfl ty28 rfl rfl | exact R_load_vw rfl (.no rfl) rfl (.tmp rfl fun _ => rfl) ty28 rfl rfl | exact R_load_pr rfl (.no rfl) rfl (.tmp rfl fun _ => rfl) rfl (map_get (f := cToken) (getD_at (d := tok0 0) (by omega))) ty28 rfl rfl)) rfl ?_
    refine AWl.put (R_callz (FnT.fr (specl8Is a _)) rfl (.no rfl) rfl (.cons (.tmp rfl fun _ => rfl) rfl (.cons (.const rfl) rfl .nil))) rfl ?_
    refine AWl.nil ?_
    refine AW.cond (.tmp rfl fun _ => rfl) (fun h23 => ?_) (fun h23 => ?_)
    · skip
      try simp at h23
      refine AW.seq ?_
      refine AW.seq ?_
      -- region 4
      refine AW.region ?_
      refine AWl.put (R_move rfl (.no rfl) rfl (.tmp rfl fun _ => rfl)) rfl ?_
      refine AWl.put (R_eq rfl (.no rfl) rfl (.tmp rfl fun _ => rfl) (.const rfl)) rfl ?_
      refine AWl.nil ?_
      refine AW.cond (.tmp rfl fun _ => rfl) (fun h25 => ?_) (fun h25 => ?_)
      · skip
        try simp at h25
        refine AW.seq ?_
        -- region 5
        refine AW.region ?_
        refine AWl.adds (R_call 2600 (specl8Leaf _) rfl rfl rfl (.cons (.const rfl) rfl .nil) rfl rfl) rfl ?_
        refine AWl.chgb (R_store_pb rfl rfl rfl (.tmp rfl fun _ => rfl) (.tmp rfl fun _ => rfl) rfl ty28 rfl rfl rfl (by kernel_rfl) rfl) ?_
        refine AWl.nil ?_
        refine AW.ret ?_
        refine Res.one rfl (.cell rfl rfl ty28 rfl rfl .nil) rfl ?_
        unfold repS lastK; rw [if_neg (by rw [h20]; simp), if_pos h23, if_pos h25]; rfl
      · skip
        try simp at h25
        refine AW.skip ?_
        refine AW.seq ?_
        -- region 6
        refine AW.region ?_
        refine AWl.put ((by first | exact R_load rfl (.no rfl) rfl (.tmp rfl fun _ => rfl) ty28 rfl rfl | exact R_load_pp rfl (.no rfl) rfl (.tmp rfl fun _ => rfl) rfl ty28 rfl rfl | exact R_load_vw rfl (.no rfl) rfl (.tmp rfl fun _ => rfl) ty28 rfl rfl | exact R_load_pr rfl (.no rfl) rfl (.tmp rfl fun _ => rfl) rfl (map_get (f := cToken) (getD_at (d := tok0 0) (by omega))) ty28 rfl rfl)) rfl ?_
        refine AWl.chgb (R_store_pb rfl rfl rfl (.tmp rfl fun _ => rfl) (.tmp rfl fun _ => rfl) rfl ty28 rfl rfl rfl (by kernel_rfl) rfl) ?_
        refine AWl.nil ?_
        refine AW.ret ?_
        refine Res.one rfl (.cell rfl rfl ty28 rfl rfl .nil) rfl ?_
        unfold repS lastK; rw [if_neg (by rw [h20]; simp), if_pos h23, if_neg h25]; rfl
    · skip
      try simp at h23
      refine AW.skip ?_
      refine AW.seq ?_
      -- region 7
      refine AW.region ?_
      refine AWl.put ((by first | exact R_load rfl (.no rfl) rfl (.tmp rfl fun _ => rfl) ty28 rfl rfl | exact R_load_pp rfl (.no rfl) rfl (.tmp rfl fun _ => rfl) rfl ty28 rfl rfl | exact R_load_vw rfl (.no rfl) rfl (.tmp rfl fun _ => rfl) ty28 rfl rfl | exact R_load_pr rfl (.no rfl) rfl (.tmp rfl fun _ => rfl) rfl (map_get (f := cToken) (getD_at (d := tok0 0) (by omega))) ty28 rfl rfl)) rfl ?_
      refine AWl.put (R_move rfl (.no rfl) rfl (.tmp rfl fun _ => rfl)) rfl ?_
      refine AWl.put (R_move rfl (.no rfl) rfl (.tmp rfl fun _ => rfl)) rfl ?_
      refine AWl.adds (R_call 3100 (specRepeatExpr a lo hi (by omega)) rfl rfl rfl (.cons (.tmp rfl fun _ => rfl) rfl (.cons (.tmp rfl fun _ => rfl) rfl (.cons (.tmp rfl fun _ => rfl) rfl .nil))) rfl rfl) rfl ?_
      refine AWl.chgb (R_store_pb rfl rfl rfl (.tmp rfl fun _ => rfl) (.tmp rfl fun _ => rfl) rfl ty28 rfl rfl rfl (by kernel_rfl) rfl) ?_
      refine AWl.nil ?_
      refine AW.ret ?_
      refine Res.one rfl (.cell rfl rfl ty28 rfl rfl .nil) rfl ?_
      unfold repS lastK; rw [if_neg (by rw [h20]; simp), if_neg (by simp [h23])]; rfl
theorem implsimplify1 (x : Tr) (hg : good x) (hz : (toks x).length ≤ 1048576) (ih : ∀ y ∈ x.kids, FnT Try.prog 81 [.one (.ad (treeCells y))] (.a (.agg (cExpr ⟨simpT y⟩)))) : FnT Try.prog 81 [.one (.ad (treeCells x))] (.a (.agg (cExpr ⟨simpT x⟩))) := by
  refine FnT.walk Try.func81 rfl (by kernel_rfl) Try.ntmps81 rfl fun hlen w0 => ?_
  try simp [cPair, cToken, cExpr, cEdge, cGraph, cStep, cWalk, cChange, cBatch, cHistory, cPositions, cAutomaton, cProductStep, cPathAtom, cConjunction, cView, cDelta, cRegistered, cRegistry] at hlen
  clear hlen; rw [treeCells_eq, simpT_eq]
  refine AW.seq ?_
  -- region 0
  refine AW.region ?_
  refine AWl.add (R_alloc 2 rfl rfl rfl in28 rfl rfl rfl) rfl ?_
  refine AWl.nil ?_
  refine AW.seq ?_
  refine AW.seq ?_
  -- region 1
  refine AW.region ?_
  refine AWl.put (R_move rfl (.no rfl) rfl (.tmp rfl fun _ => rfl)) rfl ?_
  refine AWl.put ((by first | exact R_nilCheck rfl (.no rfl) rfl (.tmp rfl fun _ => rfl) | exact R_nilCheck_pp rfl (.no rfl) rfl (.tmp rfl fun _ => rfl))) rfl ?_
  refine AWl.put ((by first | exact R_fieldAddr rfl (.no rfl) rfl (.tmp rfl fun _ => rfl) fl176_0 | exact R_fieldAddr_pp rfl (.no rfl) rfl (.tmp rfl fun _ => rfl) fl176_0 | exact R_fieldAddr_vw rfl (.no rfl) rfl (.tmp rfl fun _ => rfl) fl176_0 | exact R_fieldAddr_pr rfl (.no rfl) rfl (.tmp rfl fun _ => rfl) fl176_0)) rfl ?_
  refine AWl.put ((by first | exact R_fieldAddr rfl (.no rfl) rfl (.tmp rfl fun _ => rfl) fl165_0 | exact R_fieldAddr_pp rfl (.no rfl) rfl (.tmp rfl fun _ => rfl) fl165_0 | exact R_fieldAddr_vw rfl (.no rfl) rfl (.tmp rfl fun _ => rfl) fl165_0 | exact R_fieldAddr_pr rfl (.no rfl) rfl (.tmp rfl fun _ => rfl) fl165_0)) rfl ?_
  refine AWl.put ((by first | exact R_load rfl (.no rfl) rfl (.tmp rfl fun _ => rfl) ty3 rfl rfl | exact R_load_pp rfl (.no rfl) rfl (.tmp rfl fun _ => rfl) rfl ty3 rfl rfl | exact R_load_vw rfl (.no rfl) rfl (.tmp rfl fun _ => rfl) ty3 rfl rfl | exact R_load_pr rfl (.no rfl) rfl (.tmp rfl fun _ => rfl) rfl (by first | assumption | exact map_get (f := cToken) (getD_at (d := tok0 0) (by omega))) ty3 rfl rfl)) rfl ?_
  refine AWl.nil ?_
  refine AW.block ?_
  refine AW.seq ?_
  -- region 2
  refine AW.region ?_
  refine AWl.put (R_eq rfl (.no rfl) rfl (.tmp rfl fun _ => rfl) (.const rfl)) rfl ?_
  refine AWl.put (R_assign rfl (.no rfl) rfl (.tmp rfl fun _ => rfl)) rfl ?_
  refine AWl.nil ?_
  refine AW.cond (.tmp rfl fun _ => rfl) (fun h9 => ?_) (fun h9 => ?_)
  · skip
    try simp at h9
    obtain ⟨y, z, hk2, hte, hgy, hgz⟩ := kind_two' hg (by omega)
    have hi0 : (x.kids.map cKid)[(0 : Int).toNat]? = some (cKid y) := by rw [hk2]; rfl
    have hi1 : (x.kids.map cKid)[(1 : Int).toNat]? = some (cKid z) := by rw [hk2]; rfl
    have hkn : x.kids.length = 2 := by rw [hk2]; rfl
    have hsy := simpT_len y
    have hsz := simpT_len z
    have hln : (toks x).length = (toks y).length + (toks z).length + 1 := by rw [hte]; simp; omega
    refine AW.seq ?_
    -- region 3
    refine AW.le (σ' := ⟨_, [(0, _), (2, _), (8, _)], [(2, _)]⟩) (Le.sub0 rfl ⟨rfl, rfl, rfl, trivial⟩ ⟨rfl, trivial⟩) ?_
    refine AW.drawn 15 (nthB [[], [0], [0, 1], [0, 1, 2], [0, 1, 2, 3], [0, 1, 2, 3, 4], [0, 1, 2, 3, 4, 5], [], [7], [7, 8], [7, 8, 9], [7, 8, 9, 10], [7, 8, 9, 10, 11], [0, 1, 2, 3, 4, 5, 6, 7, 8, 9, 10, 11, 12], [0, 1, 2, 3, 4, 5, 6, 7, 8, 9, 10, 11, 12, 13]]) (by kernel_rfl) (by kernel_rfl) (by kernel_rfl) ?_
    refine DrawC.step rfl rfl rfl (Loc.of rfl fun σ' hs => R_move rfl (.no rfl) (hd_sup hs rfl) (.tmp (hs.slots _ _ rfl) fun _ => rfl)) ?_
    refine DrawC.step rfl rfl rfl (Loc.of rfl fun σ' hs => (by first | exact R_nilCheck rfl (.no rfl) (hd_sup hs rfl) (.tmp (hs.slots _ _ rfl) fun _ => rfl) | exact R_nilCheck_pp rfl (.no rfl) (hd_sup hs rfl) (.tmp (hs.slots _ _ rfl) fun _ => rfl))) ?_
    refine DrawC.step rfl rfl rfl (Loc.of rfl fun σ' hs => (by first | exact R_fieldAddr rfl (.no rfl) (hd_sup hs rfl) (.tmp (hs.slots _ _ rfl) fun _ => rfl) fl176_1 | exact R_fieldAddr_pp rfl (.no rfl) (hd_sup hs rfl) (.tmp (hs.slots _ _ rfl) fun _ => rfl) fl176_1 | exact R_fieldAddr_vw rfl (.no rfl) (hd_sup hs rfl) (.tmp (hs.slots _ _ rfl) fun _ => rfl) fl176_1 | exact R_fieldAddr_pr rfl (.no rfl) (hd_sup hs rfl) (.tmp (hs.slots _ _ rfl) fun _ => rfl) fl176_1)) ?_
    refine DrawC.step rfl rfl rfl (Loc.of rfl fun σ' hs => (by first | exact R_load rfl (.no rfl) (hd_sup hs rfl) (.tmp (hs.slots _ _ rfl) fun _ => rfl) ty172 rfl rfl | exact R_load_pp rfl (.no rfl) (hd_sup hs rfl) (.tmp (hs.slots _ _ rfl) fun _ => rfl) (hs.res _ _ rfl) ty172 rfl rfl | exact R_load_vw rfl (.no rfl) (hd_sup hs rfl) (.tmp (hs.slots _ _ rfl) fun _ => rfl) ty172 rfl rfl | exact R_load_pr rfl (.no rfl) (hd_sup hs rfl) (.tmp (hs.slots _ _ rfl) fun _ => rfl) (hs.res _ _ rfl) (by first | assumption | exact map_get (f := cToken) (getD_at (d := tok0 0) (by omega))) ty172 rfl rfl)) ?_
    refine DrawC.step rfl rfl rfl (Loc.of rfl fun σ' hs => (by first | exact R_indexAddr rfl (.no rfl) (hd_sup hs rfl) (.tmp (hs.slots _ _ rfl) fun _ => rfl) (.const rfl) Try.underlying172 ty111 (fun _ => ⟨by omega, (by first | assumption | exact map_get (f := cToken) (getD_at (d := tok0 0) (by omega)))⟩) | exact R_indexAddr_vw rfl (.no rfl) (hd_sup hs rfl) (.tmp (hs.slots _ _ rfl) fun _ => rfl) (.const rfl) Try.underlying172 ty111 (fun _ => ⟨by omega, (by first | assumption | exact map_get (f := cToken) (getD_at (d := tok0 0) (by omega)))⟩) | exact R_indexAddr_rf rfl (.no rfl) (hd_sup hs rfl) (.tmp (hs.slots _ _ rfl) fun _ => rfl) (hs.res _ _ rfl) (.const rfl) Try.underlying172 ty111 (fun _ => ⟨by omega, (by first | assumption | exact map_get (f := cToken) (getD_at (d := tok0 0) (by omega)))⟩))) ?_
    refine DrawC.step rfl rfl rfl (Loc.of rfl fun σ' hs => (by first | exact R_load rfl (.no rfl) (hd_sup hs rfl) (.tmp (hs.slots _ _ rfl) fun _ => rfl) ty111 rfl rfl | exact R_load_pp rfl (.no rfl) (hd_sup hs rfl) (.tmp (hs.slots _ _ rfl) fun _ => rfl) (hs.res _ _ rfl) ty111 rfl rfl | exact R_load_vw rfl (.no rfl) (hd_sup hs rfl) (.tmp (hs.slots _ _ rfl) fun _ => rfl) ty111 rfl rfl | exact R_load_pr rfl (.no rfl) (hd_sup hs rfl) (.tmp (hs.slots _ _ rfl) fun _ => rfl) (hs.res _ _ rfl) (by first | assumption | exact map_get (f := cToken) (getD_at (d := tok0 0) (by omega))) ty111 rfl rfl)) ?_
    refine DrawC.step rfl rfl rfl (Loc.of rfl fun σ' hs => R_callz (FnT.fr (ih y (by rw [hk2]; simp))) rfl (.no rfl) (hd_sup hs rfl) (.cons (.tmp (hs.slots _ _ rfl) fun _ => rfl) (readA_sup hs rfl) .nil)) ?_
    refine DrawC.step rfl rfl rfl (Loc.of rfl fun σ' hs => R_move rfl (.no rfl) (hd_sup hs rfl) (.tmp (hs.slots _ _ rfl) fun _ => rfl)) ?_
    refine DrawC.step rfl rfl rfl (Loc.of rfl fun σ' hs => (by first | exact R_nilCheck rfl (.no rfl) (hd_sup hs rfl) (.tmp (hs.slots _ _ rfl) fun _ => rfl) | exact R_nilCheck_pp rfl (.no rfl) (hd_sup hs rfl) (.tmp (hs.slots _ _ rfl) fun _ => rfl))) ?_
    refine DrawC.step rfl rfl rfl (Loc.of rfl fun σ' hs => (by first | exact R_fieldAddr rfl (.no rfl) (hd_sup hs rfl) (.tmp (hs.slots _ _ rfl) fun _ => rfl) fl176_1 | exact R_fieldAddr_pp rfl (.no rfl) (hd_sup hs rfl) (.tmp (hs.slots _ _ rfl) fun _ => rfl) fl176_1 | exact R_fieldAddr_vw rfl (.no rfl) (hd_sup hs rfl) (.tmp (hs.slots _ _ rfl) fun _ => rfl) fl176_1 | exact R_fieldAddr_pr rfl (.no rfl) (hd_sup hs rfl) (.tmp (hs.slots _ _ rfl) fun _ => rfl) fl176_1)) ?_
    refine DrawC.step rfl rfl rfl (Loc.of rfl fun σ' hs => (by first | exact R_load rfl (.no rfl) (hd_sup hs rfl) (.tmp (hs.slots _ _ rfl) fun _ => rfl) ty172 rfl rfl | exact R_load_pp rfl (.no rfl) (hd_sup hs rfl) (.tmp (hs.slots _ _ rfl) fun _ => rfl) (hs.res _ _ rfl) ty172 rfl rfl | exact R_load_vw rfl (.no rfl) (hd_sup hs rfl) (.tmp (hs.slots _ _ rfl) fun _ => rfl) ty172 rfl rfl | exact R_load_pr rfl (.no rfl) (hd_sup hs rfl) (.tmp (hs.slots _ _ rfl) fun _ => rfl) (hs.res _ _ rfl) (by first | assumption | exact map_get (f := cToken) (getD_at (d := tok0 0) (by omega))) ty172 rfl rfl)) ?_
    refine DrawC.step rfl rfl rfl (Loc.of rfl fun σ' hs => (by first | exact R_indexAddr rfl (.no rfl) (hd_sup hs rfl) (.tmp (hs.slots _ _ rfl) fun _ => rfl) (.const rfl) Try.underlying172 ty111 (fun _ => ⟨by omega, (by first | assumption | exact map_get (f := cToken) (getD_at (d := tok0 0) (by omega)))⟩) | exact R_indexAddr_vw rfl (.no rfl) (hd_sup hs rfl) (.tmp (hs.slots _ _ rfl) fun _ => rfl) (.const rfl) Try.underlying172 ty111 (fun _ => ⟨by omega, (by first | assumption | exact map_get (f := cToken) (getD_at (d := tok0 0) (by omega)))⟩) | exact R_indexAddr_rf rfl (.no rfl) (hd_sup hs rfl) (.tmp (hs.slots _ _ rfl) fun _ => rfl) (hs.res _ _ rfl) (.const rfl) Try.underlying172 ty111 (fun _ => ⟨by omega, (by first | assumption | exact map_get (f := cToken) (getD_at (d := tok0 0) (by omega)))⟩))) ?_
    refine DrawC.step rfl rfl rfl (Loc.of rfl fun σ' hs => (by first | exact R_load rfl (.no rfl) (hd_sup hs rfl) (.tmp (hs.slots _ _ rfl) fun _ => rfl) ty111 rfl rfl | exact R_load_pp rfl (.no rfl) (hd_sup hs rfl) (.tmp (hs.slots _ _ rfl) fun _ => rfl) (hs.res _ _ rfl) ty111 rfl rfl | exact R_load_vw rfl (.no rfl) (hd_sup hs rfl) (.tmp (hs.slots _ _ rfl) fun _ => rfl) ty111 rfl rfl | exact R_load_pr rfl (.no rfl) (hd_sup hs rfl) (.tmp (hs.slots _ _ rfl) fun _ => rfl) (hs.res _ _ rfl) (by first | assumption | exact map_get (f := cToken) (getD_at (d := tok0 0) (by omega))) ty111 rfl rfl)) ?_
    refine DrawC.step rfl rfl rfl (Loc.of rfl fun σ' hs => R_callz (FnT.fr (ih z (by rw [hk2]; simp))) rfl (.no rfl) (hd_sup hs rfl) (.cons (.tmp (hs.slots _ _ rfl) fun _ => rfl) (readA_sup hs rfl) .nil)) ?_
    refine DrawC.step rfl rfl rfl (Loc.ofs rfl fun σ' hs hf => R_call 2500 (implConcatExpr ⟨simpT y⟩ ⟨simpT z⟩ (by show _ ≤ _; dsimp only; omega)) rfl rfl (hd_sup hs rfl) (.cons (.tmp (hs.slots _ _ rfl) fun _ => rfl) (readA_sup hs rfl) (.cons (.tmp (hs.slots _ _ rfl) fun _ => rfl) (readA_sup hs rfl) .nil)) rfl (all_fresh hf)) ?_
    refine DrawC.fin rfl rfl ?_
    refine AWl.chgb (R_store_pb rfl rfl rfl (.tmp rfl fun _ => rfl) (.tmp rfl fun _ => rfl) rfl ty28 rfl rfl rfl (by kernel_rfl) rfl) ?_
    refine AWl.nil ?_
    refine AW.ret ?_
    refine Res.one rfl (.cell rfl rfl ty28 rfl rfl .nil) rfl ?_
    rw [hk2]; simp only [List.map, simpG]; rw [if_pos h9]; rfl
  · skip
    try simp at h9
    refine AW.seq ?_
    -- region 4
    refine AW.le (σ' := ⟨_, [(0, _), (2, _), (8, _)], [(2, _)]⟩) (Le.sub0 rfl ⟨rfl, rfl, rfl, trivial⟩ ⟨rfl, trivial⟩) ?_
    refine AW.region ?_
    refine AWl.put (R_eq rfl (.no rfl) rfl (.tmp rfl fun _ => rfl) (.const rfl)) rfl ?_
    refine AWl.put (R_assign rfl (.no rfl) rfl (.tmp rfl fun _ => rfl)) rfl ?_
    refine AWl.nil ?_
    refine AW.cond (.tmp rfl fun _ => rfl) (fun h26 => ?_) (fun h26 => ?_)
    · skip
      try simp at h26
      obtain ⟨y, z, hk2, hte, hgy, hgz⟩ := kind_two' hg (by omega)
      have hi0 : (x.kids.map cKid)[(0 : Int).toNat]? = some (cKid y) := by rw [hk2]; rfl
      have hi1 : (x.kids.map cKid)[(1 : Int).toNat]? = some (cKid z) := by rw [hk2]; rfl
      have hkn : x.kids.length = 2 := by rw [hk2]; rfl
      have hsy := simpT_len y
      have hsz := simpT_len z
      have hln : (toks x).length = (toks y).length + (toks z).length + 1 := by rw [hte]; simp; omega
      refine AW.seq ?_
      -- region 5
      refine AW.drawn 15 (nthB [[], [0], [0, 1], [0, 1, 2], [0, 1, 2, 3], [0, 1, 2, 3, 4], [0, 1, 2, 3, 4, 5], [], [7], [7, 8], [7, 8, 9], [7, 8, 9, 10], [7, 8, 9, 10, 11], [0, 1, 2, 3, 4, 5, 6, 7, 8, 9, 10, 11, 12], [0, 1, 2, 3, 4, 5, 6, 7, 8, 9, 10, 11, 12, 13]]) (by kernel_rfl) (by kernel_rfl) (by kernel_rfl) ?_
      refine DrawC.step rfl rfl rfl (Loc.of rfl fun σ' hs => R_move rfl (.no rfl) (hd_sup hs rfl) (.tmp (hs.slots _ _ rfl) fun _ => rfl)) ?_
      refine DrawC.step rfl rfl rfl (Loc.of rfl fun σ' hs => (by first | exact R_nilCheck rfl (.no rfl) (hd_sup hs rfl) (.tmp (hs.slots _ _ rfl) fun _ => rfl) | exact R_nilCheck_pp rfl (.no rfl) (hd_sup hs rfl) (.tmp (hs.slots _ _ rfl) fun _ => rfl))) ?_
      refine DrawC.step rfl rfl rfl (Loc.of rfl fun σ' hs => (by first | exact R_fieldAddr rfl (.no rfl) (hd_sup hs rfl) (.tmp (hs.slots _ _ rfl) fun _ => rfl) fl176_1 | exact R_fieldAddr_pp rfl (.no rfl) (hd_sup hs rfl) (.tmp (hs.slots _ _ rfl) fun _ => rfl) fl176_1 | exact R_fieldAddr_vw rfl (.no rfl) (hd_sup hs rfl) (.tmp (hs.slots _ _ rfl) fun _ => rfl) fl176_1 | exact R_fieldAddr_pr rfl (.no rfl) (hd_sup hs rfl) (.tmp (hs.slots _ _ rfl) fun _ => rfl) fl176_1)) ?_
      refine DrawC.step rfl rfl rfl (Loc.of rfl fun σ' hs => (by first | exact R_load rfl (.no rfl) (hd_sup hs rfl) (.tmp (hs.slots _ _ rfl) fun _ => rfl) ty172 rfl rfl | exact R_load_pp rfl (.no rfl) (hd_sup hs rfl) (.tmp (hs.slots _ _ rfl) fun _ => rfl) (hs.res _ _ rfl) ty172 rfl rfl | exact R_load_vw rfl (.no rfl) (hd_sup hs rfl) (.tmp (hs.slots _ _ rfl) fun _ => rfl) ty172 rfl rfl | exact R_load_pr rfl (.no rfl) (hd_sup hs rfl) (.tmp (hs.slots _ _ rfl) fun _ => rfl) (hs.res _ _ rfl) (by first | assumption | exact map_get (f := cToken) (getD_at (d := tok0 0) (by omega))) ty172 rfl rfl)) ?_
      refine DrawC.step rfl rfl rfl (Loc.of rfl fun σ' hs => (by first | exact R_indexAddr rfl (.no rfl) (hd_sup hs rfl) (.tmp (hs.slots _ _ rfl) fun _ => rfl) (.const rfl) Try.underlying172 ty111 (fun _ => ⟨by omega, (by first | assumption | exact map_get (f := cToken) (getD_at (d := tok0 0) (by omega)))⟩) | exact R_indexAddr_vw rfl (.no rfl) (hd_sup hs rfl) (.tmp (hs.slots _ _ rfl) fun _ => rfl) (.const rfl) Try.underlying172 ty111 (fun _ => ⟨by omega, (by first | assumption | exact map_get (f := cToken) (getD_at (d := tok0 0) (by omega)))⟩) | exact R_indexAddr_rf rfl (.no rfl) (hd_sup hs rfl) (.tmp (hs.slots _ _ rfl) fun _ => rfl) (hs.res _ _ rfl) (.const rfl) Try.underlying172 ty111 (fun _ => ⟨by omega, (by first | assumption | exact map_get (f := cToken) (getD_at (d := tok0 0) (by omega)))⟩))) ?_
      refine DrawC.step rfl rfl rfl (Loc.of rfl fun σ' hs => (by first | exact R_load rfl (.no rfl) (hd_sup hs rfl) (.tmp (hs.slots _ _ rfl) fun _ => rfl) ty111 rfl rfl | exact R_load_pp rfl (.no rfl) (hd_sup hs rfl) (.tmp (hs.slots _ _ rfl) fun _ => rfl) (hs.res _ _ rfl) ty111 rfl rfl | exact R_load_vw rfl (.no rfl) (hd_sup hs rfl) (.tmp (hs.slots _ _ rfl) fun _ => rfl) ty111 rfl rfl | exact R_load_pr rfl (.no rfl) (hd_sup hs rfl) (.tmp (hs.slots _ _ rfl) fun _ => rfl) (hs.res _ _ rfl) (by first | assumption | exact map_get (f := cToken) (getD_at (d := tok0 0) (by omega))) ty111 rfl rfl)) ?_
      refine DrawC.step rfl rfl rfl (Loc.of rfl fun σ' hs => R_callz (FnT.fr (ih y (by rw [hk2]; simp))) rfl (.no rfl) (hd_sup hs rfl) (.cons (.tmp (hs.slots _ _ rfl) fun _ => rfl) (readA_sup hs rfl) .nil)) ?_
      refine DrawC.step rfl rfl rfl (Loc.of rfl fun σ' hs => R_move rfl (.no rfl) (hd_sup hs rfl) (.tmp (hs.slots _ _ rfl) fun _ => rfl)) ?_
      refine DrawC.step rfl rfl rfl (Loc.of rfl fun σ' hs => (by first | exact R_nilCheck rfl (.no rfl) (hd_sup hs rfl) (.tmp (hs.slots _ _ rfl) fun _ => rfl) | exact R_nilCheck_pp rfl (.no rfl) (hd_sup hs rfl) (.tmp (hs.slots _ _ rfl) fun _ => rfl))) ?_
      refine DrawC.step rfl rfl rfl (Loc.of rfl fun σ' hs => (by first | exact R_fieldAddr rfl (.no rfl) (hd_sup hs rfl) (.tmp (hs.slots _ _ rfl) fun _ => rfl) fl176_1 | exact R_fieldAddr_pp rfl (.no rfl) (hd_sup hs rfl) (.tmp (hs.slots _ _ rfl) fun _ => rfl) fl176_1 | exact R_fieldAddr_vw rfl (.no rfl) (hd_sup hs rfl) (.tmp (hs.slots _ _ rfl) fun _ => rfl) fl176_1 | exact R_fieldAddr_pr rfl (.no rfl) (hd_sup hs rfl) (.tmp (hs.slots _ _ rfl) fun _ => rfl) fl176_1)) ?_
      refine DrawC.step rfl rfl rfl (Loc.of rfl fun σ' hs => (by first | exact R_load rfl (.no rfl) (hd_sup hs rfl) (.tmp (hs.slots _ _ rfl) fun _ => rfl) ty172 rfl rfl | exact R_load_pp rfl (.no rfl) (hd_sup hs rfl) (.tmp (hs.slots _ _ rfl) fun _ => rfl) (hs.res _ _ rfl) ty172 rfl rfl | exact R_load_vw rfl (.no rfl) (hd_sup hs rfl) (.tmp (hs.slots _ _ rfl) fun _ => rfl) ty172 rfl rfl | exact R_load_pr rfl (.no rfl) (hd_sup hs rfl) (.tmp (hs.slots _ _ rfl) fun _ => rfl) (hs.res _ _ rfl) (by first | assumption | exact map_get (f := cToken) (getD_at (d := tok0 0) (by omega))) ty172 rfl rfl)) ?_
      refine DrawC.step rfl rfl rfl (Loc.of rfl fun σ' hs => (by first | exact R_indexAddr rfl (.no rfl) (hd_sup hs rfl) (.tmp (hs.slots _ _ rfl) fun _ => rfl) (.const rfl) Try.underlying172 ty111 (fun _ => ⟨by omega, (by first | assumption | exact map_get (f := cToken) (getD_at (d := tok0 0) (by omega)))⟩) | exact R_indexAddr_vw rfl (.no rfl) (hd_sup hs rfl) (.tmp (hs.slots _ _ rfl) fun _ => rfl) (.const rfl) Try.underlying172 ty111 (fun _ => ⟨by omega, (by first | assumption | exact map_get (f := cToken) (getD_at (d := tok0 0) (by omega)))⟩) | exact R_indexAddr_rf rfl (.no rfl) (hd_sup hs rfl) (.tmp (hs.slots _ _ rfl) fun _ => rfl) (hs.res _ _ rfl) (.const rfl) Try.underlying172 ty111 (fun _ => ⟨by omega, (by first | assumption | exact map_get (f := cToken) (getD_at (d := tok0 0) (by omega)))⟩))) ?_
      refine DrawC.step rfl rfl rfl (Loc.of rfl fun σ' hs => (by first | exact R_load rfl (.no rfl) (hd_sup hs rfl) (.tmp (hs.slots _ _ rfl) fun _ => rfl) ty111 rfl rfl | exact R_load_pp rfl (.no rfl) (hd_sup hs rfl) (.tmp (hs.slots _ _ rfl) fun _ => rfl) (hs.res _ _ rfl) ty111 rfl rfl | exact R_load_vw rfl (.no rfl) (hd_sup hs rfl) (.tmp (hs.slots _ _ rfl) fun _ => rfl) ty111 rfl rfl | exact R_load_pr rfl (.no rfl) (hd_sup hs rfl) (.tmp (hs.slots _ _ rfl) fun _ => rfl) (hs.res _ _ rfl) (by first | assumption | exact map_get (f := cToken) (getD_at (d := tok0 0) (by omega))) ty111 rfl rfl)) ?_
      refine DrawC.step rfl rfl rfl (Loc.of rfl fun σ' hs => R_callz (FnT.fr (ih z (by rw [hk2]; simp))) rfl (.no rfl) (hd_sup hs rfl) (.cons (.tmp (hs.slots _ _ rfl) fun _ => rfl) (readA_sup hs rfl) .nil)) ?_
      refine DrawC.step rfl rfl rfl (Loc.ofs rfl fun σ' hs hf => R_call 4200 (implUnionExpr ⟨simpT y⟩ ⟨simpT z⟩ (by show _ ≤ _; dsimp only; omega)) rfl rfl (hd_sup hs rfl) (.cons (.tmp (hs.slots _ _ rfl) fun _ => rfl) (readA_sup hs rfl) (.cons (.tmp (hs.slots _ _ rfl) fun _ => rfl) (readA_sup hs rfl) .nil)) rfl (all_fresh hf)) ?_
      refine DrawC.fin rfl rfl ?_
      refine AWl.chgb (R_store_pb rfl rfl rfl (.tmp rfl fun _ => rfl) (.tmp rfl fun _ => rfl) rfl ty28 rfl rfl rfl (by kernel_rfl) rfl) ?_
      refine AWl.nil ?_
      refine AW.ret ?_
      refine Res.one rfl (.cell rfl rfl ty28 rfl rfl .nil) rfl ?_
      rw [hk2]; simp only [List.map, simpG]; rw [if_neg (by omega)]; rfl
    · skip
      try simp at h26
      refine AW.seq ?_
      -- region 6
      refine AW.region ?_
      refine AWl.put (R_eq rfl (.no rfl) rfl (.tmp rfl fun _ => rfl) (.const rfl)) rfl ?_
      refine AWl.put (R_assign rfl (.no rfl) rfl (.tmp rfl fun _ => rfl)) rfl ?_
      refine AWl.nil ?_
      refine AW.cond (.tmp rfl fun _ => rfl) (fun h43 => ?_) (fun h43 => ?_)
      · skip
        try simp at h43
        obtain ⟨y, hk2, hte, hgy⟩ := kind_one' hg (by omega)
        have hi0 : (x.kids.map cKid)[(0 : Int).toNat]? = some (cKid y) := by rw [hk2]; rfl
        have hkn : x.kids.length = 1 := by rw [hk2]; rfl
        have hsy := simpT_len y
        have hln : (toks x).length = (toks y).length + 1 := by rw [hte]; simp
        refine AW.seq ?_
        -- region 7
        refine AW.region ?_
        refine AWl.put (R_move rfl (.no rfl) rfl (.tmp rfl fun _ => rfl)) rfl ?_
        refine AWl.put ((by first | exact R_nilCheck rfl (.no rfl) rfl (.tmp rfl fun _ => rfl) | exact R_nilCheck_pp rfl (.no rfl) rfl (.tmp rfl fun _ => rfl))) rfl ?_
        refine AWl.put ((by first | exact R_fieldAddr rfl (.no rfl) rfl (.tmp rfl fun _ => rfl) fl176_1 | exact R_fieldAddr_pp rfl (.no rfl) rfl (.tmp rfl fun _ => rfl) fl176_1 | exact R_fieldAddr_vw rfl (.no rfl) rfl (.tmp rfl fun _ => rfl) fl176_1 | exact R_fieldAddr_pr rfl (.no rfl) rfl (.tmp rfl fun _ => rfl) fl176_1)) rfl ?_
        refine AWl.put ((by first | exact R_load rfl (.no rfl) rfl (.tmp rfl fun _ => rfl) ty172 rfl rfl | exact R_load_pp rfl (.no rfl) rfl (.tmp rfl fun _ => rfl) rfl ty172 rfl rfl | exact R_load_vw rfl (.no rfl) rfl (.tmp rfl fun _ => rfl) ty172 rfl rfl | exact R_load_pr rfl (.no rfl) rfl (.tmp rfl fun _ => rfl) rfl (by first | assumption | exact map_get (f := cToken) (getD_at (d := tok0 0) (by omega))) ty172 rfl rfl)) rfl ?_
        refine AWl.put ((by first | exact R_indexAddr rfl (.no rfl) rfl (.tmp rfl fun _ => rfl) (.const rfl) Try.underlying172 ty111 (fun _ => ⟨by omega, (by first | assumption | exact map_get (f := cToken) (getD_at (d := tok0 0) (by omega)))⟩) | exact R_indexAddr_vw rfl (.no rfl) rfl (.tmp rfl fun _ => rfl) (.const rfl) Try.underlying172 ty111 (fun _ => ⟨by omega, (by first | assumption | exact map_get (f := cToken) (getD_at (d := tok0 0) (by omega)))⟩) | exact R_indexAddr_rf rfl (.no rfl) rfl (.tmp rfl fun _ => rfl) rfl (.const rfl) Try.underlying172 ty111 (fun _ => ⟨by omega, (by first | assumption | exact map_get (f := cToken) (getD_at (d := tok0 0) (by omega)))⟩))) rfl ?_
        refine AWl.put ((by first | exact R_load rfl (.no rfl) rfl (.tmp rfl fun _ => rfl) ty111 rfl rfl | exact R_load_pp rfl (.no rfl) rfl (.tmp rfl fun _ => rfl) rfl ty111 rfl rfl | exact R_load_vw rfl (.no rfl) rfl (.tmp rfl fun _ => rfl) ty111 rfl rfl | exact R_load_pr rfl (.no rfl) rfl (.tmp rfl fun _ => rfl) rfl (by first | assumption | exact map_get (f := cToken) (getD_at (d := tok0 0) (by omega))) ty111 rfl rfl)) rfl ?_
        refine AWl.put (R_callz (FnT.fr (ih y (by rw [hk2]; simp))) rfl (.no rfl) rfl (.cons (.tmp rfl fun _ => rfl) rfl .nil)) rfl ?_
        refine AWl.adds (R_call 5200 (implStarExpr ⟨simpT y⟩ (by show _ ≤ _; dsimp only; omega)) rfl rfl rfl (.cons (.tmp rfl fun _ => rfl) rfl .nil) rfl rfl) rfl ?_
        refine AWl.chgb (R_store_pb rfl rfl rfl (.tmp rfl fun _ => rfl) (.tmp rfl fun _ => rfl) rfl ty28 rfl rfl rfl (by kernel_rfl) rfl) ?_
        refine AWl.nil ?_
        refine AW.ret ?_
        refine Res.one rfl (.cell rfl rfl ty28 rfl rfl .nil) rfl ?_
        rw [hk2]; simp only [List.map, simpG]; rw [if_pos h43]; rfl
      · skip
        try simp at h43
        refine AW.seq ?_
        -- region 8
        refine AW.region ?_
        refine AWl.put (R_eq rfl (.no rfl) rfl (.tmp rfl fun _ => rfl) (.const rfl)) rfl ?_
        refine AWl.put (R_assign rfl (.no rfl) rfl (.tmp rfl fun _ => rfl)) rfl ?_
        refine AWl.nil ?_
        refine AW.cond (.tmp rfl fun _ => rfl) (fun h53 => ?_) (fun h53 => ?_)
        · skip
          try simp at h53
          obtain ⟨y, hk2, hte, hgy⟩ := kind_one' hg (by omega)
          have hi0 : (x.kids.map cKid)[(0 : Int).toNat]? = some (cKid y) := by rw [hk2]; rfl
          have hkn : x.kids.length = 1 := by rw [hk2]; rfl
          have hsy := simpT_len y
          have hsq : 0 < (⟨simpT y⟩ : TExpr).Tokens.length ∧ (⟨simpT y⟩ : TExpr).Tokens.length ≤ (toks y).length := hsy
          have hln : (toks x).length = (toks y).length + 1 := by rw [hte]; simp
          refine AW.seq ?_
          -- region 9
          refine AW.le (σ' := ⟨_, [(0, _), (2, _), (8, _)], [(2, _)]⟩) (Le.sub0 rfl ⟨rfl, rfl, rfl, trivial⟩ ⟨rfl, trivial⟩) ?_
          refine AW.region ?_
          refine AWl.put (R_move rfl (.no rfl) rfl (.tmp rfl fun _ => rfl)) rfl ?_
          refine AWl.put ((by first | exact R_nilCheck rfl (.no rfl) rfl (.tmp rfl fun _ => rfl) | exact R_nilCheck_pp rfl (.no rfl) rfl (.tmp rfl fun _ => rfl))) rfl ?_
          refine AWl.put ((by first | exact R_fieldAddr rfl (.no rfl) rfl (.tmp rfl fun _ => rfl) fl176_1 | exact R_fieldAddr_pp rfl (.no rfl) rfl (.tmp rfl fun _ => rfl) fl176_1 | exact R_fieldAddr_vw rfl (.no rfl) rfl (.tmp rfl fun _ => rfl) fl176_1 | exact R_fieldAddr_pr rfl (.no rfl) rfl (.tmp rfl fun _ => rfl) fl176_1)) rfl ?_
          refine AWl.put ((by first | exact R_load rfl (.no rfl) rfl (.tmp rfl fun _ => rfl) ty172 rfl rfl | exact R_load_pp rfl (.no rfl) rfl (.tmp rfl fun _ => rfl) rfl ty172 rfl rfl | exact R_load_vw rfl (.no rfl) rfl (.tmp rfl fun _ => rfl) ty172 rfl rfl | exact R_load_pr rfl (.no rfl) rfl (.tmp rfl fun _ => rfl) rfl (by first | assumption | exact map_get (f := cToken) (getD_at (d := tok0 0) (by omega))) ty172 rfl rfl)) rfl ?_
          refine AWl.put ((by first | exact R_indexAddr rfl (.no rfl) rfl (.tmp rfl fun _ => rfl) (.const rfl) Try.underlying172 ty111 (fun _ => ⟨by omega, (by first | assumption | exact map_get (f := cToken) (getD_at (d := tok0 0) (by omega)))⟩) | exact R_indexAddr_vw rfl (.no rfl) rfl (.tmp rfl fun _ => rfl) (.const rfl) Try.underlying172 ty111 (fun _ => ⟨by omega, (by first | assumption | exact map_get (f := cToken) (getD_at (d := tok0 0) (by omega)))⟩) | exact R_indexAddr_rf rfl (.no rfl) rfl (.tmp rfl fun _ => rfl) rfl (.const rfl) Try.underlying172 ty111 (fun _ => ⟨by omega, (by first | assumption | exact map_get (f := cToken) (getD_at (d := tok0 0) (by omega)))⟩))) rfl ?_
          refine AWl.put ((by first | exact R_load rfl (.no rfl) rfl (.tmp rfl fun _ => rfl) ty111 rfl rfl | exact R_load_pp rfl (.no rfl) rfl (.tmp rfl fun _ => rfl) rfl ty111 rfl rfl | exact R_load_vw rfl (.no rfl) rfl (.tmp rfl fun _ => rfl) ty111 rfl rfl | exact R_load_pr rfl (.no rfl) rfl (.tmp rfl fun _ => rfl) rfl (by first | assumption | exact map_get (f := cToken) (getD_at (d := tok0 0) (by omega))) ty111 rfl rfl)) rfl ?_
          refine AWl.adds (R_call 6100 (ih y (by rw [hk2]; simp)) rfl rfl rfl (.cons (.tmp rfl fun _ => rfl) rfl .nil) rfl rfl) rfl ?_
          refine AWl.add (R_alloc 3 rfl rfl rfl in28 rfl rfl rfl) rfl ?_
          refine AWl.chgb (R_store_pb rfl rfl rfl (.tmp rfl fun _ => rfl) (.tmp rfl fun _ => rfl) rfl ty28 rfl rfl rfl (by kernel_rfl) rfl) ?_
          refine AWl.nil ?_
          refine AW.seq ?_
          refine AW.block ?_
          refine AW.seq ?_
          -- region 10
          refine AW.le (σ' := ⟨_, [(0, _), (2, _), (3, _), (8, _)], [(2, _), (6100, _), (3, _)]⟩) (Le.sub0 rfl ⟨rfl, rfl, rfl, rfl, trivial⟩ ⟨rfl, rfl, rfl, trivial⟩) ?_
          refine AW.region ?_
          refine AWl.put ((by first | exact R_load rfl (.no rfl) rfl (.tmp rfl fun _ => rfl) ty28 rfl rfl | exact R_load_pp rfl (.no rfl) rfl (.tmp rfl fun _ => rfl) rfl ty28 rfl rfl | exact R_load_vw rfl (.no rfl) rfl (.tmp rfl fun _ => rfl) ty28 rfl rfl | exact R_load_pr rfl (.no rfl) rfl (.tmp rfl fun _ => rfl) rfl (by first | assumption | exact map_get (f := cToken) (getD_at (d := tok0 0) (by omega))) ty28 rfl rfl)) rfl ?_
          refine AWl.put (R_callz (FnT.fr (implalone _ _)) rfl (.no rfl) rfl (.cons (.tmp rfl fun _ => rfl) rfl (.cons (.const rfl) rfl .nil))) rfl ?_
          refine AWl.put (R_move rfl (.no rfl) rfl (.tmp rfl fun _ => rfl)) rfl ?_
          refine AWl.put ((by first | exact R_fieldAddr rfl (by first | exact .not1 rfl rfl rfl rfl | exact .not rfl rfl rfl rfl) rfl (.tmp rfl (by first | exact fun _ => rfl | exact id | simp)) fl28_0 | exact R_fieldAddr_pp rfl (by first | exact .not1 rfl rfl rfl rfl | exact .not rfl rfl rfl rfl) rfl (.tmp rfl (by first | exact fun _ => rfl | exact id | simp)) fl28_0 | exact R_fieldAddr_vw rfl (by first | exact .not1 rfl rfl rfl rfl | exact .not rfl rfl rfl rfl) rfl (.tmp rfl (by first | exact fun _ => rfl | exact id | simp)) fl28_0 | exact R_fieldAddr_pr rfl (by first | exact .not1 rfl rfl rfl rfl | exact .not rfl rfl rfl rfl) rfl (.tmp rfl (by first | exact fun _ => rfl | exact id | simp)) fl28_0)) rfl ?_
          refine AWl.put ((by first | exact R_load rfl (by first | exact .not1 rfl rfl rfl rfl | exact .not rfl rfl rfl rfl) rfl (.tmp rfl (by first | exact fun _ => rfl | exact id | simp)) ty26 rfl rfl | exact R_load_pp rfl (by first | exact .not1 rfl rfl rfl rfl | exact .not rfl rfl rfl rfl) rfl (.tmp rfl (by first | exact fun _ => rfl | exact id | simp)) rfl ty26 rfl rfl | exact R_load_vw rfl (by first | exact .not1 rfl rfl rfl rfl | exact .not rfl rfl rfl rfl) rfl (.tmp rfl (by first | exact fun _ => rfl | exact id | simp)) ty26 rfl rfl | exact R_load_pr rfl (by first | exact .not1 rfl rfl rfl rfl | exact .not rfl rfl rfl rfl) rfl (.tmp rfl (by first | exact fun _ => rfl | exact id | simp)) rfl (by first | assumption | exact map_get (f := cToken) (getD_at (d := tok0 0) (by omega))) ty26 rfl rfl)) rfl ?_
          refine AWl.put ((by first | exact R_fieldAddr rfl (by first | exact .not1 rfl rfl rfl rfl | exact .not rfl rfl rfl rfl) rfl (.tmp rfl (by first | exact fun _ => rfl | exact id | simp)) fl28_0 | exact R_fieldAddr_pp rfl (by first | exact .not1 rfl rfl rfl rfl | exact .not rfl rfl rfl rfl) rfl (.tmp rfl (by first | exact fun _ => rfl | exact id | simp)) fl28_0 | exact R_fieldAddr_vw rfl (by first | exact .not1 rfl rfl rfl rfl | exact .not rfl rfl rfl rfl) rfl (.tmp rfl (by first | exact fun _ => rfl | exact id | simp)) fl28_0 | exact R_fieldAddr_pr rfl (by first | exact .not1 rfl rfl rfl rfl | exact .not rfl rfl rfl rfl) rfl (.tmp rfl (by first | exact fun _ => rfl | exact id | simp)) fl28_0)) rfl ?_
          refine AWl.put ((by first | exact R_load rfl (by first | exact .not1 rfl rfl rfl rfl | exact .not rfl rfl rfl rfl) rfl (.tmp rfl (by first | exact fun _ => rfl | exact id | simp)) ty26 rfl rfl | exact R_load_pp rfl (by first | exact .not1 rfl rfl rfl rfl | exact .not rfl rfl rfl rfl) rfl (.tmp rfl (by first | exact fun _ => rfl | exact id | simp)) rfl ty26 rfl rfl | exact R_load_vw rfl (by first | exact .not1 rfl rfl rfl rfl | exact .not rfl rfl rfl rfl) rfl (.tmp rfl (by first | exact fun _ => rfl | exact id | simp)) ty26 rfl rfl | exact R_load_pr rfl (by first | exact .not1 rfl rfl rfl rfl | exact .not rfl rfl rfl rfl) rfl (.tmp rfl (by first | exact fun _ => rfl | exact id | simp)) rfl (by first | assumption | exact map_get (f := cToken) (getD_at (d := tok0 0) (by omega))) ty26 rfl rfl)) rfl ?_
          refine AWl.put ((by first | exact R_lenm rfl (by first | exact .not1 rfl rfl rfl rfl | exact .not rfl rfl rfl rfl) rfl (.tmp rfl (by first | exact fun _ => rfl | exact id | simp)) (by first | exact .t | exact .rf rfl | exact .vw | exact .nil) Try.underlying26 | exact R_len rfl (by first | exact .not1 rfl rfl rfl rfl | exact .not rfl rfl rfl rfl) rfl (.tmp rfl (by first | exact fun _ => rfl | exact id | simp)) (by first | exact .t | exact .rf rfl | exact .vw | exact .nil) Try.underlying26)) rfl ?_
          refine AWl.put (R_sub rfl (by first | exact .not1 rfl rfl rfl rfl | exact .not rfl rfl rfl rfl) rfl (.tmp rfl (by first | exact fun _ => rfl | exact id | simp)) (.const rfl) (fun hq => by first | omega | (simp at hq; omega))) rfl ?_
          refine AWl.put ((by first | exact R_indexAddr rfl (by first | exact .not1 rfl rfl rfl rfl | exact .not rfl rfl rfl rfl) rfl (.tmp rfl (by first | exact fun _ => rfl | exact id | simp)) (.tmp rfl (by first | exact fun _ => rfl | exact id | simp)) Try.underlying26 ty165 (fun hq => by (try simp at hq); exact ⟨by omega, (by first | assumption | exact map_get (f := cToken) (getD_at (d := tok0 0) (by omega)))⟩) | exact R_indexAddr_vw rfl (by first | exact .not1 rfl rfl rfl rfl | exact .not rfl rfl rfl rfl) rfl (.tmp rfl (by first | exact fun _ => rfl | exact id | simp)) (.tmp rfl (by first | exact fun _ => rfl | exact id | simp)) Try.underlying26 ty165 (fun hq => by (try simp at hq); exact ⟨by omega, (by first | assumption | exact map_get (f := cToken) (getD_at (d := tok0 0) (by omega)))⟩) | exact R_indexAddr_rf rfl (by first | exact .not1 rfl rfl rfl rfl | exact .not rfl rfl rfl rfl) rfl (.tmp rfl (by first | exact fun _ => rfl | exact id | simp)) rfl (.tmp rfl (by first | exact fun _ => rfl | exact id | simp)) Try.underlying26 ty165 (fun hq => by (try simp at hq); exact ⟨by omega, (by first | assumption | exact map_get (f := cToken) (getD_at (d := tok0 0) (by omega)))⟩))) rfl ?_
          refine AWl.put ((by first | exact R_fieldAddr rfl (by first | exact .not1 rfl rfl rfl rfl | exact .not rfl rfl rfl rfl) rfl (.tmp rfl (by first | exact fun _ => rfl | exact id | simp)) fl165_0 | exact R_fieldAddr_pp rfl (by first | exact .not1 rfl rfl rfl rfl | exact .not rfl rfl rfl rfl) rfl (.tmp rfl (by first | exact fun _ => rfl | exact id | simp)) fl165_0 | exact R_fieldAddr_vw rfl (by first | exact .not1 rfl rfl rfl rfl | exact .not rfl rfl rfl rfl) rfl (.tmp rfl (by first | exact fun _ => rfl | exact id | simp)) fl165_0 | exact R_fieldAddr_pr rfl (by first | exact .not1 rfl rfl rfl rfl | exact .not rfl rfl rfl rfl) rfl (.tmp rfl (by first | exact fun _ => rfl | exact id | simp)) fl165_0)) rfl ?_
          refine AWl.put ((by first | exact R_load rfl (by first | exact .not1 rfl rfl rfl rfl | exact .not rfl rfl rfl rfl) rfl (.tmp rfl (by first | exact fun _ => rfl | exact id | simp)) ty3 rfl rfl | exact R_load_pp rfl (by first | exact .not1 rfl rfl rfl rfl | exact .not rfl rfl rfl rfl) rfl (.tmp rfl (by first | exact fun _ => rfl | exact id | simp)) rfl ty3 rfl rfl | exact R_load_vw rfl (by first | exact .not1 rfl rfl rfl rfl | exact .not rfl rfl rfl rfl) rfl (.tmp rfl (by first | exact fun _ => rfl | exact id | simp)) ty3 rfl rfl | exact R_load_pr rfl (by first | exact .not1 rfl rfl rfl rfl | exact .not rfl rfl rfl rfl) rfl (.tmp rfl (by first | exact fun _ => rfl | exact id | simp)) rfl (by first | assumption | exact map_get (f := cToken) (getD_at (d := tok0 0) (by omega))) ty3 rfl rfl)) rfl ?_
          refine AWl.put (R_eq rfl (by first | exact .not1 rfl rfl rfl rfl | exact .not rfl rfl rfl rfl) rfl (.tmp rfl (by first | exact fun _ => rfl | exact id | simp)) (.const rfl)) rfl ?_
          refine AWl.put (R_or rfl (.no rfl) rfl (.tmp rfl fun _ => rfl) (.tmp rfl (by first | exact fun _ => rfl | exact id | simp))) rfl ?_
          refine AWl.put (R_assign rfl (.no rfl) rfl (.tmp rfl fun _ => rfl)) rfl ?_
          refine AWl.nil ?_
          refine AW.cond (.tmp rfl fun _ => rfl) (fun h62 => ?_) (fun h62 => ?_)
          · skip
            skip
            refine AW.seq ?_
            -- region 11
            refine AW.le (σ' := ⟨_, [(0, _), (2, _), (3, _), (8, _)], [(2, _), (6100, _), (3, _)]⟩) (Le.sub0 rfl ⟨rfl, rfl, rfl, rfl, trivial⟩ ⟨rfl, rfl, rfl, trivial⟩) ?_
            refine AW.region ?_
            refine AWl.put ((by first | exact R_load rfl (.no rfl) rfl (.tmp rfl fun _ => rfl) ty28 rfl rfl | exact R_load_pp rfl (.no rfl) rfl (.tmp rfl fun _ => rfl) rfl ty28 rfl rfl | exact R_load_vw rfl (.no rfl) rfl (.tmp rfl fun _ => rfl) ty28 rfl rfl | exact R_load_pr rfl (.no rfl) rfl (.tmp rfl fun _ => rfl) rfl (by first | assumption | exact map_get (f := cToken) (getD_at (d := tok0 0) (by omega))) ty28 rfl rfl)) rfl ?_
            refine AWl.chgb (R_store_pb rfl rfl rfl (.tmp rfl fun _ => rfl) (.tmp rfl fun _ => rfl) rfl ty28 rfl rfl rfl (by kernel_rfl) rfl) ?_
            refine AWl.nil ?_
            refine AW.ret ?_
            refine Res.one rfl (.cell rfl rfl ty28 rfl rfl .nil) rfl ?_
            rw [hk2]; simp only [List.map, simpG]; rw [if_neg (by omega)]; unfold repS lastK; rw [if_pos h62]; rfl
          · skip
            skip
            refine AW.seq ?_
            -- region 12
            refine AW.le (σ' := ⟨_, [(0, _), (2, _), (3, _), (8, _)], [(2, _), (6100, _), (3, _)]⟩) (Le.sub0 rfl ⟨rfl, rfl, rfl, rfl, trivial⟩ ⟨rfl, rfl, rfl, trivial⟩) ?_
            refine AW.region ?_
            refine AWl.put ((by first | exact R_load rfl (.no rfl) rfl (.tmp rfl fun _ => rfl) ty28 rfl rfl | exact R_load_pp rfl (.no rfl) rfl (.tmp rfl fun _ => rfl) rfl ty28 rfl rfl | exact R_load_vw rfl (.no rfl) rfl (.tmp rfl fun _ => rfl) ty28 rfl rfl | exact R_load_pr rfl (.no rfl) rfl (.tmp rfl fun _ => rfl) rfl (by first | assumption | exact map_get (f := cToken) (getD_at (d := tok0 0) (by omega))) ty28 rfl rfl)) rfl ?_
            refine AWl.put (R_callz (FnT.fr (implalone _ _)) rfl (.no rfl) rfl (.cons (.tmp rfl fun _ => rfl) rfl (.cons (.const rfl) rfl .nil))) rfl ?_
            refine AWl.put (R_move rfl (.no rfl) rfl (.tmp rfl fun _ => rfl)) rfl ?_
            refine AWl.put (R_move rfl (by first | exact .yes1 rfl rfl rfl rfl | exact .yes rfl rfl rfl rfl) rfl (.tmp rfl (by first | exact fun _ => rfl | exact id | simp))) rfl ?_
            refine AWl.put ((by first | exact R_nilCheck rfl (by first | exact .yes1 rfl rfl rfl rfl | exact .yes rfl rfl rfl rfl) rfl (.tmp rfl (by first | exact fun _ => rfl | exact id | simp)) | exact R_nilCheck_pp rfl (by first | exact .yes1 rfl rfl rfl rfl | exact .yes rfl rfl rfl rfl) rfl (.tmp rfl (by first | exact fun _ => rfl | exact id | simp)))) rfl ?_
            refine AWl.put ((by first | exact R_fieldAddr rfl (by first | exact .yes1 rfl rfl rfl rfl | exact .yes rfl rfl rfl rfl) rfl (.tmp rfl (by first | exact fun _ => rfl | exact id | simp)) fl176_0 | exact R_fieldAddr_pp rfl (by first | exact .yes1 rfl rfl rfl rfl | exact .yes rfl rfl rfl rfl) rfl (.tmp rfl (by first | exact fun _ => rfl | exact id | simp)) fl176_0 | exact R_fieldAddr_vw rfl (by first | exact .yes1 rfl rfl rfl rfl | exact .yes rfl rfl rfl rfl) rfl (.tmp rfl (by first | exact fun _ => rfl | exact id | simp)) fl176_0 | exact R_fieldAddr_pr rfl (by first | exact .yes1 rfl rfl rfl rfl | exact .yes rfl rfl rfl rfl) rfl (.tmp rfl (by first | exact fun _ => rfl | exact id | simp)) fl176_0)) rfl ?_
            refine AWl.put ((by first | exact R_fieldAddr rfl (by first | exact .yes1 rfl rfl rfl rfl | exact .yes rfl rfl rfl rfl) rfl (.tmp rfl (by first | exact fun _ => rfl | exact id | simp)) fl165_2 | exact R_fieldAddr_pp rfl (by first | exact .yes1 rfl rfl rfl rfl | exact .yes rfl rfl rfl rfl) rfl (.tmp rfl (by first | exact fun _ => rfl | exact id | simp)) fl165_2 | exact R_fieldAddr_vw rfl (by first | exact .yes1 rfl rfl rfl rfl | exact .yes rfl rfl rfl rfl) rfl (.tmp rfl (by first | exact fun _ => rfl | exact id | simp)) fl165_2 | exact R_fieldAddr_pr rfl (by first | exact .yes1 rfl rfl rfl rfl | exact .yes rfl rfl rfl rfl) rfl (.tmp rfl (by first | exact fun _ => rfl | exact id | simp)) fl165_2)) rfl ?_
            refine AWl.put ((by first | exact R_load rfl (by first | exact .yes1 rfl rfl rfl rfl | exact .yes rfl rfl rfl rfl) rfl (.tmp rfl (by first | exact fun _ => rfl | exact id | simp)) ty3 rfl rfl | exact R_load_pp rfl (by first | exact .yes1 rfl rfl rfl rfl | exact .yes rfl rfl rfl rfl) rfl (.tmp rfl (by first | exact fun _ => rfl | exact id | simp)) rfl ty3 rfl rfl | exact R_load_vw rfl (by first | exact .yes1 rfl rfl rfl rfl | exact .yes rfl rfl rfl rfl) rfl (.tmp rfl (by first | exact fun _ => rfl | exact id | simp)) ty3 rfl rfl | exact R_load_pr rfl (by first | exact .yes1 rfl rfl rfl rfl | exact .yes rfl rfl rfl rfl) rfl (.tmp rfl (by first | exact fun _ => rfl | exact id | simp)) rfl (by first | assumption | exact map_get (f := cToken) (getD_at (d := tok0 0) (by omega))) ty3 rfl rfl)) rfl ?_
            refine AWl.put (R_eq rfl (by first | exact .yes1 rfl rfl rfl rfl | exact .yes rfl rfl rfl rfl) rfl (.tmp rfl (by first | exact fun _ => rfl | exact id | simp)) (.const rfl)) rfl ?_
            refine AWl.put (R_and rfl (.no rfl) rfl (.tmp rfl fun _ => rfl) (.tmp rfl (by first | exact fun _ => rfl | exact id | simp))) rfl ?_
            refine AWl.put (R_assign rfl (.no rfl) rfl (.tmp rfl fun _ => rfl)) rfl ?_
            refine AWl.nil ?_
            refine AW.cond (.tmp rfl fun _ => rfl) (fun h78 => ?_) (fun h78 => ?_)
            · skip
              skip
              refine AW.seq ?_
              -- region 13
              refine AW.le (σ' := ⟨_, [(0, _), (2, _), (3, _), (8, _)], [(2, _), (6100, _), (3, _)]⟩) (Le.sub0 rfl ⟨rfl, rfl, rfl, rfl, trivial⟩ ⟨rfl, rfl, rfl, trivial⟩) ?_
              refine AW.region ?_
              refine AWl.adds (R_call 8900 (implsingle _) rfl rfl rfl (.cons (.const rfl) rfl .nil) rfl rfl) rfl ?_
              refine AWl.chgb (R_store_pb rfl rfl rfl (.tmp rfl fun _ => rfl) (.tmp rfl fun _ => rfl) rfl ty28 rfl rfl rfl (by kernel_rfl) rfl) ?_
              refine AWl.nil ?_
              refine AW.ret ?_
              refine Res.one rfl (.cell rfl rfl ty28 rfl rfl .nil) rfl ?_
              rw [hk2]; simp only [List.map, simpG]; rw [if_neg (by omega)]; unfold repS lastK; rw [if_neg (by rw [h62]; simp)]; simp only [Bool.and_eq_true, decide_eq_true_eq] at h78; rw [if_pos h78.1, if_pos h78.2]; rfl
            · skip
              skip
              refine AW.seq ?_
              -- region 14
              refine AW.le (σ' := ⟨_, [(0, _), (2, _), (3, _), (8, _)], [(2, _), (6100, _), (3, _)]⟩) (Le.sub0 rfl ⟨rfl, rfl, rfl, rfl, trivial⟩ ⟨rfl, rfl, rfl, trivial⟩) ?_
              refine AW.region ?_
              refine AWl.put ((by first | exact R_load rfl (.no rfl) rfl (.tmp rfl fun _ => rfl) ty28 rfl rfl | exact R_load_pp rfl (.no rfl) rfl (.tmp rfl fun _ => rfl) rfl ty28 rfl rfl | exact R_load_vw rfl (.no rfl) rfl (.tmp rfl fun _ => rfl) ty28 rfl rfl | exact R_load_pr rfl (.no rfl) rfl (.tmp rfl fun _ => rfl) rfl (by first | assumption | exact map_get (f := cToken) (getD_at (d := tok0 0) (by omega))) ty28 rfl rfl)) rfl ?_
              refine AWl.put (R_callz (FnT.fr (implalone _ _)) rfl (.no rfl) rfl (.cons (.tmp rfl fun _ => rfl) rfl (.cons (.const rfl) rfl .nil))) rfl ?_
              refine AWl.put (R_assign rfl (.no rfl) rfl (.tmp rfl fun _ => rfl)) rfl ?_
              refine AWl.nil ?_
              refine AW.cond (.tmp rfl fun _ => rfl) (fun h90 => ?_) (fun h90 => ?_)
              · skip
                try simp at h90
                refine AW.seq ?_
                -- region 15
                refine AW.region ?_
                refine AWl.put ((by first | exact R_load rfl (.no rfl) rfl (.tmp rfl fun _ => rfl) ty28 rfl rfl | exact R_load_pp rfl (.no rfl) rfl (.tmp rfl fun _ => rfl) rfl ty28 rfl rfl | exact R_load_vw rfl (.no rfl) rfl (.tmp rfl fun _ => rfl) ty28 rfl rfl | exact R_load_pr rfl (.no rfl) rfl (.tmp rfl fun _ => rfl) rfl (by first | assumption | exact map_get (f := cToken) (getD_at (d := tok0 0) (by omega))) ty28 rfl rfl)) rfl ?_
                refine AWl.chgb (R_store_pb rfl rfl rfl (.tmp rfl fun _ => rfl) (.tmp rfl fun _ => rfl) rfl ty28 rfl rfl rfl (by kernel_rfl) rfl) ?_
                refine AWl.nil ?_
                refine AW.ret ?_
                refine Res.one rfl (.cell rfl rfl ty28 rfl rfl .nil) rfl ?_
                rw [hk2]; simp only [List.map, simpG]; rw [if_neg (by omega)]; unfold repS lastK; rw [if_neg (by rw [h62]; simp)]; rw [if_pos h90, if_neg (by simpa [h90] using h78)]; rfl
              · skip
                try simp at h90
                refine AW.skip ?_
                refine AW.seq ?_
                -- region 16
                refine AW.drawn 12 (nthB [[], [], [1], [1, 2], [1, 2, 3], [1, 2, 3, 4], [], [6], [6, 7], [6, 7, 8], [6, 7, 8, 9], [0, 1, 2, 3, 4, 5, 6, 7, 8, 9, 10]]) (by kernel_rfl) (by kernel_rfl) (by kernel_rfl) ?_
                refine DrawC.step rfl rfl rfl (Loc.of rfl fun σ' hs => (by first | exact R_load rfl (.no rfl) (hd_sup hs rfl) (.tmp (hs.slots _ _ rfl) fun _ => rfl) ty28 rfl rfl | exact R_load_pp rfl (.no rfl) (hd_sup hs rfl) (.tmp (hs.slots _ _ rfl) fun _ => rfl) (hs.res _ _ rfl) ty28 rfl rfl | exact R_load_vw rfl (.no rfl) (hd_sup hs rfl) (.tmp (hs.slots _ _ rfl) fun _ => rfl) ty28 rfl rfl | exact R_load_pr rfl (.no rfl) (hd_sup hs rfl) (.tmp (hs.slots _ _ rfl) fun _ => rfl) (hs.res _ _ rfl) (by first | assumption | exact map_get (f := cToken) (getD_at (d := tok0 0) (by omega))) ty28 rfl rfl)) ?_
                refine DrawC.step rfl rfl rfl (Loc.of rfl fun σ' hs => R_move rfl (.no rfl) (hd_sup hs rfl) (.tmp (hs.slots _ _ rfl) fun _ => rfl)) ?_
                refine DrawC.step rfl rfl rfl (Loc.of rfl fun σ' hs => (by first | exact R_nilCheck rfl (.no rfl) (hd_sup hs rfl) (.tmp (hs.slots _ _ rfl) fun _ => rfl) | exact R_nilCheck_pp rfl (.no rfl) (hd_sup hs rfl) (.tmp (hs.slots _ _ rfl) fun _ => rfl))) ?_
                refine DrawC.step rfl rfl rfl (Loc.of rfl fun σ' hs => (by first | exact R_fieldAddr rfl (.no rfl) (hd_sup hs rfl) (.tmp (hs.slots _ _ rfl) fun _ => rfl) fl176_0 | exact R_fieldAddr_pp rfl (.no rfl) (hd_sup hs rfl) (.tmp (hs.slots _ _ rfl) fun _ => rfl) fl176_0 | exact R_fieldAddr_vw rfl (.no rfl) (hd_sup hs rfl) (.tmp (hs.slots _ _ rfl) fun _ => rfl) fl176_0 | exact R_fieldAddr_pr rfl (.no rfl) (hd_sup hs rfl) (.tmp (hs.slots _ _ rfl) fun _ => rfl) fl176_0)) ?_
                refine DrawC.step rfl rfl rfl (Loc.of rfl fun σ' hs => (by first | exact R_fieldAddr rfl (.no rfl) (hd_sup hs rfl) (.tmp (hs.slots _ _ rfl) fun _ => rfl) fl165_2 | exact R_fieldAddr_pp rfl (.no rfl) (hd_sup hs rfl) (.tmp (hs.slots _ _ rfl) fun _ => rfl) fl165_2 | exact R_fieldAddr_vw rfl (.no rfl) (hd_sup hs rfl) (.tmp (hs.slots _ _ rfl) fun _ => rfl) fl165_2 | exact R_fieldAddr_pr rfl (.no rfl) (hd_sup hs rfl) (.tmp (hs.slots _ _ rfl) fun _ => rfl) fl165_2)) ?_
                refine DrawC.step rfl rfl rfl (Loc.of rfl fun σ' hs => (by first | exact R_load rfl (.no rfl) (hd_sup hs rfl) (.tmp (hs.slots _ _ rfl) fun _ => rfl) ty3 rfl rfl | exact R_load_pp rfl (.no rfl) (hd_sup hs rfl) (.tmp (hs.slots _ _ rfl) fun _ => rfl) (hs.res _ _ rfl) ty3 rfl rfl | exact R_load_vw rfl (.no rfl) (hd_sup hs rfl) (.tmp (hs.slots _ _ rfl) fun _ => rfl) ty3 rfl rfl | exact R_load_pr rfl (.no rfl) (hd_sup hs rfl) (.tmp (hs.slots _ _ rfl) fun _ => rfl) (hs.res _ _ rfl) (by first | assumption | exact map_get (f := cToken) (getD_at (d := tok0 0) (by omega))) ty3 rfl rfl)) ?_
                refine DrawC.step rfl rfl rfl (Loc.of rfl fun σ' hs => R_move rfl (.no rfl) (hd_sup hs rfl) (.tmp (hs.slots _ _ rfl) fun _ => rfl)) ?_
                refine DrawC.step rfl rfl rfl (Loc.of rfl fun σ' hs => (by first | exact R_nilCheck rfl (.no rfl) (hd_sup hs rfl) (.tmp (hs.slots _ _ rfl) fun _ => rfl) | exact R_nilCheck_pp rfl (.no rfl) (hd_sup hs rfl) (.tmp (hs.slots _ _ rfl) fun _ => rfl))) ?_
                refine DrawC.step rfl rfl rfl (Loc.of rfl fun σ' hs => (by first | exact R_fieldAddr rfl (.no rfl) (hd_sup hs rfl) (.tmp (hs.slots _ _ rfl) fun _ => rfl) fl176_0 | exact R_fieldAddr_pp rfl (.no rfl) (hd_sup hs rfl) (.tmp (hs.slots _ _ rfl) fun _ => rfl) fl176_0 | exact R_fieldAddr_vw rfl (.no rfl) (hd_sup hs rfl) (.tmp (hs.slots _ _ rfl) fun _ => rfl) fl176_0 | exact R_fieldAddr_pr rfl (.no rfl) (hd_sup hs rfl) (.tmp (hs.slots _ _ rfl) fun _ => rfl) fl176_0)) ?_
                refine DrawC.step rfl rfl rfl (Loc.of rfl fun σ' hs => (by first | exact R_fieldAddr rfl (.no rfl) (hd_sup hs rfl) (.tmp (hs.slots _ _ rfl) fun _ => rfl) fl165_3 | exact R_fieldAddr_pp rfl (.no rfl) (hd_sup hs rfl) (.tmp (hs.slots _ _ rfl) fun _ => rfl) fl165_3 | exact R_fieldAddr_vw rfl (.no rfl) (hd_sup hs rfl) (.tmp (hs.slots _ _ rfl) fun _ => rfl) fl165_3 | exact R_fieldAddr_pr rfl (.no rfl) (hd_sup hs rfl) (.tmp (hs.slots _ _ rfl) fun _ => rfl) fl165_3)) ?_
                refine DrawC.step rfl rfl rfl (Loc.of rfl fun σ' hs => (by first | exact R_load rfl (.no rfl) (hd_sup hs rfl) (.tmp (hs.slots _ _ rfl) fun _ => rfl) ty3 rfl rfl | exact R_load_pp rfl (.no rfl) (hd_sup hs rfl) (.tmp (hs.slots _ _ rfl) fun _ => rfl) (hs.res _ _ rfl) ty3 rfl rfl | exact R_load_vw rfl (.no rfl) (hd_sup hs rfl) (.tmp (hs.slots _ _ rfl) fun _ => rfl) ty3 rfl rfl | exact R_load_pr rfl (.no rfl) (hd_sup hs rfl) (.tmp (hs.slots _ _ rfl) fun _ => rfl) (hs.res _ _ rfl) (by first | assumption | exact map_get (f := cToken) (getD_at (d := tok0 0) (by omega))) ty3 rfl rfl)) ?_
                refine DrawC.step rfl rfl rfl (Loc.ofs rfl fun σ' hs hf => R_call 10500 (implRepeatExpr ⟨simpT y⟩ _ _ (by show _ ≤ _; dsimp only; omega)) rfl rfl (hd_sup hs rfl) (.cons (.tmp (hs.slots _ _ rfl) fun _ => rfl) (readA_sup hs rfl) (.cons (.tmp (hs.slots _ _ rfl) fun _ => rfl) (readA_sup hs rfl) (.cons (.tmp (hs.slots _ _ rfl) fun _ => rfl) (readA_sup hs rfl) .nil))) rfl (all_fresh hf)) ?_
                refine DrawC.fin rfl rfl ?_
                refine AWl.chgb (R_store_pb rfl rfl rfl (.tmp rfl fun _ => rfl) (.tmp rfl fun _ => rfl) rfl ty28 rfl rfl rfl (by kernel_rfl) rfl) ?_
                refine AWl.nil ?_
                refine AW.ret ?_
                refine Res.one rfl (.cell rfl rfl ty28 rfl rfl .nil) rfl ?_
                rw [hk2]; simp only [List.map, simpG]; rw [if_neg (by omega)]; unfold repS lastK; rw [if_neg (by rw [h62]; simp)]; rw [if_neg (by simp [h90])]; rfl
        · skip
          try simp at h53
          refine AW.skip ?_
          refine AW.seq ?_
          -- region 17
          refine AW.le (σ' := ⟨_, [(0, _), (2, _), (8, _)], [(2, _)]⟩) (Le.sub0 rfl ⟨rfl, rfl, rfl, trivial⟩ ⟨rfl, trivial⟩) ?_
          refine AW.region ?_
          refine AWl.put (R_move rfl (.no rfl) rfl (.tmp rfl fun _ => rfl)) rfl ?_
          refine AWl.put ((by first | exact R_nilCheck rfl (.no rfl) rfl (.tmp rfl fun _ => rfl) | exact R_nilCheck_pp rfl (.no rfl) rfl (.tmp rfl fun _ => rfl))) rfl ?_
          refine AWl.put ((by first | exact R_fieldAddr rfl (.no rfl) rfl (.tmp rfl fun _ => rfl) fl176_0 | exact R_fieldAddr_pp rfl (.no rfl) rfl (.tmp rfl fun _ => rfl) fl176_0 | exact R_fieldAddr_vw rfl (.no rfl) rfl (.tmp rfl fun _ => rfl) fl176_0 | exact R_fieldAddr_pr rfl (.no rfl) rfl (.tmp rfl fun _ => rfl) fl176_0)) rfl ?_
          refine AWl.put ((by first | exact R_load rfl (.no rfl) rfl (.tmp rfl fun _ => rfl) ty165 rfl rfl | exact R_load_pp rfl (.no rfl) rfl (.tmp rfl fun _ => rfl) rfl ty165 rfl rfl | exact R_load_vw rfl (.no rfl) rfl (.tmp rfl fun _ => rfl) ty165 rfl rfl | exact R_load_pr rfl (.no rfl) rfl (.tmp rfl fun _ => rfl) rfl (by first | assumption | exact map_get (f := cToken) (getD_at (d := tok0 0) (by omega))) ty165 rfl rfl)) rfl ?_
          refine AWl.absadd (R_list (xs := [.tmp 109]) 110 rfl rfl rfl (.cons (.tmp rfl fun _ => rfl) rfl rfl .nil) Try.underlying26 in165 rfl rfl rfl rfl) rfl ?_
          refine AWl.put (R_build (ps := [(0, .tmp 110)]) rfl rfl rfl in28 rfl rfl st28 (.cons (.tmp rfl fun _ => rfl) rfl rfl fp28_0 .nil) rfl) rfl ?_
          refine AWl.chgb (R_store_pb rfl rfl rfl (.tmp rfl fun _ => rfl) (.tmp rfl fun _ => rfl) rfl ty28 rfl rfl rfl (by kernel_rfl) rfl) ?_
          refine AWl.nil ?_
          refine AW.ret ?_
          refine Res.one rfl (.cell rfl rfl ty28 rfl rfl .nil) rfl ?_
          rw [kind_no' hg (by omega)]; rfl
theorem implsimplify : ∀ x : Tr, good x → (toks x).length ≤ 1048576 → FnT Try.prog 81 [.one (.ad (treeCells x))] (.a (.agg (cExpr ⟨simpT x⟩))) :=
  Tr.ind fun x ih hg hz => implsimplify1 x hg hz fun y hy => ih y hy (good_kids hg y hy) (by have := kids_toks hy; omega)
theorem implSimplifyExpr (e : TExpr) : FnT Try.prog 18 [.agg (cExpr e)] (.tup [.agg (cExpr (simplify e).1), .one (.v (.bool (simplify e).2))]) := by
  refine FnT.walk Try.func18 rfl (by kernel_rfl) Try.ntmps18 rfl fun hlen w0 => ?_
  try simp [cPair, cToken, cExpr, cEdge, cGraph, cStep, cWalk, cChange, cBatch, cHistory, cPositions, cAutomaton, cProductStep, cPathAtom, cConjunction, cView, cDelta, cRegistered, cRegistry] at hlen
  refine AW.seq ?_
  -- region 0
  refine AW.region ?_
  refine AWl.put (R_boxz rfl rfl rfl (.tmp rfl fun _ => rfl) (ts := _) (by first | rfl | exact cells_t1 _ | exact cells_t2 _)) rfl ?_
  refine AWl.add (R_alloc 2 rfl rfl rfl in28 rfl rfl rfl) rfl ?_
  refine AWl.put (R_assign rfl (.no rfl) rfl (.const rfl)) rfl ?_
  refine AWl.nil ?_
  refine AW.seq ?_
  refine AW.seq ?_
  -- region 1
  refine AW.region ?_
  refine AWl.put ((by first | exact R_load rfl (.no rfl) rfl (.tmp rfl fun _ => rfl) ty28 rfl rfl | exact R_load_pp rfl (.no rfl) rfl (.tmp rfl fun _ => rfl) rfl ty28 rfl rfl | exact R_load_vw rfl (.no rfl) rfl (.tmp rfl fun _ => rfl) ty28 rfl rfl | exact R_load_pr rfl (.no rfl) rfl (.tmp rfl fun _ => rfl) rfl (by first | assumption | exact map_get (by assumption)) ty28 rfl rfl)) rfl ?_
  refine AWl.put (R_callz (FnT.fr (implIsValidExpr _)) rfl (.no rfl) rfl (.cons (.tmp rfl fun _ => rfl) rfl .nil)) rfl ?_
  refine AWl.put (R_not rfl (.no rfl) rfl (.tmp rfl fun _ => rfl)) rfl ?_
  refine AWl.nil ?_
  refine AW.cond (.tmp rfl fun _ => rfl) (fun h6 => ?_) (fun h6 => ?_)
  · skip
    try simp at h6
    refine AW.seq ?_
    -- region 2
    refine AW.region ?_
    refine AWl.put (R_build (ps := []) rfl rfl rfl in28 rfl rfl st28 .nil rfl) rfl ?_
    refine AWl.nilA (i := 7) 20001 4 0 rfl rfl rfl ?_
    refine AWl.chgb (R_store_pb rfl rfl rfl (.tmp rfl fun _ => rfl) (.tmp rfl fun _ => rfl) rfl ty28 rfl rfl rfl (by kernel_rfl) rfl) ?_
    refine AWl.le (σ' := ⟨_, [(0, _), (1, _), (2, _), (3, _), (6, _)], [(2, _), (20001, _)]⟩) (Le.sub0 rfl ⟨rfl, rfl, rfl, rfl, rfl, trivial⟩ ⟨rfl, rfl, trivial⟩) ?_
    refine AWl.put (R_assign rfl (.no rfl) rfl (.const rfl)) rfl ?_
    refine AWl.nil ?_
    refine AW.ret ?_
    refine Res.many rfl (.cell rfl rfl ty28 rfl rfl (.tmp rfl .nil)) rfl ?_ (by simp)
    rw [simplify_no h6]; rfl
  · skip
    try simp at h6
    obtain ⟨x, hx, htk, hgx, hl⟩ := valid_tree h6
    have htr := impltreeOf e (by omega)
    rw [treeV_some hx] at htr
    refine AW.skip ?_
    refine AW.seq ?_
    -- region 3
    refine AW.region ?_
    refine AWl.put ((by first | exact R_load rfl (.no rfl) rfl (.tmp rfl fun _ => rfl) ty28 rfl rfl | exact R_load_pp rfl (.no rfl) rfl (.tmp rfl fun _ => rfl) rfl ty28 rfl rfl | exact R_load_vw rfl (.no rfl) rfl (.tmp rfl fun _ => rfl) ty28 rfl rfl | exact R_load_pr rfl (.no rfl) rfl (.tmp rfl fun _ => rfl) rfl (by first | assumption | exact map_get (by assumption)) ty28 rfl rfl)) rfl ?_
    refine AWl.put (R_callz (htr) rfl (.no rfl) rfl (.cons (.tmp rfl fun _ => rfl) rfl .nil)) rfl ?_
    refine AWl.adds (R_call 1000 (implsimplify x hgx (by rw [htk]; omega)) rfl rfl rfl (.cons (.tmp rfl fun _ => rfl) rfl .nil) rfl rfl) rfl ?_
    refine AWl.chgb (R_store_pb rfl rfl rfl (.tmp rfl fun _ => rfl) (.tmp rfl fun _ => rfl) rfl ty28 rfl rfl rfl (by kernel_rfl) rfl) ?_
    refine AWl.le (σ' := ⟨_, [(0, _), (1, _), (2, _), (3, _), (6, _)], [(2, _), (1000, _)]⟩) (Le.sub0 rfl ⟨rfl, rfl, rfl, rfl, rfl, trivial⟩ ⟨rfl, rfl, trivial⟩) ?_
    refine AWl.put (R_assign rfl (.no rfl) rfl (.const rfl)) rfl ?_
    refine AWl.nil ?_
    refine AW.ret ?_
    refine Res.many rfl (.cell rfl rfl ty28 rfl rfl (.tmp rfl .nil)) rfl ?_ (by simp)
    rw [simplify_yes h6 hx]; rfl
theorem specl30Simplify1 (x : Tr) (hg : good x) (hz : (toks x).length ≤ 1048576) (ih : ∀ y ∈ x.kids, ∀ L, L = (toks y).map cToken → FnT Try.prog 77 [.one (.sl 4 L)] (.a (.agg (cExpr ⟨simpT y⟩)))) : FnT Try.prog 77 [.one (.sl 4 ((toks x).map cToken))] (.a (.agg (cExpr ⟨simpT x⟩))) := by
  refine FnT.walk Try.func77 rfl (by kernel_rfl) Try.ntmps77 rfl fun hlen w0 => ?_
  try simp [cPair, cToken, cExpr, cEdge, cGraph, cStep, cWalk, cChange, cBatch, cHistory, cPositions, cAutomaton, cProductStep, cPathAtom, cConjunction, cView, cDelta, cRegistered, cRegistry] at hlen
  clear hlen; rw [simpT_eq]; have hlast := tok_last x; have hpos := toks_pos x
  refine AW.seq ?_
  -- region 0
  refine AW.region ?_
  refine AWl.add (R_alloc 2 rfl rfl rfl in28 rfl rfl rfl) rfl ?_
  refine AWl.nil ?_
  refine AW.seq ?_
  -- region 1
  refine AW.region ?_
  refine AWl.put (R_move rfl (.no rfl) rfl (.tmp rfl fun _ => rfl)) rfl ?_
  refine AWl.put ((by first | exact R_lenm rfl (.no rfl) rfl (.tmp rfl fun _ => rfl) (by first | exact .t | exact .rf rfl | exact .vw | exact .nil) Try.underlying26 | exact R_len rfl (.no rfl) rfl (.tmp rfl fun _ => rfl) (by first | exact .t | exact .rf rfl | exact .vw | exact .nil) Try.underlying26)) rfl ?_
  refine AWl.put (R_sub rfl (.no rfl) rfl (.tmp rfl fun _ => rfl) (.const rfl) (fun _ => by omega)) rfl ?_
  refine AWl.put (R_assign rfl (.no rfl) rfl (.tmp rfl fun _ => rfl)) rfl ?_
  refine AWl.nil ?_
  refine AW.seq ?_
  -- region 2
  refine AW.region ?_
  refine AWl.put (R_move rfl (.no rfl) rfl (.tmp rfl fun _ => rfl)) rfl ?_
  refine AWl.put (R_move rfl (.no rfl) rfl (.tmp rfl fun _ => rfl)) rfl ?_
  refine AWl.put ((by first | exact R_indexAddr rfl (.no rfl) rfl (.tmp rfl fun _ => rfl) (.tmp rfl fun _ => rfl) Try.underlying26 ty165 (fun _ => ⟨by omega, map_get hlast⟩) | exact R_indexAddr_vw rfl (.no rfl) rfl (.tmp rfl fun _ => rfl) (.tmp rfl fun _ => rfl) Try.underlying26 ty165 (fun _ => ⟨by omega, map_get hlast⟩) | exact R_indexAddr_rf rfl (.no rfl) rfl (.tmp rfl fun _ => rfl) rfl (.tmp rfl fun _ => rfl) Try.underlying26 ty165 (fun _ => ⟨by omega, map_get hlast⟩))) rfl ?_
  refine AWl.put ((by first | exact R_load rfl (.no rfl) rfl (.tmp rfl fun _ => rfl) ty165 rfl rfl | exact R_load_pp rfl (.no rfl) rfl (.tmp rfl fun _ => rfl) rfl ty165 rfl rfl | exact R_load_vw rfl (.no rfl) rfl (.tmp rfl fun _ => rfl) ty165 rfl rfl | exact R_load_pr rfl (.no rfl) rfl (.tmp rfl fun _ => rfl) rfl map_get hlast ty165 rfl rfl)) rfl ?_
  refine AWl.add (R_alloc 4 rfl rfl rfl in165 rfl rfl rfl) rfl ?_
  refine AWl.chgb (R_store_pb rfl rfl rfl (.tmp rfl fun _ => rfl) (.tmp rfl fun _ => rfl) rfl ty165 rfl rfl rfl (by kernel_rfl) rfl) ?_
  refine AWl.nil ?_
  refine AW.seq ?_
  refine AW.seq ?_
  -- region 3
  refine AW.le (σ' := ⟨_, [(0, _), (2, _), (3, _), (4, _)], [(2, _), (4, _)]⟩) (Le.sub0 rfl ⟨rfl, rfl, rfl, rfl, trivial⟩ ⟨rfl, rfl, trivial⟩) ?_
  refine AW.region ?_
  refine AWl.put ((by first | exact R_fieldAddr rfl (.no rfl) rfl (.tmp rfl fun _ => rfl) fl165_0 | exact R_fieldAddr_pp rfl (.no rfl) rfl (.tmp rfl fun _ => rfl) fl165_0 | exact R_fieldAddr_vw rfl (.no rfl) rfl (.tmp rfl fun _ => rfl) fl165_0 | exact R_fieldAddr_pr rfl (.no rfl) rfl (.tmp rfl fun _ => rfl) fl165_0)) rfl ?_
  refine AWl.put ((by first | exact R_load rfl (.no rfl) rfl (.tmp rfl fun _ => rfl) ty3 rfl rfl | exact R_load_pp rfl (.no rfl) rfl (.tmp rfl fun _ => rfl) rfl ty3 rfl rfl | exact R_load_vw rfl (.no rfl) rfl (.tmp rfl fun _ => rfl) ty3 rfl rfl | exact R_load_pr rfl (.no rfl) rfl (.tmp rfl fun _ => rfl) rfl map_get hlast ty3 rfl rfl)) rfl ?_
  refine AWl.nil ?_
  refine AW.block ?_
  refine AW.seq ?_
  -- region 4
  refine AW.region ?_
  refine AWl.put (R_eq rfl (.no rfl) rfl (.tmp rfl fun _ => rfl) (.const rfl)) rfl ?_
  refine AWl.put (R_assign rfl (.no rfl) rfl (.tmp rfl fun _ => rfl)) rfl ?_
  refine AWl.nil ?_
  refine AW.cond (.tmp rfl fun _ => rfl) (fun h16 => ?_) (fun h16 => ?_)
  · skip
    try simp at h16
    obtain ⟨y, z, hk2, hte, hgy, hgz⟩ := kind_two' hg (by omega)
    have hsy := simpT_len y
    have hsz := simpT_len z
    have hln : (toks x).length = (toks y).length + (toks z).length + 1 := by rw [hte]; simp; omega
    refine AW.seq ?_
    -- region 5
    refine AW.region ?_
    refine AWl.put (R_move rfl (.no rfl) rfl (.tmp rfl fun _ => rfl)) rfl ?_
    refine AWl.put (R_move rfl (.no rfl) rfl (.tmp rfl fun _ => rfl)) rfl ?_
    refine AWl.put (R_slice (m := (toks y).length + (toks z).length) rfl (.no rfl) rfl (.tmp rfl fun _ => rfl) .no (.yes (.tmp rfl fun _ => rfl) (fun _ => by first | omega | (simp <;> omega))) Try.underlying26 ty165 (fun _ => ⟨by omega, by first | omega | (simp; omega)⟩)) rfl ?_
    refine AWl.put (R_callz (FnT.fr (l8Start_at hgz (pre := toks y) (by simp; omega) _ (sl_pre2 hte))) rfl (.no rfl) rfl (.cons (.tmp rfl fun _ => rfl) rfl .nil)) rfl ?_
    refine AWl.put (R_assign rfl (.no rfl) rfl (.tmp rfl fun _ => rfl)) rfl ?_
    refine AWl.nil ?_
    refine AW.seq ?_
    -- region 6
    refine AW.le (σ' := ⟨_, [(0, _), (2, _), (3, _), (4, _), (5, _), (15, _)], [(2, _), (4, _)]⟩) (Le.sub0 rfl ⟨rfl, rfl, rfl, rfl, rfl, rfl, trivial⟩ ⟨rfl, rfl, trivial⟩) ?_
    refine AW.drawn 10 (nthB [[], [], [0, 1], [0, 1, 2], [], [], [], [4, 5, 6], [0, 1, 2, 3, 4, 5, 6, 7], [0, 1, 2, 3, 4, 5, 6, 7, 8]]) (by kernel_rfl) (by kernel_rfl) (by kernel_rfl) ?_
    refine DrawC.step rfl rfl rfl (Loc.of rfl fun σ' hs => R_move rfl (.no rfl) (hd_sup hs rfl) (.tmp (hs.slots _ _ rfl) fun _ => rfl)) ?_
    refine DrawC.step rfl rfl rfl (Loc.of rfl fun σ' hs => R_move rfl (.no rfl) (hd_sup hs rfl) (.tmp (hs.slots _ _ rfl) fun _ => rfl)) ?_
    refine DrawC.step rfl rfl rfl (Loc.of rfl fun σ' hs => R_slice (m := (toks y).length) rfl (.no rfl) (hd_sup hs rfl) (.tmp (hs.slots _ _ rfl) fun _ => rfl) .no (.yes (.tmp (hs.slots _ _ rfl) fun _ => rfl) (fun _ => by first | omega | (simp <;> omega))) Try.underlying26 ty165 (fun _ => ⟨by omega, by first | omega | (simp; omega)⟩)) ?_
    refine DrawC.step rfl rfl rfl (Loc.of rfl fun σ' hs => R_callz (FnT.fr (ih y (by rw [hk2]; simp) _ (sl_pre (by rw [hte, List.append_assoc])))) rfl (.no rfl) (hd_sup hs rfl) (.cons (.tmp (hs.slots _ _ rfl) fun _ => rfl) (readA_sup hs rfl) .nil)) ?_
    refine DrawC.step rfl rfl rfl (Loc.of rfl fun σ' hs => R_move rfl (.no rfl) (hd_sup hs rfl) (.tmp (hs.slots _ _ rfl) fun _ => rfl)) ?_
    refine DrawC.step rfl rfl rfl (Loc.of rfl fun σ' hs => R_move rfl (.no rfl) (hd_sup hs rfl) (.tmp (hs.slots _ _ rfl) fun _ => rfl)) ?_
    refine DrawC.step rfl rfl rfl (Loc.of rfl fun σ' hs => R_move rfl (.no rfl) (hd_sup hs rfl) (.tmp (hs.slots _ _ rfl) fun _ => rfl)) ?_
    refine DrawC.step rfl rfl rfl (Loc.of rfl fun σ' hs => R_slice (n := (toks y).length) (m := (toks y).length + (toks z).length) rfl (.no rfl) (hd_sup hs rfl) (.tmp (hs.slots _ _ rfl) fun _ => rfl) (.yes (.tmp (hs.slots _ _ rfl) fun _ => rfl) (fun _ => by first | omega | (simp <;> omega))) (.yes (.tmp (hs.slots _ _ rfl) fun _ => rfl) (fun _ => by first | omega | (simp <;> omega))) Try.underlying26 ty165 (fun _ => ⟨by omega, by first | omega | (simp; omega)⟩)) ?_
    refine DrawC.step rfl rfl rfl (Loc.of rfl fun σ' hs => R_callz (FnT.fr (ih z (by rw [hk2]; simp) _ (sl_mid hte))) rfl (.no rfl) (hd_sup hs rfl) (.cons (.tmp (hs.slots _ _ rfl) fun _ => rfl) (readA_sup hs rfl) .nil)) ?_
    refine DrawC.step rfl rfl rfl (Loc.ofs rfl fun σ' hs hf => R_call 3100 (specConcatExpr ⟨simpT y⟩ ⟨simpT z⟩ (by show _ ≤ _; dsimp only; omega)) rfl rfl (hd_sup hs rfl) (.cons (.tmp (hs.slots _ _ rfl) fun _ => rfl) (readA_sup hs rfl) (.cons (.tmp (hs.slots _ _ rfl) fun _ => rfl) (readA_sup hs rfl) .nil)) rfl (all_fresh hf)) ?_
    refine DrawC.fin rfl rfl ?_
    refine AWl.chgb (R_store_pb rfl rfl rfl (.tmp rfl fun _ => rfl) (.tmp rfl fun _ => rfl) rfl ty28 rfl rfl rfl (by kernel_rfl) rfl) ?_
    refine AWl.nil ?_
    refine AW.ret ?_
    refine Res.one rfl (.cell rfl rfl ty28 rfl rfl .nil) rfl ?_
    rw [hk2]; simp only [List.map, simpG]; rw [if_pos h16]; rfl
  · skip
    try simp at h16
    refine AW.seq ?_
    -- region 7
    refine AW.region ?_
    refine AWl.put (R_eq rfl (.no rfl) rfl (.tmp rfl fun _ => rfl) (.const rfl)) rfl ?_
    refine AWl.put (R_assign rfl (.no rfl) rfl (.tmp rfl fun _ => rfl)) rfl ?_
    refine AWl.nil ?_
    refine AW.cond (.tmp rfl fun _ => rfl) (fun h32 => ?_) (fun h32 => ?_)
    · skip
      try simp at h32
      obtain ⟨y, z, hk2, hte, hgy, hgz⟩ := kind_two' hg (by omega)
      have hsy := simpT_len y
      have hsz := simpT_len z
      have hln : (toks x).length = (toks y).length + (toks z).length + 1 := by rw [hte]; simp; omega
      refine AW.seq ?_
      -- region 8
      refine AW.region ?_
      refine AWl.put (R_move rfl (.no rfl) rfl (.tmp rfl fun _ => rfl)) rfl ?_
      refine AWl.put (R_move rfl (.no rfl) rfl (.tmp rfl fun _ => rfl)) rfl ?_
      refine AWl.put (R_slice (m := (toks y).length + (toks z).length) rfl (.no rfl) rfl (.tmp rfl fun _ => rfl) .no (.yes (.tmp rfl fun _ => rfl) (fun _ => by first | omega | (simp <;> omega))) Try.underlying26 ty165 (fun _ => ⟨by omega, by first | omega | (simp; omega)⟩)) rfl ?_
      refine AWl.put (R_callz (FnT.fr (l8Start_at hgz (pre := toks y) (by simp; omega) _ (sl_pre2 hte))) rfl (.no rfl) rfl (.cons (.tmp rfl fun _ => rfl) rfl .nil)) rfl ?_
      refine AWl.put (R_assign rfl (.no rfl) rfl (.tmp rfl fun _ => rfl)) rfl ?_
      refine AWl.nil ?_
      refine AW.seq ?_
      -- region 9
      refine AW.le (σ' := ⟨_, [(0, _), (2, _), (3, _), (4, _), (6, _), (15, _)], [(2, _), (4, _)]⟩) (Le.sub0 rfl ⟨rfl, rfl, rfl, rfl, rfl, rfl, trivial⟩ ⟨rfl, rfl, trivial⟩) ?_
      refine AW.drawn 10 (nthB [[], [], [0, 1], [0, 1, 2], [], [], [], [4, 5, 6], [0, 1, 2, 3, 4, 5, 6, 7], [0, 1, 2, 3, 4, 5, 6, 7, 8]]) (by kernel_rfl) (by kernel_rfl) (by kernel_rfl) ?_
      refine DrawC.step rfl rfl rfl (Loc.of rfl fun σ' hs => R_move rfl (.no rfl) (hd_sup hs rfl) (.tmp (hs.slots _ _ rfl) fun _ => rfl)) ?_
      refine DrawC.step rfl rfl rfl (Loc.of rfl fun σ' hs => R_move rfl (.no rfl) (hd_sup hs rfl) (.tmp (hs.slots _ _ rfl) fun _ => rfl)) ?_
      refine DrawC.step rfl rfl rfl (Loc.of rfl fun σ' hs => R_slice (m := (toks y).length) rfl (.no rfl) (hd_sup hs rfl) (.tmp (hs.slots _ _ rfl) fun _ => rfl) .no (.yes (.tmp (hs.slots _ _ rfl) fun _ => rfl) (fun _ => by first | omega | (simp <;> omega))) Try.underlying26 ty165 (fun _ => ⟨by omega, by first | omega | (simp; omega)⟩)) ?_
      refine DrawC.step rfl rfl rfl (Loc.of rfl fun σ' hs => R_callz (FnT.fr (ih y (by rw [hk2]; simp) _ (sl_pre (by rw [hte, List.append_assoc])))) rfl (.no rfl) (hd_sup hs rfl) (.cons (.tmp (hs.slots _ _ rfl) fun _ => rfl) (readA_sup hs rfl) .nil)) ?_
      refine DrawC.step rfl rfl rfl (Loc.of rfl fun σ' hs => R_move rfl (.no rfl) (hd_sup hs rfl) (.tmp (hs.slots _ _ rfl) fun _ => rfl)) ?_
      refine DrawC.step rfl rfl rfl (Loc.of rfl fun σ' hs => R_move rfl (.no rfl) (hd_sup hs rfl) (.tmp (hs.slots _ _ rfl) fun _ => rfl)) ?_
      refine DrawC.step rfl rfl rfl (Loc.of rfl fun σ' hs => R_move rfl (.no rfl) (hd_sup hs rfl) (.tmp (hs.slots _ _ rfl) fun _ => rfl)) ?_
      refine DrawC.step rfl rfl rfl (Loc.of rfl fun σ' hs => R_slice (n := (toks y).length) (m := (toks y).length + (toks z).length) rfl (.no rfl) (hd_sup hs rfl) (.tmp (hs.slots _ _ rfl) fun _ => rfl) (.yes (.tmp (hs.slots _ _ rfl) fun _ => rfl) (fun _ => by first | omega | (simp <;> omega))) (.yes (.tmp (hs.slots _ _ rfl) fun _ => rfl) (fun _ => by first | omega | (simp <;> omega))) Try.underlying26 ty165 (fun _ => ⟨by omega, by first | omega | (simp; omega)⟩)) ?_
      refine DrawC.step rfl rfl rfl (Loc.of rfl fun σ' hs => R_callz (FnT.fr (ih z (by rw [hk2]; simp) _ (sl_mid hte))) rfl (.no rfl) (hd_sup hs rfl) (.cons (.tmp (hs.slots _ _ rfl) fun _ => rfl) (readA_sup hs rfl) .nil)) ?_
      refine DrawC.step rfl rfl rfl (Loc.ofs rfl fun σ' hs hf => R_call 4700 (specUnionExpr ⟨simpT y⟩ ⟨simpT z⟩ (by show _ ≤ _; dsimp only; omega)) rfl rfl (hd_sup hs rfl) (.cons (.tmp (hs.slots _ _ rfl) fun _ => rfl) (readA_sup hs rfl) (.cons (.tmp (hs.slots _ _ rfl) fun _ => rfl) (readA_sup hs rfl) .nil)) rfl (all_fresh hf)) ?_
      refine DrawC.fin rfl rfl ?_
      refine AWl.chgb (R_store_pb rfl rfl rfl (.tmp rfl fun _ => rfl) (.tmp rfl fun _ => rfl) rfl ty28 rfl rfl rfl (by kernel_rfl) rfl) ?_
      refine AWl.nil ?_
      refine AW.ret ?_
      refine Res.one rfl (.cell rfl rfl ty28 rfl rfl .nil) rfl ?_
      rw [hk2]; simp only [List.map, simpG]; rw [if_neg (by omega)]; rfl
    · skip
      try simp at h32
      refine AW.seq ?_
      -- region 10
      refine AW.region ?_
      refine AWl.put (R_eq rfl (.no rfl) rfl (.tmp rfl fun _ => rfl) (.const rfl)) rfl ?_
      refine AWl.put (R_assign rfl (.no rfl) rfl (.tmp rfl fun _ => rfl)) rfl ?_
      refine AWl.nil ?_
      refine AW.cond (.tmp rfl fun _ => rfl) (fun h48 => ?_) (fun h48 => ?_)
      · skip
        try simp at h48
        obtain ⟨y, hk2, hte, hgy⟩ := kind_one' hg (by omega)
        have hsy := simpT_len y
        have hln : (toks x).length = (toks y).length + 1 := by rw [hte]; simp
        refine AW.seq ?_
        -- region 11
        refine AW.le (σ' := ⟨_, [(0, _), (2, _), (3, _), (4, _), (15, _)], [(2, _), (4, _)]⟩) (Le.sub0 rfl ⟨rfl, rfl, rfl, rfl, rfl, trivial⟩ ⟨rfl, rfl, trivial⟩) ?_
        refine AW.region ?_
        refine AWl.put (R_move rfl (.no rfl) rfl (.tmp rfl fun _ => rfl)) rfl ?_
        refine AWl.put (R_move rfl (.no rfl) rfl (.tmp rfl fun _ => rfl)) rfl ?_
        refine AWl.put (R_slice (m := (toks y).length) rfl (.no rfl) rfl (.tmp rfl fun _ => rfl) .no (.yes (.tmp rfl fun _ => rfl) (fun _ => by first | omega | (simp <;> omega))) Try.underlying26 ty165 (fun _ => ⟨by omega, by first | omega | (simp; omega)⟩)) rfl ?_
        refine AWl.put (R_callz (FnT.fr (ih y (by rw [hk2]; simp) _ (sl_pre hte))) rfl (.no rfl) rfl (.cons (.tmp rfl fun _ => rfl) rfl .nil)) rfl ?_
        refine AWl.adds (R_call 5400 (specStarExpr ⟨simpT y⟩ (by show _ ≤ _; dsimp only; omega)) rfl rfl rfl (.cons (.tmp rfl fun _ => rfl) rfl .nil) rfl rfl) rfl ?_
        refine AWl.chgb (R_store_pb rfl rfl rfl (.tmp rfl fun _ => rfl) (.tmp rfl fun _ => rfl) rfl ty28 rfl rfl rfl (by kernel_rfl) rfl) ?_
        refine AWl.nil ?_
        refine AW.ret ?_
        refine Res.one rfl (.cell rfl rfl ty28 rfl rfl .nil) rfl ?_
        rw [hk2]; simp only [List.map, simpG]; rw [if_pos h48]; rfl
      · skip
        try simp at h48
        refine AW.seq ?_
        -- region 12
        refine AW.le (σ' := ⟨_, [(0, _), (2, _), (3, _), (4, _), (15, _)], [(2, _), (4, _)]⟩) (Le.sub0 rfl ⟨rfl, rfl, rfl, rfl, rfl, trivial⟩ ⟨rfl, rfl, trivial⟩) ?_
        refine AW.region ?_
        refine AWl.put (R_eq rfl (.no rfl) rfl (.tmp rfl fun _ => rfl) (.const rfl)) rfl ?_
        refine AWl.put (R_assign rfl (.no rfl) rfl (.tmp rfl fun _ => rfl)) rfl ?_
        refine AWl.nil ?_
        refine AW.cond (.tmp rfl fun _ => rfl) (fun h55 => ?_) (fun h55 => ?_)
        · skip
          try simp at h55
          obtain ⟨y, hk2, hte, hgy⟩ := kind_one' hg (by omega)
          have hsy := simpT_len y
          have hln : (toks x).length = (toks y).length + 1 := by rw [hte]; simp
          refine AW.seq ?_
          -- region 13
          refine AW.drawn 8 (nthB [[], [], [0, 1], [0, 1, 2], [], [4], [], [6]]) (by kernel_rfl) (by kernel_rfl) (by kernel_rfl) ?_
          refine DrawC.step rfl rfl rfl (Loc.of rfl fun σ' hs => R_move rfl (.no rfl) (hd_sup hs rfl) (.tmp (hs.slots _ _ rfl) fun _ => rfl)) ?_
          refine DrawC.step rfl rfl rfl (Loc.of rfl fun σ' hs => R_move rfl (.no rfl) (hd_sup hs rfl) (.tmp (hs.slots _ _ rfl) fun _ => rfl)) ?_
          refine DrawC.step rfl rfl rfl (Loc.of rfl fun σ' hs => R_slice (m := (toks y).length) rfl (.no rfl) (hd_sup hs rfl) (.tmp (hs.slots _ _ rfl) fun _ => rfl) .no (.yes (.tmp (hs.slots _ _ rfl) fun _ => rfl) (fun _ => by first | omega | (simp <;> omega))) Try.underlying26 ty165 (fun _ => ⟨by omega, by first | omega | (simp; omega)⟩)) ?_
          refine DrawC.step rfl rfl rfl (Loc.ofs rfl fun σ' hs hf => R_call 6000 (ih y (by rw [hk2]; simp) _ (sl_pre hte)) rfl rfl (hd_sup hs rfl) (.cons (.tmp (hs.slots _ _ rfl) fun _ => rfl) (readA_sup hs rfl) .nil) rfl (all_fresh hf)) ?_
          refine DrawC.step rfl rfl rfl (Loc.of rfl fun σ' hs => (by first | exact R_fieldAddr rfl (.no rfl) (hd_sup hs rfl) (.tmp (hs.slots _ _ rfl) fun _ => rfl) fl165_2 | exact R_fieldAddr_pp rfl (.no rfl) (hd_sup hs rfl) (.tmp (hs.slots _ _ rfl) fun _ => rfl) fl165_2 | exact R_fieldAddr_vw rfl (.no rfl) (hd_sup hs rfl) (.tmp (hs.slots _ _ rfl) fun _ => rfl) fl165_2 | exact R_fieldAddr_pr rfl (.no rfl) (hd_sup hs rfl) (.tmp (hs.slots _ _ rfl) fun _ => rfl) fl165_2)) ?_
          refine DrawC.step rfl rfl rfl (Loc.of rfl fun σ' hs => (by first | exact R_load rfl (.no rfl) (hd_sup hs rfl) (.tmp (hs.slots _ _ rfl) fun _ => rfl) ty3 rfl rfl | exact R_load_pp rfl (.no rfl) (hd_sup hs rfl) (.tmp (hs.slots _ _ rfl) fun _ => rfl) (hs.res _ _ rfl) ty3 rfl rfl | exact R_load_vw rfl (.no rfl) (hd_sup hs rfl) (.tmp (hs.slots _ _ rfl) fun _ => rfl) ty3 rfl rfl | exact R_load_pr rfl (.no rfl) (hd_sup hs rfl) (.tmp (hs.slots _ _ rfl) fun _ => rfl) (hs.res _ _ rfl) map_get hlast ty3 rfl rfl)) ?_
          refine DrawC.step rfl rfl rfl (Loc.of rfl fun σ' hs => (by first | exact R_fieldAddr rfl (.no rfl) (hd_sup hs rfl) (.tmp (hs.slots _ _ rfl) fun _ => rfl) fl165_3 | exact R_fieldAddr_pp rfl (.no rfl) (hd_sup hs rfl) (.tmp (hs.slots _ _ rfl) fun _ => rfl) fl165_3 | exact R_fieldAddr_vw rfl (.no rfl) (hd_sup hs rfl) (.tmp (hs.slots _ _ rfl) fun _ => rfl) fl165_3 | exact R_fieldAddr_pr rfl (.no rfl) (hd_sup hs rfl) (.tmp (hs.slots _ _ rfl) fun _ => rfl) fl165_3)) ?_
          refine DrawC.step rfl rfl rfl (Loc.of rfl fun σ' hs => (by first | exact R_load rfl (.no rfl) (hd_sup hs rfl) (.tmp (hs.slots _ _ rfl) fun _ => rfl) ty3 rfl rfl | exact R_load_pp rfl (.no rfl) (hd_sup hs rfl) (.tmp (hs.slots _ _ rfl) fun _ => rfl) (hs.res _ _ rfl) ty3 rfl rfl | exact R_load_vw rfl (.no rfl) (hd_sup hs rfl) (.tmp (hs.slots _ _ rfl) fun _ => rfl) ty3 rfl rfl | exact R_load_pr rfl (.no rfl) (hd_sup hs rfl) (.tmp (hs.slots _ _ rfl) fun _ => rfl) (hs.res _ _ rfl) map_get hlast ty3 rfl rfl)) ?_
          refine DrawC.fin rfl rfl ?_
          apply AWl.consume
          case ho =>
            apply R_consume (xo := .tmp 60) 6500 (specl30Repeat ⟨simpT y⟩ x.tok.Low x.tok.High (by show _ < _; dsimp only; omega) (by show _ ≤ _; dsimp only; omega)) rfl rfl rfl (.tmp rfl fun _ => rfl)
            case ha => rfl
            case hargs => exact (ArgC.own (ArgRd.one (.tmp rfl fun _ => rfl) (ArgRd.one (.tmp rfl fun _ => rfl) .nil)))
            all_goals rfl
          case hd => rfl
          refine AWl.chgb (R_store_pb rfl rfl rfl (.tmp rfl fun _ => rfl) (.tmp rfl fun _ => rfl) rfl ty28 rfl rfl rfl (by kernel_rfl) rfl) ?_
          refine AWl.nil ?_
          refine AW.ret ?_
          refine Res.one rfl (.cell rfl rfl ty28 rfl rfl .nil) rfl ?_
          rw [hk2]; simp only [List.map, simpG]; rw [if_neg (by omega)]; rfl
        · skip
          try simp at h55
          refine AW.skip ?_
          refine AW.seq ?_
          -- region 14
          refine AW.region ?_
          refine AWl.put ((by first | exact R_load rfl (.no rfl) rfl (.tmp rfl fun _ => rfl) ty165 rfl rfl | exact R_load_pp rfl (.no rfl) rfl (.tmp rfl fun _ => rfl) rfl ty165 rfl rfl | exact R_load_vw rfl (.no rfl) rfl (.tmp rfl fun _ => rfl) ty165 rfl rfl | exact R_load_pr rfl (.no rfl) rfl (.tmp rfl fun _ => rfl) rfl map_get hlast ty165 rfl rfl)) rfl ?_
          refine AWl.absadd (R_list (xs := [.tmp 66]) 67 rfl rfl rfl (.cons (.tmp rfl fun _ => rfl) rfl rfl .nil) Try.underlying26 in165 rfl rfl rfl rfl) rfl ?_
          refine AWl.put (R_build (ps := [(0, .tmp 67)]) rfl rfl rfl in28 rfl rfl st28 (.cons (.tmp rfl fun _ => rfl) rfl rfl fp28_0 .nil) rfl) rfl ?_
          refine AWl.chgb (R_store_pb rfl rfl rfl (.tmp rfl fun _ => rfl) (.tmp rfl fun _ => rfl) rfl ty28 rfl rfl rfl (by kernel_rfl) rfl) ?_
          refine AWl.nil ?_
          refine AW.ret ?_
          refine Res.one rfl (.cell rfl rfl ty28 rfl rfl .nil) rfl ?_
          rw [kind_no' hg (by omega)]; rfl
theorem specl30Simplify : ∀ x : Tr, good x → (toks x).length ≤ 1048576 → FnT Try.prog 77 [.one (.sl 4 ((toks x).map cToken))] (.a (.agg (cExpr ⟨simpT x⟩))) :=
  Tr.ind fun x ih hg hz => specl30Simplify1 x hg hz fun y hy L hL => by subst hL; exact ih y hy (good_kids hg y hy) (by have := kids_toks hy; omega)
theorem specSimplifyExpr (e : TExpr) : FnT Try.prog 16 [.agg (cExpr e)] (.tup [.agg (cExpr (simplify e).1), .one (.v (.bool (simplify e).2))]) := by
  refine FnT.walk Try.func16 rfl (by kernel_rfl) Try.ntmps16 rfl fun hlen w0 => ?_
  try simp [cPair, cToken, cExpr, cEdge, cGraph, cStep, cWalk, cChange, cBatch, cHistory, cPositions, cAutomaton, cProductStep, cPathAtom, cConjunction, cView, cDelta, cRegistered, cRegistry] at hlen
  refine AW.seq ?_
  -- region 0
  refine AW.region ?_
  refine AWl.put (R_boxz rfl rfl rfl (.tmp rfl fun _ => rfl) (ts := _) (by first | rfl | exact cells_t1 _ | exact cells_t2 _)) rfl ?_
  refine AWl.add (R_alloc 2 rfl rfl rfl in28 rfl rfl rfl) rfl ?_
  refine AWl.put (R_assign rfl (.no rfl) rfl (.const rfl)) rfl ?_
  refine AWl.nil ?_
  refine AW.seq ?_
  refine AW.seq ?_
  -- region 1
  refine AW.region ?_
  refine AWl.put ((by first | exact R_load rfl (.no rfl) rfl (.tmp rfl fun _ => rfl) ty28 rfl rfl | exact R_load_pp rfl (.no rfl) rfl (.tmp rfl fun _ => rfl) rfl ty28 rfl rfl | exact R_load_vw rfl (.no rfl) rfl (.tmp rfl fun _ => rfl) ty28 rfl rfl | exact R_load_pr rfl (.no rfl) rfl (.tmp rfl fun _ => rfl) rfl (by first | assumption | exact map_get (by assumption)) ty28 rfl rfl)) rfl ?_
  refine AWl.put (R_callz (FnT.fr (specIsValidExpr _)) rfl (.no rfl) rfl (.cons (.tmp rfl fun _ => rfl) rfl .nil)) rfl ?_
  refine AWl.put (R_not rfl (.no rfl) rfl (.tmp rfl fun _ => rfl)) rfl ?_
  refine AWl.nil ?_
  refine AW.cond (.tmp rfl fun _ => rfl) (fun h6 => ?_) (fun h6 => ?_)
  · skip
    try simp at h6
    refine AW.seq ?_
    -- region 2
    refine AW.region ?_
    refine AWl.put (R_build (ps := []) rfl rfl rfl in28 rfl rfl st28 .nil rfl) rfl ?_
    refine AWl.nilA (i := 7) 20001 4 0 rfl rfl rfl ?_
    refine AWl.chgb (R_store_pb rfl rfl rfl (.tmp rfl fun _ => rfl) (.tmp rfl fun _ => rfl) rfl ty28 rfl rfl rfl (by kernel_rfl) rfl) ?_
    refine AWl.le (σ' := ⟨_, [(0, _), (1, _), (2, _), (3, _), (6, _)], [(2, _), (20001, _)]⟩) (Le.sub0 rfl ⟨rfl, rfl, rfl, rfl, rfl, trivial⟩ ⟨rfl, rfl, trivial⟩) ?_
    refine AWl.put (R_assign rfl (.no rfl) rfl (.const rfl)) rfl ?_
    refine AWl.nil ?_
    refine AW.ret ?_
    refine Res.many rfl (.cell rfl rfl ty28 rfl rfl (.tmp rfl .nil)) rfl ?_ (by simp)
    rw [simplify_no h6]; rfl
  · skip
    try simp at h6
    obtain ⟨x, hx, htk, hgx, hl⟩ := valid_tree h6
    have hht := specl30Simplify x hgx (by rw [htk]; omega)
    rw [htk] at hht
    refine AW.skip ?_
    refine AW.seq ?_
    -- region 3
    refine AW.region ?_
    refine AWl.put ((by first | exact R_fieldAddr rfl (.no rfl) rfl (.tmp rfl fun _ => rfl) fl28_0 | exact R_fieldAddr_pp rfl (.no rfl) rfl (.tmp rfl fun _ => rfl) fl28_0 | exact R_fieldAddr_vw rfl (.no rfl) rfl (.tmp rfl fun _ => rfl) fl28_0 | exact R_fieldAddr_pr rfl (.no rfl) rfl (.tmp rfl fun _ => rfl) fl28_0)) rfl ?_
    refine AWl.put ((by first | exact R_load rfl (.no rfl) rfl (.tmp rfl fun _ => rfl) ty26 rfl rfl | exact R_load_pp rfl (.no rfl) rfl (.tmp rfl fun _ => rfl) rfl ty26 rfl rfl | exact R_load_vw rfl (.no rfl) rfl (.tmp rfl fun _ => rfl) ty26 rfl rfl | exact R_load_pr rfl (.no rfl) rfl (.tmp rfl fun _ => rfl) rfl (by first | assumption | exact map_get (by assumption)) ty26 rfl rfl)) rfl ?_
    refine AWl.adds (R_call 1000 (hht) rfl rfl rfl (.cons (.tmp rfl fun _ => rfl) rfl .nil) rfl rfl) rfl ?_
    refine AWl.chgb (R_store_pb rfl rfl rfl (.tmp rfl fun _ => rfl) (.tmp rfl fun _ => rfl) rfl ty28 rfl rfl rfl (by kernel_rfl) rfl) ?_
    refine AWl.le (σ' := ⟨_, [(0, _), (1, _), (2, _), (3, _), (6, _)], [(2, _), (1000, _)]⟩) (Le.sub0 rfl ⟨rfl, rfl, rfl, rfl, rfl, trivial⟩ ⟨rfl, rfl, trivial⟩) ?_
    refine AWl.put (R_assign rfl (.no rfl) rfl (.const rfl)) rfl ?_
    refine AWl.nil ?_
    refine AW.ret ?_
    refine Res.many rfl (.cell rfl rfl ty28 rfl rfl (.tmp rfl .nil)) rfl ?_ (by simp)
    rw [simplify_yes h6 hx]; rfl
theorem simplify_len (e : TExpr) : (simplify e).1.Tokens.length ≤ e.Tokens.length := by
  cases h : isValidExpr e with
  | false => rw [simplify_no h]; simp
  | true =>
    obtain ⟨x, hx, htk, hgx, hl⟩ := valid_tree h
    rw [simplify_yes h hx, ← htk]
    exact (simpT_len x).2
theorem simplify_cnt (e : TExpr) (h : okExpr e) : cpExpr (simplify e).1 ≤ 4194304 := by
  have h1 := simplify_len e
  have h2 : e.Tokens.length ≤ 1048576 := h.1
  unfold cpExpr cntTokenS
  have h3 : cntL cntToken (simplify e).1.Tokens = 4 * (simplify e).1.Tokens.length := by
    generalize (simplify e).1.Tokens = l
    induction l with
    | nil => rfl
    | cons x l ih => rw [cntL, ih, List.length_cons]; unfold cntToken; omega
  rw [h3]; omega
end Go.Proofs.Ytjmefmdeghggeaa
