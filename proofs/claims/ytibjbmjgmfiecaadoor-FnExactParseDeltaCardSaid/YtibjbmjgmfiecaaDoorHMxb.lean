/- The contracts of mark.. and held.. -/
import Derived.Test.YtibjbmjgmfiecaaDoorMDxb
set_option linter.unusedVariables false
set_option linter.unusedSimpArgs false
namespace Go.Proofs.YtibjbmjgmfiecaaDoor
open Go.RowKit Go.Q Go.D
set_option maxRecDepth 100000 in
theorem MmarkPairS (l : (List TPair)) (k : Int) (hk : 0 ≤ k ∧ k + cntPairS l ≤ 4611686018427387904) : FnM Tryd.prog 47 (.one (.sl 2 (l.map cPair))) (.int .i64 k) (.one (.sl 2 ((mkPairS l k).map cPair))) (.int .i64 (k + cntPairS l)) := by
  refine FnM.walk (y := .one (.rf 1000)) (R0 := fun hd => [(1000, .row 2 (l.map cPair)), (500, .hdr (some 1000) (hd 1000))]) (ts := [.sl 2 ((mkPairS l k).map cPair)]) Tryd.func47 rfl (by kernel_rfl) Tryd.ntmps47 rfl rfl rfl rfl rfl rfl rfl rfl fun hlen w0 hd => ?_
  try simp [cPair, cToken, cExpr, cEdge, cGraph, cStep, cWalk, cChange, cBatch, cHistory, cPositions, cAutomaton, cProductStep, cPathAtom, cConjunction, cView, cDelta, cRegistered, cRegistry] at hlen
  try simp only [LenV, LenT, List.length_map] at hlen
  unfold cntPairS at hk
  refine AW.seq ?_
  refine AW.region ?_
  refine AWl.put (R_assign rfl (.no rfl) rfl (.const rfl)) rfl ?_
  refine AWl.nil ?_
  refine AW.seq ?_
  refine AW.seq ?_
  refine AW.region ?_
  refine AWl.put (R_assign rfl (.no rfl) rfl (.const rfl)) rfl ?_
  refine AWl.nil ?_
  refine AW.block ?_
  refine AW.loop (β := Nat × Int) (fun j => j.1 ≤ l.length ∧ j.2 = k + cntL cntPair (l.take j.1)) (fun j => ⟨_, [(5, (true, .a (.one (.t (.v (.int .i64 (j.1 : Nat))))))), (1, (true, .a (.one (.t (.v (.int .i64 j.2)))))), (0, _), (4, _)], [(1000, .row 2 ((mkL mkPair cntPair (l.take j.1) k).map cPair ++ (l.drop j.1).map cPair)), (500, .hdr (some 1000) (hd 1000))]⟩) (fun j => l.length - j.1) ((0, k)) ⟨Nat.zero_le _, by simp [cntL]⟩ (Le.sub0 rfl ⟨rfl, rfl, rfl, rfl, trivial⟩ ⟨rfl, rfl, trivial⟩) ?_
  intro ⟨i, κ⟩ ⟨hi, hκ⟩
  dsimp only at hi hκ; subst hκ
  refine AW.seq ?_
  refine AW.seq ?_
  refine AW.region ?_
  refine AWl.put (R_move rfl (.no rfl) rfl (.tmp rfl fun _ => rfl)) rfl ?_
  refine AWl.put (R_move rfl (.no rfl) rfl (.tmp rfl fun _ => rfl)) rfl ?_
  refine AWl.put ((by first | exact R_lenm rfl (.no rfl) rfl (.tmp rfl fun _ => rfl) (by first | exact .t | exact .rf rfl | exact .vw | exact .nil) Tryd.underlying33 | exact R_len rfl (.no rfl) rfl (.tmp rfl fun _ => rfl) (by first | exact .t | exact .rf rfl | exact .vw | exact .nil) Tryd.underlying33)) rfl ?_
  refine AWl.put (R_lt rfl (.no rfl) rfl (.tmp rfl fun _ => rfl) (.tmp rfl fun _ => rfl)) rfl ?_
  refine AWl.nil ?_
  refine AW.cond (.tmp rfl fun _ => rfl) (fun hlt => ?_) (fun hlt => ?_)
  · skip
    try simp at hlt
    replace hlt : i < l.length := by simp only [mkL_length, List.length_take] at hlt; omega
    obtain ⟨x, hx⟩ : ∃ x, l[i]? = some x := ⟨_, List.getElem?_eq_getElem hlt⟩
    have hrow := mark_at (f := mkPair) (c := cntPair) (k := k) cPair hx
    have hcs := cntL_at (c := cntPair) hx
    have hcn := cntL_nonneg cntPair_nn (l.take i)
    have hcl := cntL_le cntPair_nn l (i + 1)
    have hce : cntPair x = 1 + 1 := rfl
    refine AW.skip ?_
    refine AW.seq ?_
    refine AW.block ?_
    refine AW.seq ?_
    refine AW.region ?_
    refine AWl.put (R_move rfl (.no rfl) rfl (.tmp rfl fun _ => rfl)) rfl ?_
    refine AWl.put (R_move rfl (.no rfl) rfl (.tmp rfl fun _ => rfl)) rfl ?_
    refine AWl.put (R_move rfl (.no rfl) rfl (.tmp rfl fun _ => rfl)) rfl ?_
    refine AWl.put ((by first | exact R_indexAddr rfl (.no rfl) rfl (.tmp rfl fun _ => rfl) (.tmp rfl fun _ => rfl) Tryd.underlying33 ty90 (fun _ => ⟨by omega, (by first | exact hrow | exact set_at _ (hrow) | exact set_at _ (set_at _ (hrow)))⟩) | exact R_indexAddr_vw rfl (.no rfl) rfl (.tmp rfl fun _ => rfl) (.tmp rfl fun _ => rfl) Tryd.underlying33 ty90 (fun _ => ⟨by omega, (by first | exact hrow | exact set_at _ (hrow) | exact set_at _ (set_at _ (hrow)))⟩) | exact R_indexAddr_rf rfl (.no rfl) rfl (.tmp rfl fun _ => rfl) rfl (.tmp rfl fun _ => rfl) Tryd.underlying33 ty90 (fun _ => ⟨by omega, (by first | exact hrow | exact set_at _ (hrow) | exact set_at _ (set_at _ (hrow)))⟩))) rfl ?_
    refine AWl.put ((by first | exact R_fieldAddr rfl (.no rfl) rfl (.tmp rfl fun _ => rfl) fl90_0 | exact R_fieldAddr_pp rfl (.no rfl) rfl (.tmp rfl fun _ => rfl) fl90_0 | exact R_fieldAddr_vw rfl (.no rfl) rfl (.tmp rfl fun _ => rfl) fl90_0 | exact R_fieldAddr_pr rfl (.no rfl) rfl (.tmp rfl fun _ => rfl) fl90_0)) rfl ?_
    refine AWl.absupd (R_store_pr rfl rfl rfl (.tmp rfl fun _ => rfl) rfl (.tmp rfl fun _ => rfl) rfl (by first | exact hrow | exact set_at _ (hrow) | exact set_at _ (set_at _ (hrow))) ty3 rfl rfl rfl rfl) ?_
    refine AWl.nil ?_
    refine AW.seq ?_
    refine AW.region ?_
    refine AWl.put (R_move rfl (.no rfl) rfl (.tmp rfl fun _ => rfl)) rfl ?_
    refine AWl.put (R_add rfl (.no rfl) rfl (.tmp rfl fun _ => rfl) (.const rfl) (fun _ => by omega)) rfl ?_
    refine AWl.put (R_assign rfl (.no rfl) rfl (.tmp rfl fun _ => rfl)) rfl ?_
    refine AWl.nil ?_
    refine AW.seq ?_
    refine AW.region ?_
    refine AWl.put (R_move rfl (.no rfl) rfl (.tmp rfl fun _ => rfl)) rfl ?_
    refine AWl.put (R_move rfl (.no rfl) rfl (.tmp rfl fun _ => rfl)) rfl ?_
    refine AWl.put (R_move rfl (.no rfl) rfl (.tmp rfl fun _ => rfl)) rfl ?_
    refine AWl.put ((by first | exact R_indexAddr rfl (.no rfl) rfl (.tmp rfl fun _ => rfl) (.tmp rfl fun _ => rfl) Tryd.underlying33 ty90 (fun _ => ⟨by omega, (by first | exact hrow | exact set_at _ (hrow) | exact set_at _ (set_at _ (hrow)))⟩) | exact R_indexAddr_vw rfl (.no rfl) rfl (.tmp rfl fun _ => rfl) (.tmp rfl fun _ => rfl) Tryd.underlying33 ty90 (fun _ => ⟨by omega, (by first | exact hrow | exact set_at _ (hrow) | exact set_at _ (set_at _ (hrow)))⟩) | exact R_indexAddr_rf rfl (.no rfl) rfl (.tmp rfl fun _ => rfl) rfl (.tmp rfl fun _ => rfl) Tryd.underlying33 ty90 (fun _ => ⟨by omega, (by first | exact hrow | exact set_at _ (hrow) | exact set_at _ (set_at _ (hrow)))⟩))) rfl ?_
    refine AWl.put ((by first | exact R_fieldAddr rfl (.no rfl) rfl (.tmp rfl fun _ => rfl) fl90_1 | exact R_fieldAddr_pp rfl (.no rfl) rfl (.tmp rfl fun _ => rfl) fl90_1 | exact R_fieldAddr_vw rfl (.no rfl) rfl (.tmp rfl fun _ => rfl) fl90_1 | exact R_fieldAddr_pr rfl (.no rfl) rfl (.tmp rfl fun _ => rfl) fl90_1)) rfl ?_
    refine AWl.absupd (R_store_pr rfl rfl rfl (.tmp rfl fun _ => rfl) rfl (.tmp rfl fun _ => rfl) rfl (by first | exact hrow | exact set_at _ (hrow) | exact set_at _ (set_at _ (hrow))) ty3 rfl rfl rfl rfl) ?_
    refine AWl.nil ?_
    refine AW.region ?_
    refine AWl.put (R_move rfl (.no rfl) rfl (.tmp rfl fun _ => rfl)) rfl ?_
    refine AWl.put (R_add rfl (.no rfl) rfl (.tmp rfl fun _ => rfl) (.const rfl) (fun _ => by omega)) rfl ?_
    refine AWl.put (R_assign rfl (.no rfl) rfl (.tmp rfl fun _ => rfl)) rfl ?_
    refine AWl.nil ?_
    refine AW.region ?_
    refine AWl.put (R_move rfl (.no rfl) rfl (.tmp rfl fun _ => rfl)) rfl ?_
    refine AWl.put (R_add rfl (.no rfl) rfl (.tmp rfl fun _ => rfl) (.const rfl) (fun _ => by omega)) rfl ?_
    refine AWl.put (R_assign rfl (.no rfl) rfl (.tmp rfl fun _ => rfl)) rfl ?_
    refine AWl.nil ?_
    refine Round.next (i + 1, _) ⟨by dsimp only; omega, by dsimp only; omega⟩ (by dsimp only; omega) (Le.sub0 rfl ⟨rfl, rfl, rfl, rfl, trivial⟩ ⟨congrArg (fun r => some (R.row 2 r)) (by simp only [List.set_set]; exact mark_set _ hx rfl), rfl, trivial⟩)
  · skip
    try simp at hlt
    replace hlt : l.length ≤ i := by simp only [mkL_length, List.length_take] at hlt; omega
    refine AW.exit ?_
    refine AW.seq ?_
    refine AW.region ?_
    refine AWl.put (R_move rfl (.no rfl) rfl (.tmp rfl fun _ => rfl)) rfl ?_
    refine AWl.put (R_assign rfl (.no rfl) rfl (.tmp rfl fun _ => rfl)) rfl ?_
    refine AWl.nil ?_
    refine AW.ret ?_
    refine RetM.mk (Res.v rfl rfl ?_) (.rf (congrArg (fun r => some (R.row 2 r)) (mark_all _ (by omega))) rfl rfl .nil)
    rw [cntL_all (by omega)]; rfl
set_option maxRecDepth 100000 in
theorem MheldPairS (l : (List TPair)) (k : Int) (hk : 0 ≤ k ∧ k + cntPairS l ≤ 4611686018427387904) : FnT Tryd.prog 48 [.one (.sl 2 ((mkPairS l k).map cPair)), .one (.v (.int .i64 k))] (.a (.one (.v (.int .i64 (k + cntPairS l))))) := by
  refine FnT.walk Tryd.func48 rfl (by kernel_rfl) Tryd.ntmps48 rfl fun hlen w0 => ?_
  try simp [cPair, cToken, cExpr, cEdge, cGraph, cStep, cWalk, cChange, cBatch, cHistory, cPositions, cAutomaton, cProductStep, cPathAtom, cConjunction, cView, cDelta, cRegistered, cRegistry] at hlen
  unfold cntPairS at hk ⊢; unfold mkPairS at hlen ⊢; try simp only [LenV, LenT, List.length_map, mkL_length] at hlen
  refine AW.seq ?_
  refine AW.region ?_
  refine AWl.put (R_assign rfl (.no rfl) rfl (.const rfl)) rfl ?_
  refine AWl.nil ?_
  refine AW.seq ?_
  refine AW.seq ?_
  refine AW.region ?_
  refine AWl.put (R_assign rfl (.no rfl) rfl (.const rfl)) rfl ?_
  refine AWl.nil ?_
  refine AW.block ?_
  refine AW.loop (β := Nat × Int) (fun j => j.1 ≤ l.length ∧ j.2 = k + cntL cntPair (l.take j.1)) (fun j => ⟨_, [(5, (true, .a (.one (.t (.v (.int .i64 (j.1 : Nat))))))), (1, (true, .a (.one (.t (.v (.int .i64 j.2)))))), (0, _)], []⟩) (fun j => l.length - j.1) ((0, k)) ⟨Nat.zero_le _, by simp [cntL]⟩ (Le.sub0 rfl ⟨rfl, rfl, rfl, trivial⟩ trivial) ?_
  intro ⟨i, κ⟩ ⟨hi, hκ⟩
  dsimp only at hi hκ; subst hκ
  refine AW.seq ?_
  refine AW.seq ?_
  refine AW.region ?_
  refine AWl.put (R_move rfl (.no rfl) rfl (.tmp rfl fun _ => rfl)) rfl ?_
  refine AWl.put (R_move rfl (.no rfl) rfl (.tmp rfl fun _ => rfl)) rfl ?_
  refine AWl.put ((by first | exact R_lenm rfl (.no rfl) rfl (.tmp rfl fun _ => rfl) (by first | exact .t | exact .rf rfl | exact .vw | exact .nil) Tryd.underlying33 | exact R_len rfl (.no rfl) rfl (.tmp rfl fun _ => rfl) (by first | exact .t | exact .rf rfl | exact .vw | exact .nil) Tryd.underlying33)) rfl ?_
  refine AWl.put (R_lt rfl (.no rfl) rfl (.tmp rfl fun _ => rfl) (.tmp rfl fun _ => rfl)) rfl ?_
  refine AWl.nil ?_
  refine AW.cond (.tmp rfl fun _ => rfl) (fun hlt => ?_) (fun hlt => ?_)
  · skip
    try simp at hlt
    rw [mkL_length] at hlt
    obtain ⟨x, hx⟩ : ∃ x, l[i]? = some x := ⟨_, List.getElem?_eq_getElem hlt⟩
    have hrow := map_get (f := cPair) (mkL_get (f := mkPair) (c := cntPair) (k := k) hx)
    have hcs := cntL_at (c := cntPair) hx
    have hcn := cntL_nonneg cntPair_nn (l.take i)
    have hcl := cntL_le cntPair_nn l (i + 1)
    have hce : cntPair x = 1 + 1 := rfl
    refine AW.skip ?_
    refine AW.seq ?_
    refine AW.block ?_
    refine AW.seq ?_
    refine AW.seq ?_
    refine AW.region ?_
    refine AWl.put (R_move rfl (.no rfl) rfl (.tmp rfl fun _ => rfl)) rfl ?_
    refine AWl.put (R_move rfl (.no rfl) rfl (.tmp rfl fun _ => rfl)) rfl ?_
    refine AWl.put ((by first | exact R_indexAddr rfl (.no rfl) rfl (.tmp rfl fun _ => rfl) (.tmp rfl fun _ => rfl) Tryd.underlying33 ty90 (fun _ => ⟨by omega, hrow⟩) | exact R_indexAddr_vw rfl (.no rfl) rfl (.tmp rfl fun _ => rfl) (.tmp rfl fun _ => rfl) Tryd.underlying33 ty90 (fun _ => ⟨by omega, hrow⟩) | exact R_indexAddr_rf rfl (.no rfl) rfl (.tmp rfl fun _ => rfl) rfl (.tmp rfl fun _ => rfl) Tryd.underlying33 ty90 (fun _ => ⟨by omega, hrow⟩))) rfl ?_
    refine AWl.put ((by first | exact R_fieldAddr rfl (.no rfl) rfl (.tmp rfl fun _ => rfl) fl90_0 | exact R_fieldAddr_pp rfl (.no rfl) rfl (.tmp rfl fun _ => rfl) fl90_0 | exact R_fieldAddr_vw rfl (.no rfl) rfl (.tmp rfl fun _ => rfl) fl90_0 | exact R_fieldAddr_pr rfl (.no rfl) rfl (.tmp rfl fun _ => rfl) fl90_0)) rfl ?_
    refine AWl.put ((by first | exact R_load rfl (.no rfl) rfl (.tmp rfl fun _ => rfl) ty3 rfl rfl | exact R_load_pp rfl (.no rfl) rfl (.tmp rfl fun _ => rfl) rfl ty3 rfl rfl | exact R_load_vw rfl (.no rfl) rfl (.tmp rfl fun _ => rfl) ty3 rfl rfl | exact R_load_pr rfl (.no rfl) rfl (.tmp rfl fun _ => rfl) rfl hrow ty3 rfl rfl)) rfl ?_
    refine AWl.put (R_move rfl (.no rfl) rfl (.tmp rfl fun _ => rfl)) rfl ?_
    refine AWl.put (R_ne rfl (.no rfl) rfl (.tmp rfl fun _ => rfl) (.tmp rfl fun _ => rfl)) rfl ?_
    refine AWl.nil ?_
    refine AW.cond (.tmp rfl fun _ => rfl) (fun h18 => ?_) (fun h18 => ?_)
    · first | (exfalso; simp at h18; omega) | (exfalso; simp [mkPair] at h18; done) | (exfalso; simp [mkPair] at h18; omega)
    · skip
      try simp at h18
      refine AW.skip ?_
      refine AW.seq ?_
      refine AW.region ?_
      refine AWl.put (R_move rfl (.no rfl) rfl (.tmp rfl fun _ => rfl)) rfl ?_
      refine AWl.put (R_add rfl (.no rfl) rfl (.tmp rfl fun _ => rfl) (.const rfl) (fun _ => by omega)) rfl ?_
      refine AWl.put (R_assign rfl (.no rfl) rfl (.tmp rfl fun _ => rfl)) rfl ?_
      refine AWl.nil ?_
      refine AW.seq ?_
      refine AW.seq ?_
      refine AW.region ?_
      refine AWl.put (R_move rfl (.no rfl) rfl (.tmp rfl fun _ => rfl)) rfl ?_
      refine AWl.put (R_move rfl (.no rfl) rfl (.tmp rfl fun _ => rfl)) rfl ?_
      refine AWl.put ((by first | exact R_indexAddr rfl (.no rfl) rfl (.tmp rfl fun _ => rfl) (.tmp rfl fun _ => rfl) Tryd.underlying33 ty90 (fun _ => ⟨by omega, hrow⟩) | exact R_indexAddr_vw rfl (.no rfl) rfl (.tmp rfl fun _ => rfl) (.tmp rfl fun _ => rfl) Tryd.underlying33 ty90 (fun _ => ⟨by omega, hrow⟩) | exact R_indexAddr_rf rfl (.no rfl) rfl (.tmp rfl fun _ => rfl) rfl (.tmp rfl fun _ => rfl) Tryd.underlying33 ty90 (fun _ => ⟨by omega, hrow⟩))) rfl ?_
      refine AWl.put ((by first | exact R_fieldAddr rfl (.no rfl) rfl (.tmp rfl fun _ => rfl) fl90_1 | exact R_fieldAddr_pp rfl (.no rfl) rfl (.tmp rfl fun _ => rfl) fl90_1 | exact R_fieldAddr_vw rfl (.no rfl) rfl (.tmp rfl fun _ => rfl) fl90_1 | exact R_fieldAddr_pr rfl (.no rfl) rfl (.tmp rfl fun _ => rfl) fl90_1)) rfl ?_
      refine AWl.put ((by first | exact R_load rfl (.no rfl) rfl (.tmp rfl fun _ => rfl) ty3 rfl rfl | exact R_load_pp rfl (.no rfl) rfl (.tmp rfl fun _ => rfl) rfl ty3 rfl rfl | exact R_load_vw rfl (.no rfl) rfl (.tmp rfl fun _ => rfl) ty3 rfl rfl | exact R_load_pr rfl (.no rfl) rfl (.tmp rfl fun _ => rfl) rfl hrow ty3 rfl rfl)) rfl ?_
      refine AWl.put (R_move rfl (.no rfl) rfl (.tmp rfl fun _ => rfl)) rfl ?_
      refine AWl.put (R_ne rfl (.no rfl) rfl (.tmp rfl fun _ => rfl) (.tmp rfl fun _ => rfl)) rfl ?_
      refine AWl.nil ?_
      refine AW.cond (.tmp rfl fun _ => rfl) (fun h27 => ?_) (fun h27 => ?_)
      · first | (exfalso; simp at h27; omega) | (exfalso; simp [mkPair] at h27; done) | (exfalso; simp [mkPair] at h27; omega)
      · skip
        try simp at h27
        refine AW.skip ?_
        refine AW.region ?_
        refine AWl.put (R_move rfl (.no rfl) rfl (.tmp rfl fun _ => rfl)) rfl ?_
        refine AWl.put (R_add rfl (.no rfl) rfl (.tmp rfl fun _ => rfl) (.const rfl) (fun _ => by omega)) rfl ?_
        refine AWl.put (R_assign rfl (.no rfl) rfl (.tmp rfl fun _ => rfl)) rfl ?_
        refine AWl.nil ?_
        refine AW.region ?_
        refine AWl.put (R_move rfl (.no rfl) rfl (.tmp rfl fun _ => rfl)) rfl ?_
        refine AWl.put (R_add rfl (.no rfl) rfl (.tmp rfl fun _ => rfl) (.const rfl) (fun _ => by omega)) rfl ?_
        refine AWl.put (R_assign rfl (.no rfl) rfl (.tmp rfl fun _ => rfl)) rfl ?_
        refine AWl.nil ?_
        refine Round.next (i + 1, _) ⟨by dsimp only; omega, by dsimp only; omega⟩ (by dsimp only; omega) (Le.sub0 rfl ⟨rfl, rfl, rfl, trivial⟩ trivial)
  · skip
    try simp at hlt
    rw [mkL_length] at hlt
    refine AW.exit ?_
    refine AW.seq ?_
    refine AW.region ?_
    refine AWl.put (R_move rfl (.no rfl) rfl (.tmp rfl fun _ => rfl)) rfl ?_
    refine AWl.put (R_assign rfl (.no rfl) rfl (.tmp rfl fun _ => rfl)) rfl ?_
    refine AWl.nil ?_
    refine AW.ret ?_
    refine Res.v rfl rfl ?_
    rw [cntL_all (by omega)]
set_option maxRecDepth 100000 in
theorem MmarkDelta (x : TDelta) (k : Int) (hk : 0 ≤ k ∧ k + cpDelta x ≤ 4611686018427387904) : FnM Tryd.prog 15 (.agg (cDelta x)) (.int .i64 k) (.agg (cDelta (mpDelta x k))) (.int .i64 (k + cpDelta x)) := by
  refine FnM.walk (y := .agg [.rf 1000, .rf 1001]) (R0 := fun hd => [(1001, .row 2 (x.Removed.map cPair)), (1000, .row 2 (x.Added.map cPair)), (500, .hdr (some 1000) (hd 1000)), (501, .hdr (some 1001) (hd 1001))]) (ts := cDelta (mpDelta x k)) Tryd.func15 rfl (by kernel_rfl) Tryd.ntmps15 rfl rfl rfl rfl rfl rfl rfl rfl fun hlen w0 hd => ?_
  try simp [cPair, cToken, cExpr, cEdge, cGraph, cStep, cWalk, cChange, cBatch, cHistory, cPositions, cAutomaton, cProductStep, cPathAtom, cConjunction, cView, cDelta, cRegistered, cRegistry] at hlen
  have := cntPairS_nn x.Added
  have := cntPairS_nn x.Removed
  have hce : cpDelta x = cntPairS x.Added + cntPairS x.Removed := rfl
  refine AW.seq ?_
  refine AW.region ?_
  refine AWl.add (R_box 2 rfl rfl rfl (.tmp rfl fun _ => rfl) rfl rfl rfl) rfl ?_
  refine AWl.put (R_assign rfl (.no rfl) rfl (.const rfl)) rfl ?_
  refine AWl.nil ?_
  refine AW.seq ?_
  refine AW.region ?_
  refine AWl.put ((by first | exact R_fieldAddr rfl (.no rfl) rfl (.tmp rfl fun _ => rfl) fl35_0 | exact R_fieldAddr_pp rfl (.no rfl) rfl (.tmp rfl fun _ => rfl) fl35_0 | exact R_fieldAddr_vw rfl (.no rfl) rfl (.tmp rfl fun _ => rfl) fl35_0 | exact R_fieldAddr_pr rfl (.no rfl) rfl (.tmp rfl fun _ => rfl) fl35_0)) rfl ?_
  refine AWl.put ((by first | exact R_load rfl (.no rfl) rfl (.tmp rfl fun _ => rfl) ty33 rfl rfl | exact R_load_pp rfl (.no rfl) rfl (.tmp rfl fun _ => rfl) rfl ty33 rfl rfl | exact R_load_vw rfl (.no rfl) rfl (.tmp rfl fun _ => rfl) ty33 rfl rfl | exact R_load_pr rfl (.no rfl) rfl (.tmp rfl fun _ => rfl) rfl (by first | assumption | exact map_get (by assumption)) ty33 rfl rfl)) rfl ?_
  refine AWl.put (R_move rfl (.no rfl) rfl (.tmp rfl fun _ => rfl)) rfl ?_
  refine AWl.marks (R_markc rfl rfl rfl (.tmp rfl fun _ => rfl) (.tmp rfl fun _ => rfl) (MmarkPairS _ _ (by omega)) (.rf rfl rfl .nil) rfl rfl) rfl ?_
  refine AWl.put (R_assign rfl (.no rfl) rfl (.tmp rfl fun _ => rfl)) rfl ?_
  refine AWl.nil ?_
  refine AW.seq ?_
  refine AW.region ?_
  refine AWl.put ((by first | exact R_fieldAddr rfl (.no rfl) rfl (.tmp rfl fun _ => rfl) fl35_1 | exact R_fieldAddr_pp rfl (.no rfl) rfl (.tmp rfl fun _ => rfl) fl35_1 | exact R_fieldAddr_vw rfl (.no rfl) rfl (.tmp rfl fun _ => rfl) fl35_1 | exact R_fieldAddr_pr rfl (.no rfl) rfl (.tmp rfl fun _ => rfl) fl35_1)) rfl ?_
  refine AWl.put ((by first | exact R_load rfl (.no rfl) rfl (.tmp rfl fun _ => rfl) ty33 rfl rfl | exact R_load_pp rfl (.no rfl) rfl (.tmp rfl fun _ => rfl) rfl ty33 rfl rfl | exact R_load_vw rfl (.no rfl) rfl (.tmp rfl fun _ => rfl) ty33 rfl rfl | exact R_load_pr rfl (.no rfl) rfl (.tmp rfl fun _ => rfl) rfl (by first | assumption | exact map_get (by assumption)) ty33 rfl rfl)) rfl ?_
  refine AWl.put (R_move rfl (.no rfl) rfl (.tmp rfl fun _ => rfl)) rfl ?_
  refine AWl.marks (R_markc rfl rfl rfl (.tmp rfl fun _ => rfl) (.tmp rfl fun _ => rfl) (MmarkPairS _ _ (by omega)) (.rf rfl rfl .nil) rfl rfl) rfl ?_
  refine AWl.put (R_assign rfl (.no rfl) rfl (.tmp rfl fun _ => rfl)) rfl ?_
  refine AWl.nil ?_
  refine AW.seq ?_
  refine AW.region ?_
  refine AWl.put (R_move rfl (.no rfl) rfl (.tmp rfl fun _ => rfl)) rfl ?_
  refine AWl.put (R_assign rfl (.no rfl) rfl (.tmp rfl fun _ => rfl)) rfl ?_
  refine AWl.nil ?_
  refine AW.ret ?_
  refine RetM.mk (Res.v rfl rfl ?_) (.rf rfl rfl rfl (.rf rfl rfl rfl .nil))
  first | rfl | (congr 1; omega)
set_option maxRecDepth 100000 in
theorem MheldDelta (x : TDelta) (k : Int) (hk : 0 ≤ k ∧ k + cpDelta x ≤ 4611686018427387904) : FnT Tryd.prog 16 [.agg (cDelta (mpDelta x k)), .one (.v (.int .i64 k))] (.a (.one (.v (.int .i64 (k + cpDelta x))))) := by
  refine FnT.walk Tryd.func16 rfl (by kernel_rfl) Tryd.ntmps16 rfl fun hlen w0 => ?_
  try simp [cPair, cToken, cExpr, cEdge, cGraph, cStep, cWalk, cChange, cBatch, cHistory, cPositions, cAutomaton, cProductStep, cPathAtom, cConjunction, cView, cDelta, cRegistered, cRegistry] at hlen
  have := cntPairS_nn x.Added
  have := cntPairS_nn x.Removed
  have hce : cpDelta x = cntPairS x.Added + cntPairS x.Removed := rfl
  refine AW.seq ?_
  refine AW.region ?_
  refine AWl.put (R_boxz rfl rfl rfl (.tmp rfl fun _ => rfl) (ts := _) (by first | rfl | exact cells_t1 _ | exact cells_t2 _)) rfl ?_
  refine AWl.put (R_assign rfl (.no rfl) rfl (.const rfl)) rfl ?_
  refine AWl.nil ?_
  refine AW.seq ?_
  refine AW.region ?_
  refine AWl.put ((by first | exact R_fieldAddr rfl (.no rfl) rfl (.tmp rfl fun _ => rfl) fl35_0 | exact R_fieldAddr_pp rfl (.no rfl) rfl (.tmp rfl fun _ => rfl) fl35_0 | exact R_fieldAddr_vw rfl (.no rfl) rfl (.tmp rfl fun _ => rfl) fl35_0 | exact R_fieldAddr_pr rfl (.no rfl) rfl (.tmp rfl fun _ => rfl) fl35_0)) rfl ?_
  refine AWl.put ((by first | exact R_load rfl (.no rfl) rfl (.tmp rfl fun _ => rfl) ty33 rfl rfl | exact R_load_pp rfl (.no rfl) rfl (.tmp rfl fun _ => rfl) rfl ty33 rfl rfl | exact R_load_vw rfl (.no rfl) rfl (.tmp rfl fun _ => rfl) ty33 rfl rfl | exact R_load_pr rfl (.no rfl) rfl (.tmp rfl fun _ => rfl) rfl (by first | assumption | exact map_get (by assumption)) ty33 rfl rfl)) rfl ?_
  refine AWl.put (R_move rfl (.no rfl) rfl (.tmp rfl fun _ => rfl)) rfl ?_
  refine AWl.put (R_callz (FnT.fr (MheldPairS _ _ (by omega))) rfl (.no rfl) rfl (.cons (.tmp rfl fun _ => rfl) rfl (.cons (.tmp rfl fun _ => rfl) rfl .nil))) rfl ?_
  refine AWl.put (R_assign rfl (.no rfl) rfl (.tmp rfl fun _ => rfl)) rfl ?_
  refine AWl.nil ?_
  refine AW.seq ?_
  refine AW.seq ?_
  refine AW.region ?_
  refine AWl.put (R_move rfl (.no rfl) rfl (.tmp rfl fun _ => rfl)) rfl ?_
  refine AWl.put (R_lt rfl (.no rfl) rfl (.tmp rfl fun _ => rfl) (.const rfl)) rfl ?_
  refine AWl.nil ?_
  refine AW.cond (.tmp rfl fun _ => rfl) (fun h10 => ?_) (fun h10 => ?_)
  · (exfalso; simp at h10; omega)
  · skip
    try simp at h10
    refine AW.skip ?_
    refine AW.seq ?_
    refine AW.region ?_
    refine AWl.put ((by first | exact R_fieldAddr rfl (.no rfl) rfl (.tmp rfl fun _ => rfl) fl35_1 | exact R_fieldAddr_pp rfl (.no rfl) rfl (.tmp rfl fun _ => rfl) fl35_1 | exact R_fieldAddr_vw rfl (.no rfl) rfl (.tmp rfl fun _ => rfl) fl35_1 | exact R_fieldAddr_pr rfl (.no rfl) rfl (.tmp rfl fun _ => rfl) fl35_1)) rfl ?_
    refine AWl.put ((by first | exact R_load rfl (.no rfl) rfl (.tmp rfl fun _ => rfl) ty33 rfl rfl | exact R_load_pp rfl (.no rfl) rfl (.tmp rfl fun _ => rfl) rfl ty33 rfl rfl | exact R_load_vw rfl (.no rfl) rfl (.tmp rfl fun _ => rfl) ty33 rfl rfl | exact R_load_pr rfl (.no rfl) rfl (.tmp rfl fun _ => rfl) rfl (by first | assumption | exact map_get (by assumption)) ty33 rfl rfl)) rfl ?_
    refine AWl.put (R_move rfl (.no rfl) rfl (.tmp rfl fun _ => rfl)) rfl ?_
    refine AWl.put (R_callz (FnT.fr (MheldPairS _ _ (by omega))) rfl (.no rfl) rfl (.cons (.tmp rfl fun _ => rfl) rfl (.cons (.tmp rfl fun _ => rfl) rfl .nil))) rfl ?_
    refine AWl.put (R_assign rfl (.no rfl) rfl (.tmp rfl fun _ => rfl)) rfl ?_
    refine AWl.nil ?_
    refine AW.seq ?_
    refine AW.seq ?_
    refine AW.region ?_
    refine AWl.put (R_move rfl (.no rfl) rfl (.tmp rfl fun _ => rfl)) rfl ?_
    refine AWl.put (R_lt rfl (.no rfl) rfl (.tmp rfl fun _ => rfl) (.const rfl)) rfl ?_
    refine AWl.nil ?_
    refine AW.cond (.tmp rfl fun _ => rfl) (fun h16 => ?_) (fun h16 => ?_)
    · (exfalso; simp at h16; omega)
    · skip
      try simp at h16
      refine AW.skip ?_
      refine AW.seq ?_
      refine AW.region ?_
      refine AWl.put (R_move rfl (.no rfl) rfl (.tmp rfl fun _ => rfl)) rfl ?_
      refine AWl.put (R_assign rfl (.no rfl) rfl (.tmp rfl fun _ => rfl)) rfl ?_
      refine AWl.nil ?_
      refine AW.ret ?_
      refine Res.v rfl rfl ?_
      first | rfl | (congr 1; omega)
end Go.Proofs.YtibjbmjgmfiecaaDoor
