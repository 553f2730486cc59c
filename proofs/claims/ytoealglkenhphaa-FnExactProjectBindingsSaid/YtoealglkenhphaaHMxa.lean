/- The contracts of mark.. and held.. -/
import Derived.Test.YtoealglkenhphaaMDxa
set_option linter.unusedVariables false
set_option linter.unusedSimpArgs false
namespace Go.Proofs.Ytoealglkenhphaa
open Go.RowKit Go.Q Go.D
set_option maxRecDepth 100000 in
theorem MmarkIntS (l : (List Int)) (k : Int) (hk : 0 ≤ k ∧ k + cntIntS l ≤ 4611686018427387904) : FnM Try.prog 13 (.one (.sl 1 (l.map cInt))) (.int .i64 k) (.one (.sl 1 ((mkIntS l k).map cInt))) (.int .i64 (k + cntIntS l)) := by
  refine FnM.walk (y := .one (.rf 1000)) (R0 := fun hd => [(1000, .row 1 (l.map cInt)), (500, .hdr (some 1000) (hd 1000))]) (ts := [.sl 1 ((mkIntS l k).map cInt)]) Try.func13 rfl (by kernel_rfl) Try.ntmps13 rfl rfl rfl rfl rfl rfl rfl rfl fun hlen w0 hd => ?_
  try simp [cPair, cToken, cExpr, cEdge, cGraph, cStep, cWalk, cChange, cBatch, cHistory, cPositions, cAutomaton, cProductStep, cPathAtom, cConjunction, cView, cDelta, cRegistered, cRegistry] at hlen
  try simp only [LenV, LenT, List.length_map] at hlen
  unfold cntIntS at hk
  refine AW.seq ?_
  refine AW.region ?_
  refine AWl.put (R_assign rfl (.no rfl) rfl (.const rfl)) rfl ?_
  refine AWl.nil ?_
  refine AW.seq ?_
  refine AW.seq ?_
  refine AW.region ?_
  refine AWl.put (R_assign rfl (.no rfl) rfl (.const rfl)) rfl ?_
  refine AWl.nil ?_
  refine AW.block ?_
  refine AW.loop (β := Nat × Int) (fun j => j.1 ≤ l.length ∧ j.2 = k + cntL cntInt (l.take j.1)) (fun j => ⟨_, [(5, (true, .a (.one (.t (.v (.int .i64 (j.1 : Nat))))))), (1, (true, .a (.one (.t (.v (.int .i64 j.2)))))), (0, _), (4, _)], [(1000, .row 1 ((mkL mkInt cntInt (l.take j.1) k).map cInt ++ (l.drop j.1).map cInt)), (500, .hdr (some 1000) (hd 1000))]⟩) (fun j => l.length - j.1) ((0, k)) ⟨Nat.zero_le _, by simp [cntL]⟩ (Le.sub0 rfl ⟨rfl, rfl, rfl, rfl, trivial⟩ ⟨rfl, rfl, trivial⟩) ?_
  intro ⟨i, κ⟩ ⟨hi, hκ⟩
  dsimp only at hi hκ; subst hκ
  refine AW.seq ?_
  refine AW.seq ?_
  refine AW.region ?_
  refine AWl.put (R_move rfl (.no rfl) rfl (.tmp rfl fun _ => rfl)) rfl ?_
  refine AWl.put (R_move rfl (.no rfl) rfl (.tmp rfl fun _ => rfl)) rfl ?_
  refine AWl.put ((by first | exact R_lenm rfl (.no rfl) rfl (.tmp rfl fun _ => rfl) (by first | exact .t | exact .rf rfl | exact .vw | exact .nil) Try.underlying23 | exact R_len rfl (.no rfl) rfl (.tmp rfl fun _ => rfl) (by first | exact .t | exact .rf rfl | exact .vw | exact .nil) Try.underlying23)) rfl ?_
  refine AWl.put (R_lt rfl (.no rfl) rfl (.tmp rfl fun _ => rfl) (.tmp rfl fun _ => rfl)) rfl ?_
  refine AWl.nil ?_
  refine AW.cond (.tmp rfl fun _ => rfl) (fun hlt => ?_) (fun hlt => ?_)
  · skip
    try simp at hlt
    replace hlt : i < l.length := by simp only [mkL_length, List.length_take] at hlt; omega
    obtain ⟨x, hx⟩ : ∃ x, l[i]? = some x := ⟨_, List.getElem?_eq_getElem hlt⟩
    have hrow := mark_at (f := mkInt) (c := cntInt) (k := k) cInt hx
    have hcs := cntL_at (c := cntInt) hx
    have hcn := cntL_nonneg cntInt_nn (l.take i)
    have hcl := cntL_le cntInt_nn l (i + 1)
    have hce : cntInt x = 1 := rfl
    refine AW.skip ?_
    refine AW.seq ?_
    refine AW.block ?_
    refine AW.seq ?_
    refine AW.region ?_
    refine AWl.put (R_move rfl (.no rfl) rfl (.tmp rfl fun _ => rfl)) rfl ?_
    refine AWl.put (R_move rfl (.no rfl) rfl (.tmp rfl fun _ => rfl)) rfl ?_
    refine AWl.put (R_move rfl (.no rfl) rfl (.tmp rfl fun _ => rfl)) rfl ?_
    refine AWl.put ((by first | exact R_indexAddr rfl (.no rfl) rfl (.tmp rfl fun _ => rfl) (.tmp rfl fun _ => rfl) Try.underlying23 ty3 (fun _ => ⟨by omega, (by first | exact hrow | exact set_at _ (hrow))⟩) | exact R_indexAddr_vw rfl (.no rfl) rfl (.tmp rfl fun _ => rfl) (.tmp rfl fun _ => rfl) Try.underlying23 ty3 (fun _ => ⟨by omega, (by first | exact hrow | exact set_at _ (hrow))⟩) | exact R_indexAddr_rf rfl (.no rfl) rfl (.tmp rfl fun _ => rfl) rfl (.tmp rfl fun _ => rfl) Try.underlying23 ty3 (fun _ => ⟨by omega, (by first | exact hrow | exact set_at _ (hrow))⟩))) rfl ?_
    refine AWl.absupd (R_store_pr rfl rfl rfl (.tmp rfl fun _ => rfl) rfl (.tmp rfl fun _ => rfl) rfl (by first | exact hrow | exact set_at _ (hrow)) ty3 rfl rfl rfl rfl) ?_
    refine AWl.nil ?_
    refine AW.region ?_
    refine AWl.put (R_move rfl (.no rfl) rfl (.tmp rfl fun _ => rfl)) rfl ?_
    refine AWl.put (R_add rfl (.no rfl) rfl (.tmp rfl fun _ => rfl) (.const rfl) (fun _ => by omega)) rfl ?_
    refine AWl.put (R_assign rfl (.no rfl) rfl (.tmp rfl fun _ => rfl)) rfl ?_
    refine AWl.nil ?_
    refine AW.region ?_
    refine AWl.put (R_move rfl (.no rfl) rfl (.tmp rfl fun _ => rfl)) rfl ?_
    refine AWl.put (R_add rfl (.no rfl) rfl (.tmp rfl fun _ => rfl) (.const rfl) (fun _ => by omega)) rfl ?_
    refine AWl.put (R_assign rfl (.no rfl) rfl (.tmp rfl fun _ => rfl)) rfl ?_
    refine AWl.nil ?_
    refine Round.next (i + 1, _) ⟨by dsimp only; omega, by dsimp only; omega⟩ (by dsimp only; omega) (Le.sub0 rfl ⟨rfl, rfl, rfl, rfl, trivial⟩ ⟨congrArg (fun r => some (R.row 1 r)) (by simp only [List.set_set]; exact mark_set _ hx rfl), rfl, trivial⟩)
  · skip
    try simp at hlt
    replace hlt : l.length ≤ i := by simp only [mkL_length, List.length_take] at hlt; omega
    refine AW.exit ?_
    refine AW.seq ?_
    refine AW.region ?_
    refine AWl.put (R_move rfl (.no rfl) rfl (.tmp rfl fun _ => rfl)) rfl ?_
    refine AWl.put (R_assign rfl (.no rfl) rfl (.tmp rfl fun _ => rfl)) rfl ?_
    refine AWl.nil ?_
    refine AW.ret ?_
    refine RetM.mk (Res.v rfl rfl ?_) (.rf (congrArg (fun r => some (R.row 1 r)) (mark_all _ (by omega))) rfl rfl .nil)
    rw [cntL_all (by omega)]; rfl
set_option maxRecDepth 100000 in
theorem MheldIntS (l : (List Int)) (k : Int) (hk : 0 ≤ k ∧ k + cntIntS l ≤ 4611686018427387904) : FnT Try.prog 38 [.one (.sl 1 ((mkIntS l k).map cInt)), .one (.v (.int .i64 k))] (.a (.one (.v (.int .i64 (k + cntIntS l))))) := by
  refine FnT.walk Try.func38 rfl (by kernel_rfl) Try.ntmps38 rfl fun hlen w0 => ?_
  try simp [cPair, cToken, cExpr, cEdge, cGraph, cStep, cWalk, cChange, cBatch, cHistory, cPositions, cAutomaton, cProductStep, cPathAtom, cConjunction, cView, cDelta, cRegistered, cRegistry] at hlen
  unfold cntIntS at hk ⊢; unfold mkIntS at hlen ⊢; try simp only [LenV, LenT, List.length_map, mkL_length] at hlen
  refine AW.seq ?_
  refine AW.region ?_
  refine AWl.put (R_assign rfl (.no rfl) rfl (.const rfl)) rfl ?_
  refine AWl.nil ?_
  refine AW.seq ?_
  refine AW.seq ?_
  refine AW.region ?_
  refine AWl.put (R_assign rfl (.no rfl) rfl (.const rfl)) rfl ?_
  refine AWl.nil ?_
  refine AW.block ?_
  refine AW.loop (β := Nat × Int) (fun j => j.1 ≤ l.length ∧ j.2 = k + cntL cntInt (l.take j.1)) (fun j => ⟨_, [(5, (true, .a (.one (.t (.v (.int .i64 (j.1 : Nat))))))), (1, (true, .a (.one (.t (.v (.int .i64 j.2)))))), (0, _)], []⟩) (fun j => l.length - j.1) ((0, k)) ⟨Nat.zero_le _, by simp [cntL]⟩ (Le.sub0 rfl ⟨rfl, rfl, rfl, trivial⟩ trivial) ?_
  intro ⟨i, κ⟩ ⟨hi, hκ⟩
  dsimp only at hi hκ; subst hκ
  refine AW.seq ?_
  refine AW.seq ?_
  refine AW.region ?_
  refine AWl.put (R_move rfl (.no rfl) rfl (.tmp rfl fun _ => rfl)) rfl ?_
  refine AWl.put (R_move rfl (.no rfl) rfl (.tmp rfl fun _ => rfl)) rfl ?_
  refine AWl.put ((by first | exact R_lenm rfl (.no rfl) rfl (.tmp rfl fun _ => rfl) (by first | exact .t | exact .rf rfl | exact .vw | exact .nil) Try.underlying23 | exact R_len rfl (.no rfl) rfl (.tmp rfl fun _ => rfl) (by first | exact .t | exact .rf rfl | exact .vw | exact .nil) Try.underlying23)) rfl ?_
  refine AWl.put (R_lt rfl (.no rfl) rfl (.tmp rfl fun _ => rfl) (.tmp rfl fun _ => rfl)) rfl ?_
  refine AWl.nil ?_
  refine AW.cond (.tmp rfl fun _ => rfl) (fun hlt => ?_) (fun hlt => ?_)
  · skip
    try simp at hlt
    rw [mkL_length] at hlt
    obtain ⟨x, hx⟩ : ∃ x, l[i]? = some x := ⟨_, List.getElem?_eq_getElem hlt⟩
    have hrow := map_get (f := cInt) (mkL_get (f := mkInt) (c := cntInt) (k := k) hx)
    have hcs := cntL_at (c := cntInt) hx
    have hcn := cntL_nonneg cntInt_nn (l.take i)
    have hcl := cntL_le cntInt_nn l (i + 1)
    have hce : cntInt x = 1 := rfl
    refine AW.skip ?_
    refine AW.seq ?_
    refine AW.block ?_
    refine AW.seq ?_
    refine AW.seq ?_
    refine AW.region ?_
    refine AWl.put (R_move rfl (.no rfl) rfl (.tmp rfl fun _ => rfl)) rfl ?_
    refine AWl.put (R_move rfl (.no rfl) rfl (.tmp rfl fun _ => rfl)) rfl ?_
    refine AWl.put ((by first | exact R_indexAddr rfl (.no rfl) rfl (.tmp rfl fun _ => rfl) (.tmp rfl fun _ => rfl) Try.underlying23 ty3 (fun _ => ⟨by omega, hrow⟩) | exact R_indexAddr_vw rfl (.no rfl) rfl (.tmp rfl fun _ => rfl) (.tmp rfl fun _ => rfl) Try.underlying23 ty3 (fun _ => ⟨by omega, hrow⟩) | exact R_indexAddr_rf rfl (.no rfl) rfl (.tmp rfl fun _ => rfl) rfl (.tmp rfl fun _ => rfl) Try.underlying23 ty3 (fun _ => ⟨by omega, hrow⟩))) rfl ?_
    refine AWl.put ((by first | exact R_load rfl (.no rfl) rfl (.tmp rfl fun _ => rfl) ty3 rfl rfl | exact R_load_pp rfl (.no rfl) rfl (.tmp rfl fun _ => rfl) rfl ty3 rfl rfl | exact R_load_vw rfl (.no rfl) rfl (.tmp rfl fun _ => rfl) ty3 rfl rfl | exact R_load_pr rfl (.no rfl) rfl (.tmp rfl fun _ => rfl) rfl hrow ty3 rfl rfl)) rfl ?_
    refine AWl.put (R_move rfl (.no rfl) rfl (.tmp rfl fun _ => rfl)) rfl ?_
    refine AWl.put (R_ne rfl (.no rfl) rfl (.tmp rfl fun _ => rfl) (.tmp rfl fun _ => rfl)) rfl ?_
    refine AWl.nil ?_
    refine AW.cond (.tmp rfl fun _ => rfl) (fun h17 => ?_) (fun h17 => ?_)
    · first | (exfalso; simp at h17; omega) | (exfalso; simp [mkInt] at h17; done) | (exfalso; simp [mkInt] at h17; omega)
    · skip
      try simp at h17
      refine AW.skip ?_
      refine AW.region ?_
      refine AWl.put (R_move rfl (.no rfl) rfl (.tmp rfl fun _ => rfl)) rfl ?_
      refine AWl.put (R_add rfl (.no rfl) rfl (.tmp rfl fun _ => rfl) (.const rfl) (fun _ => by omega)) rfl ?_
      refine AWl.put (R_assign rfl (.no rfl) rfl (.tmp rfl fun _ => rfl)) rfl ?_
      refine AWl.nil ?_
      refine AW.region ?_
      refine AWl.put (R_move rfl (.no rfl) rfl (.tmp rfl fun _ => rfl)) rfl ?_
      refine AWl.put (R_add rfl (.no rfl) rfl (.tmp rfl fun _ => rfl) (.const rfl) (fun _ => by omega)) rfl ?_
      refine AWl.put (R_assign rfl (.no rfl) rfl (.tmp rfl fun _ => rfl)) rfl ?_
      refine AWl.nil ?_
      refine Round.next (i + 1, _) ⟨by dsimp only; omega, by dsimp only; omega⟩ (by dsimp only; omega) (Le.sub0 rfl ⟨rfl, rfl, rfl, trivial⟩ trivial)
  · skip
    try simp at hlt
    rw [mkL_length] at hlt
    refine AW.exit ?_
    refine AW.seq ?_
    refine AW.region ?_
    refine AWl.put (R_move rfl (.no rfl) rfl (.tmp rfl fun _ => rfl)) rfl ?_
    refine AWl.put (R_assign rfl (.no rfl) rfl (.tmp rfl fun _ => rfl)) rfl ?_
    refine AWl.nil ?_
    refine AW.ret ?_
    refine Res.v rfl rfl ?_
    rw [cntL_all (by omega)]
set_option maxRecDepth 100000 in
theorem MmarkIntSS (l : (List (List Int))) (k : Int) (hk : 0 ≤ k ∧ k + cntIntSS l ≤ 4611686018427387904) : FnM Try.prog 12 (.one (.sl 1 (l.map cIntS))) (.int .i64 k) (.one (.sl 1 ((mkIntSS l k).map cIntS))) (.int .i64 (k + cntIntSS l)) := by
  refine FnM.walk (y := .one (.rf 1000)) (R0 := fun hd => [(1000, .row 1 (l.map cIntS)), (500, .hdr (some 1000) (hd 1000))]) (ts := [.sl 1 ((mkIntSS l k).map cIntS)]) Try.func12 rfl (by kernel_rfl) Try.ntmps12 rfl rfl rfl rfl rfl rfl rfl rfl fun hlen w0 hd => ?_
  try simp [cPair, cToken, cExpr, cEdge, cGraph, cStep, cWalk, cChange, cBatch, cHistory, cPositions, cAutomaton, cProductStep, cPathAtom, cConjunction, cView, cDelta, cRegistered, cRegistry] at hlen
  try simp only [LenV, LenT, List.length_map] at hlen
  unfold cntIntSS at hk
  refine AW.seq ?_
  refine AW.region ?_
  refine AWl.put (R_assign rfl (.no rfl) rfl (.const rfl)) rfl ?_
  refine AWl.nil ?_
  refine AW.seq ?_
  refine AW.seq ?_
  refine AW.region ?_
  refine AWl.put (R_assign rfl (.no rfl) rfl (.const rfl)) rfl ?_
  refine AWl.nil ?_
  refine AW.block ?_
  refine AW.loop (β := Nat × Int) (fun j => j.1 ≤ l.length ∧ j.2 = k + cntL cntIntS (l.take j.1)) (fun j => ⟨_, [(5, (true, .a (.one (.t (.v (.int .i64 (j.1 : Nat))))))), (1, (true, .a (.one (.t (.v (.int .i64 j.2)))))), (0, _), (4, _)], [(1000, .row 1 ((mkL mkIntS cntIntS (l.take j.1) k).map cIntS ++ (l.drop j.1).map cIntS)), (500, .hdr (some 1000) (hd 1000))]⟩) (fun j => l.length - j.1) ((0, k)) ⟨Nat.zero_le _, by simp [cntL]⟩ (Le.sub0 rfl ⟨rfl, rfl, rfl, rfl, trivial⟩ ⟨rfl, rfl, trivial⟩) ?_
  intro ⟨i, κ⟩ ⟨hi, hκ⟩
  dsimp only at hi hκ; subst hκ
  refine AW.seq ?_
  refine AW.seq ?_
  refine AW.region ?_
  refine AWl.put (R_move rfl (.no rfl) rfl (.tmp rfl fun _ => rfl)) rfl ?_
  refine AWl.put (R_move rfl (.no rfl) rfl (.tmp rfl fun _ => rfl)) rfl ?_
  refine AWl.put ((by first | exact R_lenm rfl (.no rfl) rfl (.tmp rfl fun _ => rfl) (by first | exact .t | exact .rf rfl | exact .vw | exact .nil) Try.underlying22 | exact R_len rfl (.no rfl) rfl (.tmp rfl fun _ => rfl) (by first | exact .t | exact .rf rfl | exact .vw | exact .nil) Try.underlying22)) rfl ?_
  refine AWl.put (R_lt rfl (.no rfl) rfl (.tmp rfl fun _ => rfl) (.tmp rfl fun _ => rfl)) rfl ?_
  refine AWl.nil ?_
  refine AW.cond (.tmp rfl fun _ => rfl) (fun hlt => ?_) (fun hlt => ?_)
  · skip
    try simp at hlt
    replace hlt : i < l.length := by simp only [mkL_length, List.length_take] at hlt; omega
    obtain ⟨x, hx⟩ : ∃ x, l[i]? = some x := ⟨_, List.getElem?_eq_getElem hlt⟩
    have hrow := mark_at (f := mkIntS) (c := cntIntS) (k := k) cIntS hx
    have hcs := cntL_at (c := cntIntS) hx
    have hcn := cntL_nonneg cntIntS_nn (l.take i)
    have hcl := cntL_le cntIntS_nn l (i + 1)
    have := cntIntS_nn x
    have hce : cntIntS x = cntIntS x := rfl
    refine AW.skip ?_
    refine AW.seq ?_
    refine AW.block ?_
    refine AW.region ?_
    refine AWl.put (R_move rfl (.no rfl) rfl (.tmp rfl fun _ => rfl)) rfl ?_
    refine AWl.put (R_move rfl (.no rfl) rfl (.tmp rfl fun _ => rfl)) rfl ?_
    refine AWl.put ((by first | exact R_indexAddr rfl (.no rfl) rfl (.tmp rfl fun _ => rfl) (.tmp rfl fun _ => rfl) Try.underlying22 ty23 (fun _ => ⟨by omega, (by first | exact hrow | exact set_at _ (hrow))⟩) | exact R_indexAddr_vw rfl (.no rfl) rfl (.tmp rfl fun _ => rfl) (.tmp rfl fun _ => rfl) Try.underlying22 ty23 (fun _ => ⟨by omega, (by first | exact hrow | exact set_at _ (hrow))⟩) | exact R_indexAddr_rf rfl (.no rfl) rfl (.tmp rfl fun _ => rfl) rfl (.tmp rfl fun _ => rfl) Try.underlying22 ty23 (fun _ => ⟨by omega, (by first | exact hrow | exact set_at _ (hrow))⟩))) rfl ?_
    refine AWl.put (R_load_sb rfl (.no rfl) rfl (.tmp rfl fun _ => rfl) rfl (by first | exact hrow | exact set_at _ (hrow)) ty23 rfl) rfl ?_
    refine AWl.put (R_move rfl (.no rfl) rfl (.tmp rfl fun _ => rfl)) rfl ?_
    refine AWl.updput (R_mark_sbc rfl rfl rfl (.tmp rfl fun _ => rfl) (.tmp rfl fun _ => rfl) rfl (by first | exact hrow | exact set_at _ (hrow)) rfl (MmarkIntS _ _ (by omega))) rfl ?_
    refine AWl.put (R_assign rfl (.no rfl) rfl (.tmp rfl fun _ => rfl)) rfl ?_
    refine AWl.nil ?_
    refine AW.region ?_
    refine AWl.put (R_move rfl (.no rfl) rfl (.tmp rfl fun _ => rfl)) rfl ?_
    refine AWl.put (R_add rfl (.no rfl) rfl (.tmp rfl fun _ => rfl) (.const rfl) (fun _ => by omega)) rfl ?_
    refine AWl.put (R_assign rfl (.no rfl) rfl (.tmp rfl fun _ => rfl)) rfl ?_
    refine AWl.nil ?_
    refine Round.next (i + 1, _) ⟨by dsimp only; omega, by dsimp only; omega⟩ (by dsimp only; omega) (Le.sub0 rfl ⟨rfl, rfl, rfl, rfl, trivial⟩ ⟨congrArg (fun r => some (R.row 1 r)) (by simp only [List.set_set]; exact mark_set _ hx rfl), rfl, trivial⟩)
  · skip
    try simp at hlt
    replace hlt : l.length ≤ i := by simp only [mkL_length, List.length_take] at hlt; omega
    refine AW.exit ?_
    refine AW.seq ?_
    refine AW.region ?_
    refine AWl.put (R_move rfl (.no rfl) rfl (.tmp rfl fun _ => rfl)) rfl ?_
    refine AWl.put (R_assign rfl (.no rfl) rfl (.tmp rfl fun _ => rfl)) rfl ?_
    refine AWl.nil ?_
    refine AW.ret ?_
    refine RetM.mk (Res.v rfl rfl ?_) (.rf (congrArg (fun r => some (R.row 1 r)) (mark_all _ (by omega))) rfl rfl .nil)
    rw [cntL_all (by omega)]; rfl
set_option maxRecDepth 100000 in
theorem MheldIntSS (l : (List (List Int))) (k : Int) (hk : 0 ≤ k ∧ k + cntIntSS l ≤ 4611686018427387904) : FnT Try.prog 14 [.one (.sl 1 ((mkIntSS l k).map cIntS)), .one (.v (.int .i64 k))] (.a (.one (.v (.int .i64 (k + cntIntSS l))))) := by
  refine FnT.walk Try.func14 rfl (by kernel_rfl) Try.ntmps14 rfl fun hlen w0 => ?_
  try simp [cPair, cToken, cExpr, cEdge, cGraph, cStep, cWalk, cChange, cBatch, cHistory, cPositions, cAutomaton, cProductStep, cPathAtom, cConjunction, cView, cDelta, cRegistered, cRegistry] at hlen
  unfold cntIntSS at hk ⊢; unfold mkIntSS at hlen ⊢; try simp only [LenV, LenT, List.length_map, mkL_length] at hlen
  refine AW.seq ?_
  refine AW.region ?_
  refine AWl.put (R_assign rfl (.no rfl) rfl (.const rfl)) rfl ?_
  refine AWl.nil ?_
  refine AW.seq ?_
  refine AW.seq ?_
  refine AW.region ?_
  refine AWl.put (R_assign rfl (.no rfl) rfl (.const rfl)) rfl ?_
  refine AWl.nil ?_
  refine AW.block ?_
  refine AW.loop (β := Nat × Int) (fun j => j.1 ≤ l.length ∧ j.2 = k + cntL cntIntS (l.take j.1)) (fun j => ⟨_, [(5, (true, .a (.one (.t (.v (.int .i64 (j.1 : Nat))))))), (1, (true, .a (.one (.t (.v (.int .i64 j.2)))))), (0, _)], []⟩) (fun j => l.length - j.1) ((0, k)) ⟨Nat.zero_le _, by simp [cntL]⟩ (Le.sub0 rfl ⟨rfl, rfl, rfl, trivial⟩ trivial) ?_
  intro ⟨i, κ⟩ ⟨hi, hκ⟩
  dsimp only at hi hκ; subst hκ
  refine AW.seq ?_
  refine AW.seq ?_
  refine AW.region ?_
  refine AWl.put (R_move rfl (.no rfl) rfl (.tmp rfl fun _ => rfl)) rfl ?_
  refine AWl.put (R_move rfl (.no rfl) rfl (.tmp rfl fun _ => rfl)) rfl ?_
  refine AWl.put ((by first | exact R_lenm rfl (.no rfl) rfl (.tmp rfl fun _ => rfl) (by first | exact .t | exact .rf rfl | exact .vw | exact .nil) Try.underlying22 | exact R_len rfl (.no rfl) rfl (.tmp rfl fun _ => rfl) (by first | exact .t | exact .rf rfl | exact .vw | exact .nil) Try.underlying22)) rfl ?_
  refine AWl.put (R_lt rfl (.no rfl) rfl (.tmp rfl fun _ => rfl) (.tmp rfl fun _ => rfl)) rfl ?_
  refine AWl.nil ?_
  refine AW.cond (.tmp rfl fun _ => rfl) (fun hlt => ?_) (fun hlt => ?_)
  · skip
    try simp at hlt
    rw [mkL_length] at hlt
    obtain ⟨x, hx⟩ : ∃ x, l[i]? = some x := ⟨_, List.getElem?_eq_getElem hlt⟩
    have hrow := map_get (f := cIntS) (mkL_get (f := mkIntS) (c := cntIntS) (k := k) hx)
    have hcs := cntL_at (c := cntIntS) hx
    have hcn := cntL_nonneg cntIntS_nn (l.take i)
    have hcl := cntL_le cntIntS_nn l (i + 1)
    have := cntIntS_nn x
    have hce : cntIntS x = cntIntS x := rfl
    refine AW.skip ?_
    refine AW.seq ?_
    refine AW.block ?_
    refine AW.seq ?_
    refine AW.region ?_
    refine AWl.put (R_move rfl (.no rfl) rfl (.tmp rfl fun _ => rfl)) rfl ?_
    refine AWl.put (R_move rfl (.no rfl) rfl (.tmp rfl fun _ => rfl)) rfl ?_
    refine AWl.put ((by first | exact R_indexAddr rfl (.no rfl) rfl (.tmp rfl fun _ => rfl) (.tmp rfl fun _ => rfl) Try.underlying22 ty23 (fun _ => ⟨by omega, hrow⟩) | exact R_indexAddr_vw rfl (.no rfl) rfl (.tmp rfl fun _ => rfl) (.tmp rfl fun _ => rfl) Try.underlying22 ty23 (fun _ => ⟨by omega, hrow⟩) | exact R_indexAddr_rf rfl (.no rfl) rfl (.tmp rfl fun _ => rfl) rfl (.tmp rfl fun _ => rfl) Try.underlying22 ty23 (fun _ => ⟨by omega, hrow⟩))) rfl ?_
    refine AWl.put ((by first | exact R_load rfl (.no rfl) rfl (.tmp rfl fun _ => rfl) ty23 rfl rfl | exact R_load_pp rfl (.no rfl) rfl (.tmp rfl fun _ => rfl) rfl ty23 rfl rfl | exact R_load_vw rfl (.no rfl) rfl (.tmp rfl fun _ => rfl) ty23 rfl rfl | exact R_load_pr rfl (.no rfl) rfl (.tmp rfl fun _ => rfl) rfl hrow ty23 rfl rfl)) rfl ?_
    refine AWl.put (R_move rfl (.no rfl) rfl (.tmp rfl fun _ => rfl)) rfl ?_
    refine AWl.put (R_callz (FnT.fr (MheldIntS _ _ (by omega))) rfl (.no rfl) rfl (.cons (.tmp rfl fun _ => rfl) rfl (.cons (.tmp rfl fun _ => rfl) rfl .nil))) rfl ?_
    refine AWl.put (R_assign rfl (.no rfl) rfl (.tmp rfl fun _ => rfl)) rfl ?_
    refine AWl.nil ?_
    refine AW.seq ?_
    refine AW.region ?_
    refine AWl.put (R_move rfl (.no rfl) rfl (.tmp rfl fun _ => rfl)) rfl ?_
    refine AWl.put (R_lt rfl (.no rfl) rfl (.tmp rfl fun _ => rfl) (.const rfl)) rfl ?_
    refine AWl.nil ?_
    refine AW.cond (.tmp rfl fun _ => rfl) (fun h19 => ?_) (fun h19 => ?_)
    · first | (exfalso; simp at h19; omega) | (exfalso; simp [mkIntS] at h19; done) | (exfalso; simp [mkIntS] at h19; omega)
    · skip
      try simp at h19
      refine AW.skip ?_
      refine AW.region ?_
      refine AWl.put (R_move rfl (.no rfl) rfl (.tmp rfl fun _ => rfl)) rfl ?_
      refine AWl.put (R_add rfl (.no rfl) rfl (.tmp rfl fun _ => rfl) (.const rfl) (fun _ => by omega)) rfl ?_
      refine AWl.put (R_assign rfl (.no rfl) rfl (.tmp rfl fun _ => rfl)) rfl ?_
      refine AWl.nil ?_
      refine Round.next (i + 1, _) ⟨by dsimp only; omega, by dsimp only; omega⟩ (by dsimp only; omega) (Le.sub0 rfl ⟨rfl, rfl, rfl, trivial⟩ trivial)
  · skip
    try simp at hlt
    rw [mkL_length] at hlt
    refine AW.exit ?_
    refine AW.seq ?_
    refine AW.region ?_
    refine AWl.put (R_move rfl (.no rfl) rfl (.tmp rfl fun _ => rfl)) rfl ?_
    refine AWl.put (R_assign rfl (.no rfl) rfl (.tmp rfl fun _ => rfl)) rfl ?_
    refine AWl.nil ?_
    refine AW.ret ?_
    refine Res.v rfl rfl ?_
    rw [cntL_all (by omega)]
end Go.Proofs.Ytoealglkenhphaa
