import Derived.Test.YtamnfkfjfelbbaaMDxw
set_option linter.unusedVariables false
set_option linter.unusedSimpArgs false
namespace Go.Proofs.Ytamnfkfjfelbbaa
open Go.RowKit Go.Q Go.D
set_option maxRecDepth 100000 in
theorem MmarkIntS (l : (List Int)) (k : Int) (hk : 0 ≤ k ∧ k + cntIntS l ≤ 4611686018427387904) : FnM Try.prog 42 (.one (.sl 1 (l.map cInt))) (.int .i64 k) (.one (.sl 1 ((mkIntS l k).map cInt))) (.int .i64 (k + cntIntS l)) := by
 refine FnM.walk (y := .one (.rf 1000)) (R0 := fun hd => [(1000, .row 1 (l.map cInt)), (500, .hdr (some 1000) (hd 1000))]) (ts := [.sl 1 ((mkIntS l k).map cInt)]) Try.func42 rfl (by kernel_rfl) Try.ntmps42 rfl rfl rfl rfl rfl rfl rfl rfl fun hlen w0 hd => ?_
 try simp [cPair, cToken, cExpr, cEdge, cGraph, cStep, cWalk, cChange, cBatch, cHistory, cPositions, cAutomaton, cProductStep, cPathAtom, cConjunction, cView, cDelta, cRegistered, cRegistry] at hlen
 try simp only [LenV, LenT, List.length_map] at hlen
 unfold cntIntS at hk
 refine AW.sr ?_
 refine AWl.ac ?_
 refine AWl.nil (AW.seq ?_)
 refine AW.sr ?_
 refine AWl.ac ?_
 refine AWl.nil (AW.block ?_)
 refine AW.loop (β := Nat × Int) (fun j => j.1 ≤ l.length ∧ j.2 = k + cntL cntInt (l.take j.1)) (fun j => ⟨_, [(5, (true, .a (.one (.t (.v (.int .i64 (j.1 : Nat))))))), (1, (true, .a (.one (.t (.v (.int .i64 j.2)))))), (0, _), (4, _)], [(1000, .row 1 ((mkL mkInt cntInt (l.take j.1) k).map cInt ++ (l.drop j.1).map cInt)), (500, .hdr (some 1000) (hd 1000))]⟩) (fun j => l.length - j.1) ((0, k)) ⟨Nat.zero_le _, by simp [cntL]⟩ (Le.sub0 U ⟨U, U, U, U, Y⟩ ⟨U, U, Y⟩) ?_
 intro ⟨i, κ⟩ ⟨hi, hκ⟩
 dsimp only at hi hκ; subst hκ
 refine AW.seq ?_
 refine AW.sr ?_
 refine AWl.mv ?_
 refine AWl.mv ?_
 refine AWl.p (by exact R_len U (.no U) U (.tm U) (by exact .rf U) Try.underlying22) U ?_
 refine AWl.p (R_lt U (.no U) U (.tm U) (.tm U)) U ?_
 refine AWl.nil ?_
 refine AW.cond (.tm U) (fun hlt => ?_) (fun hlt => ?_)
 · skip
   try simp at hlt
   replace hlt : i < l.length := by simp only [mkL_length, List.length_take] at hlt; omega
   obtain ⟨x, hx⟩ : ∃ x, l[i]? = some x := ⟨_, List.getElem?_eq_getElem hlt⟩
   have hrow := mark_at (f := mkInt) (c := cntInt) (k := k) cInt hx
   have hcs := cntL_at (c := cntInt) hx
   have hcn := cntL_nonneg cntInt_nn (l.take i)
   have hcl := cntL_le cntInt_nn l (i + 1)
   have hce : cntInt x = 1 := rfl
   refine AW.skip ?_
   refine AW.seq ?_
   refine AW.block ?_
   refine AW.sr ?_
   refine AWl.mv ?_
   refine AWl.mv ?_
   refine AWl.mv ?_
   refine AWl.p (by exact R_indexAddr_rf U (.no U) U (.tm U) U (.tm U) Try.underlying22 ty3 (fun _ => ⟨by omega, (by exact hrow)⟩)) U ?_
   refine AWl.absupd (R_store_pr U U U (.tm U) U (.tm U) U (by exact hrow) ty3 U U U U) ?_
   refine AWl.nil (AW.region ?_)
   refine AWl.mv ?_
   refine AWl.p (R_add U (.no U) U (.tm U) (.const U) (fun _ => by omega)) U ?_
   refine AWl.av ?_
   refine AWl.nil (AW.region ?_)
   refine AWl.mv ?_
   refine AWl.p (R_add U (.no U) U (.tm U) (.const U) (fun _ => by omega)) U ?_
   refine AWl.av ?_
   refine AWl.nil ?_
   refine Round.next (i + 1, _) ⟨by dsimp only; omega, by dsimp only; omega⟩ (by dsimp only; omega) (Le.sub0 rfl ⟨rfl, rfl, rfl, rfl, Y⟩ ⟨congrArg (fun r => some (R.row 1 r)) (by simp only [List.set_set]; exact mark_set _ hx rfl), rfl, Y⟩)
 · skip
   try simp at hlt
   replace hlt : l.length ≤ i := by simp only [mkL_length, List.length_take] at hlt; omega
   refine AW.exit ?_
   refine AW.sr ?_
   refine AWl.mv ?_
   refine AWl.av ?_
   refine AWl.nil (AW.ret ?_)
   refine RetM.mk (Res.v rfl rfl ?_) (.rf (congrArg (fun r => some (R.row 1 r)) (mark_all _ (by omega))) rfl rfl .nil)
   rw [cntL_all (by omega)]; rfl
set_option maxRecDepth 100000 in
theorem MmarkBoolS (l : (List Bool)) (k : Int) (hk : 0 ≤ k ∧ k + cntBoolS l ≤ 4611686018427387904) : FnM Try.prog 44 (.one (.sl 1 (l.map cBool))) (.int .i64 k) (.one (.sl 1 ((mkBoolS l k).map cBool))) (.int .i64 (k + cntBoolS l)) := by
 refine FnM.walk (y := .one (.rf 1000)) (R0 := fun hd => [(1000, .row 1 (l.map cBool)), (500, .hdr (some 1000) (hd 1000))]) (ts := [.sl 1 ((mkBoolS l k).map cBool)]) Try.func44 rfl (by kernel_rfl) Try.ntmps44 rfl rfl rfl rfl rfl rfl rfl rfl fun hlen w0 hd => ?_
 try simp [cPair, cToken, cExpr, cEdge, cGraph, cStep, cWalk, cChange, cBatch, cHistory, cPositions, cAutomaton, cProductStep, cPathAtom, cConjunction, cView, cDelta, cRegistered, cRegistry] at hlen
 try simp only [LenV, LenT, List.length_map] at hlen
 unfold cntBoolS at hk
 refine AW.sr ?_
 refine AWl.ac ?_
 refine AWl.nil (AW.seq ?_)
 refine AW.sr ?_
 refine AWl.ac ?_
 refine AWl.nil (AW.block ?_)
 refine AW.loop (β := Nat × Int) (fun j => j.1 ≤ l.length ∧ j.2 = k + cntL cntBool (l.take j.1)) (fun j => ⟨_, [(5, (true, .a (.one (.t (.v (.int .i64 (j.1 : Nat))))))), (1, (true, .a (.one (.t (.v (.int .i64 j.2)))))), (0, _), (4, _)], [(1000, .row 1 ((mkL mkBool cntBool (l.take j.1) k).map cBool ++ (l.drop j.1).map cBool)), (500, .hdr (some 1000) (hd 1000))]⟩) (fun j => l.length - j.1) ((0, k)) ⟨Nat.zero_le _, by simp [cntL]⟩ (Le.sub0 U ⟨U, U, U, U, Y⟩ ⟨U, U, Y⟩) ?_
 intro ⟨i, κ⟩ ⟨hi, hκ⟩
 dsimp only at hi hκ; subst hκ
 refine AW.seq ?_
 refine AW.sr ?_
 refine AWl.mv ?_
 refine AWl.mv ?_
 refine AWl.p (by exact R_len U (.no U) U (.tm U) (by exact .rf U) Try.underlying26) U ?_
 refine AWl.p (R_lt U (.no U) U (.tm U) (.tm U)) U ?_
 refine AWl.nil ?_
 refine AW.cond (.tm U) (fun hlt => ?_) (fun hlt => ?_)
 · skip
   try simp at hlt
   replace hlt : i < l.length := by simp only [mkL_length, List.length_take] at hlt; omega
   obtain ⟨x, hx⟩ : ∃ x, l[i]? = some x := ⟨_, List.getElem?_eq_getElem hlt⟩
   have hrow := mark_at (f := mkBool) (c := cntBool) (k := k) cBool hx
   have hcs := cntL_at (c := cntBool) hx
   have hcn := cntL_nonneg cntBool_nn (l.take i)
   have hcl := cntL_le cntBool_nn l (i + 1)
   have hce : cntBool x = 1 := rfl
   refine AW.skip ?_
   refine AW.seq ?_
   refine AW.block ?_
   refine AW.sr ?_
   refine AWl.mv ?_
   refine AWl.mv ?_
   refine AWl.mv ?_
   refine AWl.p (R_rem U (.no U) U (.tm U) (.const U) (fun _ => by omega)) U ?_
   refine AWl.p (R_eq U (.no U) U (.tm U) (.const U)) U ?_
   refine AWl.p (by exact R_indexAddr_rf U (.no U) U (.tm U) U (.tm U) Try.underlying26 ty4 (fun _ => ⟨by omega, (by exact hrow)⟩)) U ?_
   refine AWl.absupd (R_store_pr U U U (.tm U) U (.tm U) U (by exact hrow) ty4 U U U U) ?_
   refine AWl.nil (AW.region ?_)
   refine AWl.mv ?_
   refine AWl.p (R_add U (.no U) U (.tm U) (.const U) (fun _ => by omega)) U ?_
   refine AWl.av ?_
   refine AWl.nil (AW.region ?_)
   refine AWl.mv ?_
   refine AWl.p (R_add U (.no U) U (.tm U) (.const U) (fun _ => by omega)) U ?_
   refine AWl.av ?_
   refine AWl.nil ?_
   refine Round.next (i + 1, _) ⟨by dsimp only; omega, by dsimp only; omega⟩ (by dsimp only; omega) (Le.sub0 rfl ⟨rfl, rfl, rfl, rfl, Y⟩ ⟨congrArg (fun r => some (R.row 1 r)) (by simp only [List.set_set]; exact mark_set _ hx rfl), rfl, Y⟩)
 · skip
   try simp at hlt
   replace hlt : l.length ≤ i := by simp only [mkL_length, List.length_take] at hlt; omega
   refine AW.exit ?_
   refine AW.sr ?_
   refine AWl.mv ?_
   refine AWl.av ?_
   refine AWl.nil (AW.ret ?_)
   refine RetM.mk (Res.v rfl rfl ?_) (.rf (congrArg (fun r => some (R.row 1 r)) (mark_all _ (by omega))) rfl rfl .nil)
   rw [cntL_all (by omega)]; rfl
set_option maxRecDepth 100000 in
theorem MmarkIntSS (l : (List (List Int))) (k : Int) (hk : 0 ≤ k ∧ k + cntIntSS l ≤ 4611686018427387904) : FnM Try.prog 45 (.one (.sl 1 (l.map cIntS))) (.int .i64 k) (.one (.sl 1 ((mkIntSS l k).map cIntS))) (.int .i64 (k + cntIntSS l)) := by
 refine FnM.walk (y := .one (.rf 1000)) (R0 := fun hd => [(1000, .row 1 (l.map cIntS)), (500, .hdr (some 1000) (hd 1000))]) (ts := [.sl 1 ((mkIntSS l k).map cIntS)]) Try.func45 rfl (by kernel_rfl) Try.ntmps45 rfl rfl rfl rfl rfl rfl rfl rfl fun hlen w0 hd => ?_
 try simp [cPair, cToken, cExpr, cEdge, cGraph, cStep, cWalk, cChange, cBatch, cHistory, cPositions, cAutomaton, cProductStep, cPathAtom, cConjunction, cView, cDelta, cRegistered, cRegistry] at hlen
 try simp only [LenV, LenT, List.length_map] at hlen
 unfold cntIntSS at hk
 refine AW.sr ?_
 refine AWl.ac ?_
 refine AWl.nil (AW.seq ?_)
 refine AW.sr ?_
 refine AWl.ac ?_
 refine AWl.nil (AW.block ?_)
 refine AW.loop (β := Nat × Int) (fun j => j.1 ≤ l.length ∧ j.2 = k + cntL cntIntS (l.take j.1)) (fun j => ⟨_, [(5, (true, .a (.one (.t (.v (.int .i64 (j.1 : Nat))))))), (1, (true, .a (.one (.t (.v (.int .i64 j.2)))))), (0, _), (4, _)], [(1000, .row 1 ((mkL mkIntS cntIntS (l.take j.1) k).map cIntS ++ (l.drop j.1).map cIntS)), (500, .hdr (some 1000) (hd 1000))]⟩) (fun j => l.length - j.1) ((0, k)) ⟨Nat.zero_le _, by simp [cntL]⟩ (Le.sub0 U ⟨U, U, U, U, Y⟩ ⟨U, U, Y⟩) ?_
 intro ⟨i, κ⟩ ⟨hi, hκ⟩
 dsimp only at hi hκ; subst hκ
 refine AW.seq ?_
 refine AW.sr ?_
 refine AWl.mv ?_
 refine AWl.mv ?_
 refine AWl.p (by exact R_len U (.no U) U (.tm U) (by exact .rf U) Try.underlying27) U ?_
 refine AWl.p (R_lt U (.no U) U (.tm U) (.tm U)) U ?_
 refine AWl.nil ?_
 refine AW.cond (.tm U) (fun hlt => ?_) (fun hlt => ?_)
 · skip
   try simp at hlt
   replace hlt : i < l.length := by simp only [mkL_length, List.length_take] at hlt; omega
   obtain ⟨x, hx⟩ : ∃ x, l[i]? = some x := ⟨_, List.getElem?_eq_getElem hlt⟩
   have hrow := mark_at (f := mkIntS) (c := cntIntS) (k := k) cIntS hx
   have hcs := cntL_at (c := cntIntS) hx
   have hcn := cntL_nonneg cntIntS_nn (l.take i)
   have hcl := cntL_le cntIntS_nn l (i + 1)
   have := cntIntS_nn x
   have hce : cntIntS x = cntIntS x := rfl
   refine AW.skip ?_
   refine AW.seq ?_
   refine AW.block ?_
   refine AW.region ?_
   refine AWl.mv ?_
   refine AWl.mv ?_
   refine AWl.p (by exact R_indexAddr_rf U (.no U) U (.tm U) U (.tm U) Try.underlying27 ty22 (fun _ => ⟨by omega, (by exact hrow)⟩)) U ?_
   refine AWl.p (R_load_sb U (.no U) U (.tm U) U (by exact hrow) ty22 U) U ?_
   refine AWl.mv ?_
   refine AWl.updput (R_mark_sbc U U U (.tm U) (.tm U) U (by exact hrow) U (MmarkIntS _ _ (by omega))) U ?_
   refine AWl.av ?_
   refine AWl.nil (AW.region ?_)
   refine AWl.mv ?_
   refine AWl.p (R_add U (.no U) U (.tm U) (.const U) (fun _ => by omega)) U ?_
   refine AWl.av ?_
   refine AWl.nil ?_
   refine Round.next (i + 1, _) ⟨by dsimp only; omega, by dsimp only; omega⟩ (by dsimp only; omega) (Le.sub0 rfl ⟨rfl, rfl, rfl, rfl, Y⟩ ⟨congrArg (fun r => some (R.row 1 r)) (by simp only [List.set_set]; exact mark_set _ hx rfl), rfl, Y⟩)
 · skip
   try simp at hlt
   replace hlt : l.length ≤ i := by simp only [mkL_length, List.length_take] at hlt; omega
   refine AW.exit ?_
   refine AW.sr ?_
   refine AWl.mv ?_
   refine AWl.av ?_
   refine AWl.nil (AW.ret ?_)
   refine RetM.mk (Res.v rfl rfl ?_) (.rf (congrArg (fun r => some (R.row 1 r)) (mark_all _ (by omega))) rfl rfl .nil)
   rw [cntL_all (by omega)]; rfl
set_option maxRecDepth 100000 in
theorem MmarkEdgeS (l : (List TEdge)) (k : Int) (hk : 0 ≤ k ∧ k + cntEdgeS l ≤ 4611686018427387904) : FnM Try.prog 43 (.one (.sl 4 (l.map cEdge))) (.int .i64 k) (.one (.sl 4 ((mkEdgeS l k).map cEdge))) (.int .i64 (k + cntEdgeS l)) := by
 refine FnM.walk (y := .one (.rf 1000)) (R0 := fun hd => [(1000, .row 4 (l.map cEdge)), (500, .hdr (some 1000) (hd 1000))]) (ts := [.sl 4 ((mkEdgeS l k).map cEdge)]) Try.func43 rfl (by kernel_rfl) Try.ntmps43 rfl rfl rfl rfl rfl rfl rfl rfl fun hlen w0 hd => ?_
 try simp [cPair, cToken, cExpr, cEdge, cGraph, cStep, cWalk, cChange, cBatch, cHistory, cPositions, cAutomaton, cProductStep, cPathAtom, cConjunction, cView, cDelta, cRegistered, cRegistry] at hlen
 try simp only [LenV, LenT, List.length_map] at hlen
 unfold cntEdgeS at hk
 refine AW.sr ?_
 refine AWl.ac ?_
 refine AWl.nil (AW.seq ?_)
 refine AW.sr ?_
 refine AWl.ac ?_
 refine AWl.nil (AW.block ?_)
 refine AW.loop (β := Nat × Int) (fun j => j.1 ≤ l.length ∧ j.2 = k + cntL cntEdge (l.take j.1)) (fun j => ⟨_, [(5, (true, .a (.one (.t (.v (.int .i64 (j.1 : Nat))))))), (1, (true, .a (.one (.t (.v (.int .i64 j.2)))))), (0, _), (4, _)], [(1000, .row 4 ((mkL mkEdge cntEdge (l.take j.1) k).map cEdge ++ (l.drop j.1).map cEdge)), (500, .hdr (some 1000) (hd 1000))]⟩) (fun j => l.length - j.1) ((0, k)) ⟨Nat.zero_le _, by simp [cntL]⟩ (Le.sub0 U ⟨U, U, U, U, Y⟩ ⟨U, U, Y⟩) ?_
 intro ⟨i, κ⟩ ⟨hi, hκ⟩
 dsimp only at hi hκ; subst hκ
 refine AW.seq ?_
 refine AW.sr ?_
 refine AWl.mv ?_
 refine AWl.mv ?_
 refine AWl.p (by exact R_len U (.no U) U (.tm U) (by exact .rf U) Try.underlying37) U ?_
 refine AWl.p (R_lt U (.no U) U (.tm U) (.tm U)) U ?_
 refine AWl.nil ?_
 refine AW.cond (.tm U) (fun hlt => ?_) (fun hlt => ?_)
 · skip
   try simp at hlt
   replace hlt : i < l.length := by simp only [mkL_length, List.length_take] at hlt; omega
   obtain ⟨x, hx⟩ : ∃ x, l[i]? = some x := ⟨_, List.getElem?_eq_getElem hlt⟩
   have hrow := mark_at (f := mkEdge) (c := cntEdge) (k := k) cEdge hx
   have hcs := cntL_at (c := cntEdge) hx
   have hcn := cntL_nonneg cntEdge_nn (l.take i)
   have hcl := cntL_le cntEdge_nn l (i + 1)
   have hce : cntEdge x = 1 + 1 + 1 + 1 := rfl
   refine AW.skip ?_
   refine AW.seq ?_
   refine AW.block ?_
   refine AW.sr ?_
   refine AWl.mv ?_
   refine AWl.mv ?_
   refine AWl.mv ?_
   refine AWl.p (by exact R_indexAddr_rf U (.no U) U (.tm U) U (.tm U) Try.underlying37 ty93 (fun _ => ⟨by omega, (by exact hrow)⟩)) U ?_
   refine AWl.p (by exact R_fieldAddr_pr U (.no U) U (.tm U) fl93_0) U ?_
   refine AWl.absupd (R_store_pr U U U (.tm U) U (.tm U) U (by exact hrow) ty3 U U U U) ?_
   refine AWl.nil (AW.sr ?_)
   refine AWl.mv ?_
   refine AWl.p (R_add U (.no U) U (.tm U) (.const U) (fun _ => by omega)) U ?_
   refine AWl.av ?_
   refine AWl.nil (AW.sr ?_)
   refine AWl.mv ?_
   refine AWl.mv ?_
   refine AWl.mv ?_
   refine AWl.p ((by exact R_indexAddr_rf U (.no U) U (.tm U) U (.tm U) Try.underlying37 ty93 (fun _ => ⟨by omega, (by exact set_at _ (hrow))⟩))) U ?_
   refine AWl.p (by exact R_fieldAddr_pr U (.no U) U (.tm U) fl93_1) U ?_
   refine AWl.absupd (R_store_pr U U U (.tm U) U (.tm U) U (by exact set_at _ (hrow)) ty3 U U U U) ?_
   refine AWl.nil (AW.sr ?_)
   refine AWl.mv ?_
   refine AWl.p (R_add U (.no U) U (.tm U) (.const U) (fun _ => by omega)) U ?_
   refine AWl.av ?_
   refine AWl.nil (AW.sr ?_)
   refine AWl.mv ?_
   refine AWl.mv ?_
   refine AWl.mv ?_
   refine AWl.p ((by exact R_indexAddr_rf U (.no U) U (.tm U) U (.tm U) Try.underlying37 ty93 (fun _ => ⟨by omega, (by exact set_at _ (set_at _ (hrow)))⟩))) U ?_
   refine AWl.p (by exact R_fieldAddr_pr U (.no U) U (.tm U) fl93_2) U ?_
   refine AWl.absupd (R_store_pr U U U (.tm U) U (.tm U) U (by exact set_at _ (set_at _ (hrow))) ty3 U U U U) ?_
   refine AWl.nil (AW.sr ?_)
   refine AWl.mv ?_
   refine AWl.p (R_add U (.no U) U (.tm U) (.const U) (fun _ => by omega)) U ?_
   refine AWl.av ?_
   refine AWl.nil (AW.sr ?_)
   refine AWl.mv ?_
   refine AWl.mv ?_
   refine AWl.mv ?_
   refine AWl.p ((by exact R_indexAddr_rf U (.no U) U (.tm U) U (.tm U) Try.underlying37 ty93 (fun _ => ⟨by omega, (by exact set_at _ (set_at _ (set_at _ (hrow))))⟩))) U ?_
   refine AWl.p (by exact R_fieldAddr_pr U (.no U) U (.tm U) fl93_3) U ?_
   refine AWl.absupd (R_store_pr U U U (.tm U) U (.tm U) U (by exact set_at _ (set_at _ (set_at _ (hrow)))) ty3 U U U U) ?_
   refine AWl.nil (AW.region ?_)
   refine AWl.mv ?_
   refine AWl.p (R_add U (.no U) U (.tm U) (.const U) (fun _ => by omega)) U ?_
   refine AWl.av ?_
   refine AWl.nil (AW.region ?_)
   refine AWl.mv ?_
   refine AWl.p (R_add U (.no U) U (.tm U) (.const U) (fun _ => by omega)) U ?_
   refine AWl.av ?_
   refine AWl.nil ?_
   refine Round.next (i + 1, _) ⟨by dsimp only; omega, by dsimp only; omega⟩ (by dsimp only; omega) (Le.sub0 rfl ⟨rfl, rfl, rfl, rfl, Y⟩ ⟨congrArg (fun r => some (R.row 4 r)) (by simp only [List.set_set]; exact mark_set _ hx rfl), rfl, Y⟩)
 · skip
   try simp at hlt
   replace hlt : l.length ≤ i := by simp only [mkL_length, List.length_take] at hlt; omega
   refine AW.exit ?_
   refine AW.sr ?_
   refine AWl.mv ?_
   refine AWl.av ?_
   refine AWl.nil (AW.ret ?_)
   refine RetM.mk (Res.v rfl rfl ?_) (.rf (congrArg (fun r => some (R.row 4 r)) (mark_all _ (by omega))) rfl rfl .nil)
   rw [cntL_all (by omega)]; rfl
set_option maxRecDepth 100000 in
theorem MmarkGraph (x : TGraph) (k : Int) (hk : 0 ≤ k ∧ k + cpGraph x ≤ 4611686018427387904) : FnM Try.prog 13 (.agg (cGraph x)) (.int .i64 k) (.agg (cGraph (mpGraph x k))) (.int .i64 (k + cpGraph x)) := by
 refine FnM.walk (y := .agg [.rf 1000, .rf 1001]) (R0 := fun hd => [(1001, .row 4 (x.Edges.map cEdge)), (1000, .row 1 (x.Values.map cInt)), (500, .hdr (some 1000) (hd 1000)), (501, .hdr (some 1001) (hd 1001))]) (ts := cGraph (mpGraph x k)) Try.func13 rfl (by kernel_rfl) Try.ntmps13 rfl rfl rfl rfl rfl rfl rfl rfl fun hlen w0 hd => ?_
 try simp [cPair, cToken, cExpr, cEdge, cGraph, cStep, cWalk, cChange, cBatch, cHistory, cPositions, cAutomaton, cProductStep, cPathAtom, cConjunction, cView, cDelta, cRegistered, cRegistry] at hlen
 have := cntIntS_nn x.Values
 have := cntEdgeS_nn x.Edges
 have hce : cpGraph x = cntIntS x.Values + cntEdgeS x.Edges := rfl
 refine AW.sr ?_
 refine AWl.add (R_box 2 U U U (.tm U) U U U) U ?_
 refine AWl.ac ?_
 refine AWl.nil (AW.sr ?_)
 refine AWl.p (by exact R_fieldAddr_pp U (.no U) U (.tm U) fl39_0) U ?_
 refine AWl.p (by exact R_load_pp U (.no U) U (.tm U) U ty22 U U) U ?_
 refine AWl.mv ?_
 refine AWl.marks (R_markc U U U (.tm U) (.tm U) (MmarkIntS _ _ (by omega)) (.rf U U .nil) U U) U ?_
 refine AWl.av ?_
 refine AWl.nil (AW.sr ?_)
 refine AWl.p (by exact R_fieldAddr_pp U (.no U) U (.tm U) fl39_1) U ?_
 refine AWl.p (by exact R_load_pp U (.no U) U (.tm U) U ty37 U U) U ?_
 refine AWl.mv ?_
 refine AWl.marks (R_markc U U U (.tm U) (.tm U) (MmarkEdgeS _ _ (by omega)) (.rf U U .nil) U U) U ?_
 refine AWl.av ?_
 refine AWl.nil (AW.sr ?_)
 refine AWl.mv ?_
 refine AWl.av ?_
 refine AWl.nil (AW.ret ?_)
 refine RetM.mk (Res.v rfl rfl ?_) (.rf rfl rfl rfl (.rf rfl rfl rfl .nil))
 first | rfl | (congr 1; omega)
set_option maxRecDepth 100000 in
theorem MmarkStepS (l : (List TStep)) (k : Int) (hk : 0 ≤ k ∧ k + cntStepS l ≤ 4611686018427387904) : FnM Try.prog 46 (.one (.sl 2 (l.map cStep))) (.int .i64 k) (.one (.sl 2 ((mkStepS l k).map cStep))) (.int .i64 (k + cntStepS l)) := by
 refine FnM.walk (y := .one (.rf 1000)) (R0 := fun hd => [(1000, .row 2 (l.map cStep)), (500, .hdr (some 1000) (hd 1000))]) (ts := [.sl 2 ((mkStepS l k).map cStep)]) Try.func46 rfl (by kernel_rfl) Try.ntmps46 rfl rfl rfl rfl rfl rfl rfl rfl fun hlen w0 hd => ?_
 try simp [cPair, cToken, cExpr, cEdge, cGraph, cStep, cWalk, cChange, cBatch, cHistory, cPositions, cAutomaton, cProductStep, cPathAtom, cConjunction, cView, cDelta, cRegistered, cRegistry] at hlen
 try simp only [LenV, LenT, List.length_map] at hlen
 unfold cntStepS at hk
 refine AW.sr ?_
 refine AWl.ac ?_
 refine AWl.nil (AW.seq ?_)
 refine AW.sr ?_
 refine AWl.ac ?_
 refine AWl.nil (AW.block ?_)
 refine AW.loop (β := Nat × Int) (fun j => j.1 ≤ l.length ∧ j.2 = k + cntL cntStep (l.take j.1)) (fun j => ⟨_, [(5, (true, .a (.one (.t (.v (.int .i64 (j.1 : Nat))))))), (1, (true, .a (.one (.t (.v (.int .i64 j.2)))))), (0, _), (4, _)], [(1000, .row 2 ((mkL mkStep cntStep (l.take j.1) k).map cStep ++ (l.drop j.1).map cStep)), (500, .hdr (some 1000) (hd 1000))]⟩) (fun j => l.length - j.1) ((0, k)) ⟨Nat.zero_le _, by simp [cntL]⟩ (Le.sub0 U ⟨U, U, U, U, Y⟩ ⟨U, U, Y⟩) ?_
 intro ⟨i, κ⟩ ⟨hi, hκ⟩
 dsimp only at hi hκ; subst hκ
 refine AW.seq ?_
 refine AW.sr ?_
 refine AWl.mv ?_
 refine AWl.mv ?_
 refine AWl.p (by exact R_len U (.no U) U (.tm U) (by exact .rf U) Try.underlying32) U ?_
 refine AWl.p (R_lt U (.no U) U (.tm U) (.tm U)) U ?_
 refine AWl.nil ?_
 refine AW.cond (.tm U) (fun hlt => ?_) (fun hlt => ?_)
 · skip
   try simp at hlt
   replace hlt : i < l.length := by simp only [mkL_length, List.length_take] at hlt; omega
   obtain ⟨x, hx⟩ : ∃ x, l[i]? = some x := ⟨_, List.getElem?_eq_getElem hlt⟩
   have hrow := mark_at (f := mkStep) (c := cntStep) (k := k) cStep hx
   have hcs := cntL_at (c := cntStep) hx
   have hcn := cntL_nonneg cntStep_nn (l.take i)
   have hcl := cntL_le cntStep_nn l (i + 1)
   have hce : cntStep x = 1 + 1 := rfl
   refine AW.skip ?_
   refine AW.seq ?_
   refine AW.block ?_
   refine AW.sr ?_
   refine AWl.mv ?_
   refine AWl.mv ?_
   refine AWl.mv ?_
   refine AWl.p (by exact R_indexAddr_rf U (.no U) U (.tm U) U (.tm U) Try.underlying32 ty59 (fun _ => ⟨by omega, (by exact hrow)⟩)) U ?_
   refine AWl.p (by exact R_fieldAddr_pr U (.no U) U (.tm U) fl59_0) U ?_
   refine AWl.absupd (R_store_pr U U U (.tm U) U (.tm U) U (by exact hrow) ty3 U U U U) ?_
   refine AWl.nil (AW.sr ?_)
   refine AWl.mv ?_
   refine AWl.p (R_add U (.no U) U (.tm U) (.const U) (fun _ => by omega)) U ?_
   refine AWl.av ?_
   refine AWl.nil (AW.sr ?_)
   refine AWl.mv ?_
   refine AWl.mv ?_
   refine AWl.mv ?_
   refine AWl.p (R_rem U (.no U) U (.tm U) (.const U) (fun _ => by omega)) U ?_
   refine AWl.p (R_eq U (.no U) U (.tm U) (.const U)) U ?_
   refine AWl.p ((by exact R_indexAddr_rf U (.no U) U (.tm U) U (.tm U) Try.underlying32 ty59 (fun _ => ⟨by omega, (by exact set_at _ (hrow))⟩))) U ?_
   refine AWl.p (by exact R_fieldAddr_pr U (.no U) U (.tm U) fl59_1) U ?_
   refine AWl.absupd (R_store_pr U U U (.tm U) U (.tm U) U (by exact set_at _ (hrow)) ty4 U U U U) ?_
   refine AWl.nil (AW.region ?_)
   refine AWl.mv ?_
   refine AWl.p (R_add U (.no U) U (.tm U) (.const U) (fun _ => by omega)) U ?_
   refine AWl.av ?_
   refine AWl.nil (AW.region ?_)
   refine AWl.mv ?_
   refine AWl.p (R_add U (.no U) U (.tm U) (.const U) (fun _ => by omega)) U ?_
   refine AWl.av ?_
   refine AWl.nil ?_
   refine Round.next (i + 1, _) ⟨by dsimp only; omega, by dsimp only; omega⟩ (by dsimp only; omega) (Le.sub0 rfl ⟨rfl, rfl, rfl, rfl, Y⟩ ⟨congrArg (fun r => some (R.row 2 r)) (by simp only [List.set_set]; exact mark_set _ hx rfl), rfl, Y⟩)
 · skip
   try simp at hlt
   replace hlt : l.length ≤ i := by simp only [mkL_length, List.length_take] at hlt; omega
   refine AW.exit ?_
   refine AW.sr ?_
   refine AWl.mv ?_
   refine AWl.av ?_
   refine AWl.nil (AW.ret ?_)
   refine RetM.mk (Res.v rfl rfl ?_) (.rf (congrArg (fun r => some (R.row 2 r)) (mark_all _ (by omega))) rfl rfl .nil)
   rw [cntL_all (by omega)]; rfl
set_option maxRecDepth 100000 in
theorem MheldStepS (l : (List TStep)) (k : Int) (hk : 0 ≤ k ∧ k + cntStepS l ≤ 4611686018427387904) : FnT Try.prog 47 [.one (.sl 2 ((mkStepS l k).map cStep)), .one (.v (.int .i64 k))] (.a (.one (.v (.int .i64 (k + cntStepS l))))) := by
 refine FnT.walk Try.func47 U (by kernel_rfl) Try.ntmps47 U fun hlen w0 => ?_
 try simp [cPair, cToken, cExpr, cEdge, cGraph, cStep, cWalk, cChange, cBatch, cHistory, cPositions, cAutomaton, cProductStep, cPathAtom, cConjunction, cView, cDelta, cRegistered, cRegistry] at hlen
 unfold cntStepS at hk ⊢; unfold mkStepS at hlen ⊢; try simp only [LenV, LenT, List.length_map, mkL_length] at hlen
 refine AW.sr ?_
 refine AWl.ac ?_
 refine AWl.nil (AW.seq ?_)
 refine AW.sr ?_
 refine AWl.ac ?_
 refine AWl.nil (AW.block ?_)
 refine AW.loop (β := Nat × Int) (fun j => j.1 ≤ l.length ∧ j.2 = k + cntL cntStep (l.take j.1)) (fun j => ⟨_, [(5, (true, .a (.one (.t (.v (.int .i64 (j.1 : Nat))))))), (1, (true, .a (.one (.t (.v (.int .i64 j.2)))))), (0, _)], []⟩) (fun j => l.length - j.1) ((0, k)) ⟨Nat.zero_le _, by simp [cntL]⟩ (Le.sub0 U ⟨U, U, U, Y⟩ trivial) ?_
 intro ⟨i, κ⟩ ⟨hi, hκ⟩
 dsimp only at hi hκ; subst hκ
 refine AW.seq ?_
 refine AW.sr ?_
 refine AWl.mv ?_
 refine AWl.mv ?_
 refine AWl.p (by exact R_lenm U (.no U) U (.tm U) (by exact .t) Try.underlying32) U ?_
 refine AWl.p (R_lt U (.no U) U (.tm U) (.tm U)) U ?_
 refine AWl.nil ?_
 refine AW.cond (.tm U) (fun hlt => ?_) (fun hlt => ?_)
 · skip
   try simp at hlt
   rw [mkL_length] at hlt
   obtain ⟨x, hx⟩ : ∃ x, l[i]? = some x := ⟨_, List.getElem?_eq_getElem hlt⟩
   have hrow := map_get (f := cStep) (mkL_get (f := mkStep) (c := cntStep) (k := k) hx)
   have hcs := cntL_at (c := cntStep) hx
   have hcn := cntL_nonneg cntStep_nn (l.take i)
   have hcl := cntL_le cntStep_nn l (i + 1)
   have hce : cntStep x = 1 + 1 := rfl
   refine AW.skip ?_
   refine AW.seq ?_
   refine AW.block ?_
   refine AW.seq ?_
   refine AW.sr ?_
   refine AWl.mv ?_
   refine AWl.mv ?_
   refine AWl.p (by exact R_indexAddr U (.no U) U (.tm U) (.tm U) Try.underlying32 ty59 (fun _ => ⟨by omega, hrow⟩)) U ?_
   refine AWl.p (by exact R_fieldAddr U (.no U) U (.tm U) fl59_0) U ?_
   refine AWl.p (by exact R_load U (.no U) U (.tm U) ty3 U U) U ?_
   refine AWl.mv ?_
   refine AWl.p (R_ne U (.no U) U (.tm U) (.tm U)) U ?_
   refine AWl.nil ?_
   refine AW.cond (.tm U) (fun h18 => ?_) (fun h18 => ?_)
   · first | (exfalso; simp at h18; omega) | (exfalso; simp [mkStep] at h18; done) | (exfalso; simp [mkStep] at h18; omega)
   · skip
     try simp at h18
     refine AW.skip ?_
     refine AW.sr ?_
     refine AWl.mv ?_
     refine AWl.p (R_add U (.no U) U (.tm U) (.const U) (fun _ => by omega)) U ?_
     refine AWl.av ?_
     refine AWl.nil (AW.seq ?_)
     refine AW.sr ?_
     refine AWl.mv ?_
     refine AWl.mv ?_
     refine AWl.p (by exact R_indexAddr U (.no U) U (.tm U) (.tm U) Try.underlying32 ty59 (fun _ => ⟨by omega, hrow⟩)) U ?_
     refine AWl.p (by exact R_fieldAddr U (.no U) U (.tm U) fl59_1) U ?_
     refine AWl.p (by exact R_load U (.no U) U (.tm U) ty4 U U) U ?_
     refine AWl.mv ?_
     refine AWl.p (R_rem U (.no U) U (.tm U) (.const U) (fun _ => by omega)) U ?_
     refine AWl.p (R_eq U (.no U) U (.tm U) (.const U)) U ?_
     refine AWl.p (R_neb U (.no U) U (.tm U) (.tm U) Try.underlying4) U ?_
     refine AWl.nil ?_
     refine AW.cond (.tm U) (fun h29 => ?_) (fun h29 => ?_)
     · first | (exfalso; simp at h29; omega) | (exfalso; simp [mkStep] at h29; done) | (exfalso; simp [mkStep] at h29; omega)
     · skip
       try simp at h29
       refine AW.skip ?_
       refine AW.region ?_
       refine AWl.mv ?_
       refine AWl.p (R_add U (.no U) U (.tm U) (.const U) (fun _ => by omega)) U ?_
       refine AWl.av ?_
       refine AWl.nil (AW.region ?_)
       refine AWl.mv ?_
       refine AWl.p (R_add U (.no U) U (.tm U) (.const U) (fun _ => by omega)) U ?_
       refine AWl.av ?_
       refine AWl.nil ?_
       refine Round.next (i + 1, _) ⟨by dsimp only; omega, by dsimp only; omega⟩ (by dsimp only; omega) (Le.sub0 rfl ⟨rfl, rfl, rfl, Y⟩ trivial)
 · skip
   try simp at hlt
   rw [mkL_length] at hlt
   refine AW.exit ?_
   refine AW.sr ?_
   refine AWl.mv ?_
   refine AWl.av ?_
   refine AWl.nil (AW.ret ?_)
   refine Res.v U U ?_
   rw [cntL_all (by omega)]
set_option maxRecDepth 100000 in
theorem MmarkWalk (x : TWalk) (k : Int) (hk : 0 ≤ k ∧ k + cpWalk x ≤ 4611686018427387904) : FnM Try.prog 15 (.agg (cWalk x)) (.int .i64 k) (.agg (cWalk (mpWalk x k))) (.int .i64 (k + cpWalk x)) := by
 refine FnM.walk (y := .agg [.t (.v (.int .i64 x.Start)), .rf 1000]) (R0 := fun hd => [(1000, .row 2 (x.Steps.map cStep)), (500, .hdr (some 1000) (hd 1000))]) (ts := cWalk (mpWalk x k)) Try.func15 rfl (by kernel_rfl) Try.ntmps15 rfl rfl rfl rfl rfl rfl rfl rfl fun hlen w0 hd => ?_
 try simp [cPair, cToken, cExpr, cEdge, cGraph, cStep, cWalk, cChange, cBatch, cHistory, cPositions, cAutomaton, cProductStep, cPathAtom, cConjunction, cView, cDelta, cRegistered, cRegistry] at hlen
 have := cntStepS_nn x.Steps
 have hce : cpWalk x = 0 + cntStepS x.Steps := rfl
 refine AW.sr ?_
 refine AWl.add (R_box 2 U U U (.tm U) U U U) U ?_
 refine AWl.ac ?_
 refine AWl.nil (AW.sr ?_)
 refine AWl.p (by exact R_fieldAddr_pp U (.no U) U (.tm U) fl34_1) U ?_
 refine AWl.p (by exact R_load_pp U (.no U) U (.tm U) U ty32 U U) U ?_
 refine AWl.mv ?_
 refine AWl.marks (R_markc U U U (.tm U) (.tm U) (MmarkStepS _ _ (by omega)) (.rf U U .nil) U U) U ?_
 refine AWl.av ?_
 refine AWl.nil (AW.sr ?_)
 refine AWl.mv ?_
 refine AWl.av ?_
 refine AWl.nil (AW.ret ?_)
 refine RetM.mk (Res.v rfl rfl ?_) (.v (.rf rfl rfl rfl .nil))
 first | rfl | (congr 1; omega)
set_option maxRecDepth 100000 in
theorem MheldWalk (x : TWalk) (k : Int) (hk : 0 ≤ k ∧ k + cpWalk x ≤ 4611686018427387904) : FnT Try.prog 16 [.agg (cWalk (mpWalk x k)), .one (.v (.int .i64 k))] (.a (.one (.v (.int .i64 (k + cpWalk x))))) := by
 refine FnT.walk Try.func16 U (by kernel_rfl) Try.ntmps16 U fun hlen w0 => ?_
 try simp [cPair, cToken, cExpr, cEdge, cGraph, cStep, cWalk, cChange, cBatch, cHistory, cPositions, cAutomaton, cProductStep, cPathAtom, cConjunction, cView, cDelta, cRegistered, cRegistry] at hlen
 have := cntStepS_nn x.Steps
 have hce : cpWalk x = 0 + cntStepS x.Steps := rfl
 refine AW.sr ?_
 refine AWl.p (R_boxz U U U (.tm U) (ts := _) (by rfl)) U ?_
 refine AWl.ac ?_
 refine AWl.nil (AW.sr ?_)
 refine AWl.p (by exact R_fieldAddr U (.no U) U (.tm U) fl34_1) U ?_
 refine AWl.p (by exact R_load U (.no U) U (.tm U) ty32 U U) U ?_
 refine AWl.mv ?_
 refine AWl.p (R_callz (FnT.fr (MheldStepS _ _ (by omega))) U (.no U) U (.cons (.tm U) U (.cons (.tm U) U .nil))) U ?_
 refine AWl.av ?_
 refine AWl.nil (AW.seq ?_)
 refine AW.sr ?_
 refine AWl.mv ?_
 refine AWl.p (R_lt U (.no U) U (.tm U) (.const U)) U ?_
 refine AWl.nil ?_
 refine AW.cond (.tm U) (fun h10 => ?_) (fun h10 => ?_)
 · (exfalso; simp at h10; omega)
 · skip
   try simp at h10
   refine AW.skip ?_
   refine AW.sr ?_
   refine AWl.mv ?_
   refine AWl.av ?_
   refine AWl.nil (AW.ret ?_)
   refine Res.v U U ?_
   first | rfl | (congr 1; omega)
set_option maxRecDepth 100000 in
theorem MmarkAutomaton (x : TAutomaton) (k : Int) (hk : 0 ≤ k ∧ k + cpAutomaton x ≤ 4611686018427387904) : FnM Try.prog 14 (.agg (cAutomaton x)) (.int .i64 k) (.agg (cAutomaton (mpAutomaton x k))) (.int .i64 (k + cpAutomaton x)) := by
 refine FnM.walk (y := .agg [.t (.v (.int .i64 x.Start)), .rf 1000, .rf 1001]) (R0 := fun hd => [(1001, .row 1 (x.Next.map cIntS)), (1000, .row 1 (x.Accept.map cBool)), (500, .hdr (some 1000) (hd 1000)), (501, .hdr (some 1001) (hd 1001))]) (ts := cAutomaton (mpAutomaton x k)) Try.func14 rfl (by kernel_rfl) Try.ntmps14 rfl rfl rfl rfl rfl rfl rfl rfl fun hlen w0 hd => ?_
 try simp [cPair, cToken, cExpr, cEdge, cGraph, cStep, cWalk, cChange, cBatch, cHistory, cPositions, cAutomaton, cProductStep, cPathAtom, cConjunction, cView, cDelta, cRegistered, cRegistry] at hlen
 have := cntBoolS_nn x.Accept
 have := cntIntSS_nn x.Next
 have hce : cpAutomaton x = 0 + cntBoolS x.Accept + cntIntSS x.Next := rfl
 refine AW.sr ?_
 refine AWl.add (R_box 2 U U U (.tm U) U U U) U ?_
 refine AWl.ac ?_
 refine AWl.nil (AW.sr ?_)
 refine AWl.p (by exact R_fieldAddr_pp U (.no U) U (.tm U) fl41_1) U ?_
 refine AWl.p (by exact R_load_pp U (.no U) U (.tm U) U ty26 U U) U ?_
 refine AWl.mv ?_
 refine AWl.marks (R_markc U U U (.tm U) (.tm U) (MmarkBoolS _ _ (by omega)) (.rf U U .nil) U U) U ?_
 refine AWl.av ?_
 refine AWl.nil (AW.sr ?_)
 refine AWl.p (by exact R_fieldAddr_pp U (.no U) U (.tm U) fl41_2) U ?_
 refine AWl.p (by exact R_load_pp U (.no U) U (.tm U) U ty27 U U) U ?_
 refine AWl.mv ?_
 refine AWl.marks (R_markc U U U (.tm U) (.tm U) (MmarkIntSS _ _ (by omega)) (.rf U U .nil) U U) U ?_
 refine AWl.av ?_
 refine AWl.nil (AW.sr ?_)
 refine AWl.mv ?_
 refine AWl.av ?_
 refine AWl.nil (AW.ret ?_)
 refine RetM.mk (Res.v rfl rfl ?_) (.v (.rf rfl rfl rfl (.rf rfl rfl rfl .nil)))
 first | rfl | (congr 1; omega)
end Go.Proofs.Ytamnfkfjfelbbaa
