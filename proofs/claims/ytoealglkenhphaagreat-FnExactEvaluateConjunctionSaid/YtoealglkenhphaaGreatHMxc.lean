import Derived.Test.YtoealglkenhphaaGreatSortxc
set_option linter.unusedVariables false
set_option linter.unusedSimpArgs false
namespace Go.Proofs.YtoealglkenhphaaGreat
open Go.RowKit Go.Q Go.D
set_option maxRecDepth 100000 in
theorem MmarkIntS (l : (List Int)) (k : Int) (hk : 0 ≤ k ∧ k + cntIntS l ≤ 4611686018427387904) : FnM Tryz.prog 32 (.one (.sl 1 (l.map cInt))) (.int .i64 k) (.one (.sl 1 ((mkIntS l k).map cInt))) (.int .i64 (k + cntIntS l)) := by
 refine FnM.walk (y := .one (.rf 1000)) (R0 := fun hd => [(1000, .row 1 (l.map cInt)), (500, .hdr (some 1000) (hd 1000))]) (ts := [.sl 1 ((mkIntS l k).map cInt)]) Tryz.func32 rfl (by kernel_rfl) Tryz.ntmps32 rfl rfl rfl rfl rfl rfl rfl rfl fun hlen w0 hd => ?_
 try simp [cPair, cToken, cExpr, cEdge, cGraph, cStep, cWalk, cChange, cBatch, cHistory, cPositions, cAutomaton, cProductStep, cPathAtom, cConjunction, cView, cDelta, cRegistered, cRegistry] at hlen
 try simp only [LenV, LenT, List.length_map] at hlen
 unfold cntIntS at hk
 refine AW.seq ?_
 refine AW.region ?_
 refine AWl.put (R_assign rfl (.no rfl) rfl (.const rfl)) rfl ?_
 refine AWl.nil (AW.seq ?_)
 refine AW.seq ?_
 refine AW.region ?_
 refine AWl.put (R_assign rfl (.no rfl) rfl (.const rfl)) rfl ?_
 refine AWl.nil (AW.block ?_)
 refine AW.loop (β := Nat × Int) (fun j => j.1 ≤ l.length ∧ j.2 = k + cntL cntInt (l.take j.1)) (fun j => ⟨_, [(5, (true, .a (.one (.t (.v (.int .i64 (j.1 : Nat))))))), (1, (true, .a (.one (.t (.v (.int .i64 j.2)))))), (0, _), (4, _)], [(1000, .row 1 ((mkL mkInt cntInt (l.take j.1) k).map cInt ++ (l.drop j.1).map cInt)), (500, .hdr (some 1000) (hd 1000))]⟩) (fun j => l.length - j.1) ((0, k)) ⟨Nat.zero_le _, by simp [cntL]⟩ (Le.sub0 rfl ⟨rfl, rfl, rfl, rfl, trivial⟩ ⟨rfl, rfl, trivial⟩) ?_
 intro ⟨i, κ⟩ ⟨hi, hκ⟩
 dsimp only at hi hκ; subst hκ
 refine AW.seq ?_
 refine AW.seq ?_
 refine AW.region ?_
 refine AWl.put (R_move rfl (.no rfl) rfl (.tmp rfl fun _ => rfl)) rfl ?_
 refine AWl.put (R_move rfl (.no rfl) rfl (.tmp rfl fun _ => rfl)) rfl ?_
 refine AWl.put (by exact R_len rfl (.no rfl) rfl (.tmp rfl fun _ => rfl) (by exact .rf rfl) Tryz.underlying22) rfl ?_
 refine AWl.put (R_lt rfl (.no rfl) rfl (.tmp rfl fun _ => rfl) (.tmp rfl fun _ => rfl)) rfl ?_
 refine AWl.nil ?_
 refine AW.cond (.tmp rfl fun _ => rfl) (fun hlt => ?_) (fun hlt => ?_)
 · skip
   try simp at hlt
   replace hlt : i < l.length := by simp only [mkL_length, List.length_take] at hlt; omega
   obtain ⟨x, hx⟩ : ∃ x, l[i]? = some x := ⟨_, List.getElem?_eq_getElem hlt⟩
   have hrow := mark_at (f := mkInt) (c := cntInt) (k := k) cInt hx
   have hcs := cntL_at (c := cntInt) hx
   have hcn := cntL_nonneg cntInt_nn (l.take i)
   have hcl := cntL_le cntInt_nn l (i + 1)
   have hce : cntInt x = 1 := rfl
   refine AW.skip ?_
   refine AW.seq ?_
   refine AW.block ?_
   refine AW.seq ?_
   refine AW.region ?_
   refine AWl.put (R_move rfl (.no rfl) rfl (.tmp rfl fun _ => rfl)) rfl ?_
   refine AWl.put (R_move rfl (.no rfl) rfl (.tmp rfl fun _ => rfl)) rfl ?_
   refine AWl.put (R_move rfl (.no rfl) rfl (.tmp rfl fun _ => rfl)) rfl ?_
   refine AWl.put (by exact R_indexAddr_rf rfl (.no rfl) rfl (.tmp rfl fun _ => rfl) rfl (.tmp rfl fun _ => rfl) Tryz.underlying22 ty3 (fun _ => ⟨by omega, (by exact hrow)⟩)) rfl ?_
   refine AWl.absupd (R_store_pr rfl rfl rfl (.tmp rfl fun _ => rfl) rfl (.tmp rfl fun _ => rfl) rfl (by exact hrow) ty3 rfl rfl rfl rfl) ?_
   refine AWl.nil (AW.region ?_)
   refine AWl.put (R_move rfl (.no rfl) rfl (.tmp rfl fun _ => rfl)) rfl ?_
   refine AWl.put (R_add rfl (.no rfl) rfl (.tmp rfl fun _ => rfl) (.const rfl) (fun _ => by omega)) rfl ?_
   refine AWl.put (R_assign rfl (.no rfl) rfl (.tmp rfl fun _ => rfl)) rfl ?_
   refine AWl.nil (AW.region ?_)
   refine AWl.put (R_move rfl (.no rfl) rfl (.tmp rfl fun _ => rfl)) rfl ?_
   refine AWl.put (R_add rfl (.no rfl) rfl (.tmp rfl fun _ => rfl) (.const rfl) (fun _ => by omega)) rfl ?_
   refine AWl.put (R_assign rfl (.no rfl) rfl (.tmp rfl fun _ => rfl)) rfl ?_
   refine AWl.nil ?_
   refine Round.next (i + 1, _) ⟨by dsimp only; omega, by dsimp only; omega⟩ (by dsimp only; omega) (Le.sub0 rfl ⟨rfl, rfl, rfl, rfl, trivial⟩ ⟨congrArg (fun r => some (R.row 1 r)) (by simp only [List.set_set]; exact mark_set _ hx rfl), rfl, trivial⟩)
 · skip
   try simp at hlt
   replace hlt : l.length ≤ i := by simp only [mkL_length, List.length_take] at hlt; omega
   refine AW.exit ?_
   refine AW.seq ?_
   refine AW.region ?_
   refine AWl.put (R_move rfl (.no rfl) rfl (.tmp rfl fun _ => rfl)) rfl ?_
   refine AWl.put (R_assign rfl (.no rfl) rfl (.tmp rfl fun _ => rfl)) rfl ?_
   refine AWl.nil (AW.ret ?_)
   refine RetM.mk (Res.v rfl rfl ?_) (.rf (congrArg (fun r => some (R.row 1 r)) (mark_all _ (by omega))) rfl rfl .nil)
   rw [cntL_all (by omega)]; rfl
set_option maxRecDepth 100000 in
theorem MheldIntS (l : (List Int)) (k : Int) (hk : 0 ≤ k ∧ k + cntIntS l ≤ 4611686018427387904) : FnT Tryz.prog 33 [.one (.sl 1 ((mkIntS l k).map cInt)), .one (.v (.int .i64 k))] (.a (.one (.v (.int .i64 (k + cntIntS l))))) := by
 refine FnT.walk Tryz.func33 rfl (by kernel_rfl) Tryz.ntmps33 rfl fun hlen w0 => ?_
 try simp [cPair, cToken, cExpr, cEdge, cGraph, cStep, cWalk, cChange, cBatch, cHistory, cPositions, cAutomaton, cProductStep, cPathAtom, cConjunction, cView, cDelta, cRegistered, cRegistry] at hlen
 unfold cntIntS at hk ⊢; unfold mkIntS at hlen ⊢; try simp only [LenV, LenT, List.length_map, mkL_length] at hlen
 refine AW.seq ?_
 refine AW.region ?_
 refine AWl.put (R_assign rfl (.no rfl) rfl (.const rfl)) rfl ?_
 refine AWl.nil (AW.seq ?_)
 refine AW.seq ?_
 refine AW.region ?_
 refine AWl.put (R_assign rfl (.no rfl) rfl (.const rfl)) rfl ?_
 refine AWl.nil (AW.block ?_)
 refine AW.loop (β := Nat × Int) (fun j => j.1 ≤ l.length ∧ j.2 = k + cntL cntInt (l.take j.1)) (fun j => ⟨_, [(5, (true, .a (.one (.t (.v (.int .i64 (j.1 : Nat))))))), (1, (true, .a (.one (.t (.v (.int .i64 j.2)))))), (0, _)], []⟩) (fun j => l.length - j.1) ((0, k)) ⟨Nat.zero_le _, by simp [cntL]⟩ (Le.sub0 rfl ⟨rfl, rfl, rfl, trivial⟩ trivial) ?_
 intro ⟨i, κ⟩ ⟨hi, hκ⟩
 dsimp only at hi hκ; subst hκ
 refine AW.seq ?_
 refine AW.seq ?_
 refine AW.region ?_
 refine AWl.put (R_move rfl (.no rfl) rfl (.tmp rfl fun _ => rfl)) rfl ?_
 refine AWl.put (R_move rfl (.no rfl) rfl (.tmp rfl fun _ => rfl)) rfl ?_
 refine AWl.put (by exact R_lenm rfl (.no rfl) rfl (.tmp rfl fun _ => rfl) (by exact .t) Tryz.underlying22) rfl ?_
 refine AWl.put (R_lt rfl (.no rfl) rfl (.tmp rfl fun _ => rfl) (.tmp rfl fun _ => rfl)) rfl ?_
 refine AWl.nil ?_
 refine AW.cond (.tmp rfl fun _ => rfl) (fun hlt => ?_) (fun hlt => ?_)
 · skip
   try simp at hlt
   rw [mkL_length] at hlt
   obtain ⟨x, hx⟩ : ∃ x, l[i]? = some x := ⟨_, List.getElem?_eq_getElem hlt⟩
   have hrow := map_get (f := cInt) (mkL_get (f := mkInt) (c := cntInt) (k := k) hx)
   have hcs := cntL_at (c := cntInt) hx
   have hcn := cntL_nonneg cntInt_nn (l.take i)
   have hcl := cntL_le cntInt_nn l (i + 1)
   have hce : cntInt x = 1 := rfl
   refine AW.skip ?_
   refine AW.seq ?_
   refine AW.block ?_
   refine AW.seq ?_
   refine AW.seq ?_
   refine AW.region ?_
   refine AWl.put (R_move rfl (.no rfl) rfl (.tmp rfl fun _ => rfl)) rfl ?_
   refine AWl.put (R_move rfl (.no rfl) rfl (.tmp rfl fun _ => rfl)) rfl ?_
   refine AWl.put (by exact R_indexAddr rfl (.no rfl) rfl (.tmp rfl fun _ => rfl) (.tmp rfl fun _ => rfl) Tryz.underlying22 ty3 (fun _ => ⟨by omega, hrow⟩)) rfl ?_
   refine AWl.put (by exact R_load rfl (.no rfl) rfl (.tmp rfl fun _ => rfl) ty3 rfl rfl) rfl ?_
   refine AWl.put (R_move rfl (.no rfl) rfl (.tmp rfl fun _ => rfl)) rfl ?_
   refine AWl.put (R_ne rfl (.no rfl) rfl (.tmp rfl fun _ => rfl) (.tmp rfl fun _ => rfl)) rfl ?_
   refine AWl.nil ?_
   refine AW.cond (.tmp rfl fun _ => rfl) (fun h17 => ?_) (fun h17 => ?_)
   · first | (exfalso; simp at h17; omega) | (exfalso; simp [mkInt] at h17; done) | (exfalso; simp [mkInt] at h17; omega)
   · skip
     try simp at h17
     refine AW.skip ?_
     refine AW.region ?_
     refine AWl.put (R_move rfl (.no rfl) rfl (.tmp rfl fun _ => rfl)) rfl ?_
     refine AWl.put (R_add rfl (.no rfl) rfl (.tmp rfl fun _ => rfl) (.const rfl) (fun _ => by omega)) rfl ?_
     refine AWl.put (R_assign rfl (.no rfl) rfl (.tmp rfl fun _ => rfl)) rfl ?_
     refine AWl.nil (AW.region ?_)
     refine AWl.put (R_move rfl (.no rfl) rfl (.tmp rfl fun _ => rfl)) rfl ?_
     refine AWl.put (R_add rfl (.no rfl) rfl (.tmp rfl fun _ => rfl) (.const rfl) (fun _ => by omega)) rfl ?_
     refine AWl.put (R_assign rfl (.no rfl) rfl (.tmp rfl fun _ => rfl)) rfl ?_
     refine AWl.nil ?_
     refine Round.next (i + 1, _) ⟨by dsimp only; omega, by dsimp only; omega⟩ (by dsimp only; omega) (Le.sub0 rfl ⟨rfl, rfl, rfl, trivial⟩ trivial)
 · skip
   try simp at hlt
   rw [mkL_length] at hlt
   refine AW.exit ?_
   refine AW.seq ?_
   refine AW.region ?_
   refine AWl.put (R_move rfl (.no rfl) rfl (.tmp rfl fun _ => rfl)) rfl ?_
   refine AWl.put (R_assign rfl (.no rfl) rfl (.tmp rfl fun _ => rfl)) rfl ?_
   refine AWl.nil (AW.ret ?_)
   refine Res.v rfl rfl ?_
   rw [cntL_all (by omega)]
set_option maxRecDepth 100000 in
theorem MmarkIntSS (l : (List (List Int))) (k : Int) (hk : 0 ≤ k ∧ k + cntIntSS l ≤ 4611686018427387904) : FnM Tryz.prog 41 (.one (.sl 1 (l.map cIntS))) (.int .i64 k) (.one (.sl 1 ((mkIntSS l k).map cIntS))) (.int .i64 (k + cntIntSS l)) := by
 refine FnM.walk (y := .one (.rf 1000)) (R0 := fun hd => [(1000, .row 1 (l.map cIntS)), (500, .hdr (some 1000) (hd 1000))]) (ts := [.sl 1 ((mkIntSS l k).map cIntS)]) Tryz.func41 rfl (by kernel_rfl) Tryz.ntmps41 rfl rfl rfl rfl rfl rfl rfl rfl fun hlen w0 hd => ?_
 try simp [cPair, cToken, cExpr, cEdge, cGraph, cStep, cWalk, cChange, cBatch, cHistory, cPositions, cAutomaton, cProductStep, cPathAtom, cConjunction, cView, cDelta, cRegistered, cRegistry] at hlen
 try simp only [LenV, LenT, List.length_map] at hlen
 unfold cntIntSS at hk
 refine AW.seq ?_
 refine AW.region ?_
 refine AWl.put (R_assign rfl (.no rfl) rfl (.const rfl)) rfl ?_
 refine AWl.nil (AW.seq ?_)
 refine AW.seq ?_
 refine AW.region ?_
 refine AWl.put (R_assign rfl (.no rfl) rfl (.const rfl)) rfl ?_
 refine AWl.nil (AW.block ?_)
 refine AW.loop (β := Nat × Int) (fun j => j.1 ≤ l.length ∧ j.2 = k + cntL cntIntS (l.take j.1)) (fun j => ⟨_, [(5, (true, .a (.one (.t (.v (.int .i64 (j.1 : Nat))))))), (1, (true, .a (.one (.t (.v (.int .i64 j.2)))))), (0, _), (4, _)], [(1000, .row 1 ((mkL mkIntS cntIntS (l.take j.1) k).map cIntS ++ (l.drop j.1).map cIntS)), (500, .hdr (some 1000) (hd 1000))]⟩) (fun j => l.length - j.1) ((0, k)) ⟨Nat.zero_le _, by simp [cntL]⟩ (Le.sub0 rfl ⟨rfl, rfl, rfl, rfl, trivial⟩ ⟨rfl, rfl, trivial⟩) ?_
 intro ⟨i, κ⟩ ⟨hi, hκ⟩
 dsimp only at hi hκ; subst hκ
 refine AW.seq ?_
 refine AW.seq ?_
 refine AW.region ?_
 refine AWl.put (R_move rfl (.no rfl) rfl (.tmp rfl fun _ => rfl)) rfl ?_
 refine AWl.put (R_move rfl (.no rfl) rfl (.tmp rfl fun _ => rfl)) rfl ?_
 refine AWl.put (by exact R_len rfl (.no rfl) rfl (.tmp rfl fun _ => rfl) (by exact .rf rfl) Tryz.underlying27) rfl ?_
 refine AWl.put (R_lt rfl (.no rfl) rfl (.tmp rfl fun _ => rfl) (.tmp rfl fun _ => rfl)) rfl ?_
 refine AWl.nil ?_
 refine AW.cond (.tmp rfl fun _ => rfl) (fun hlt => ?_) (fun hlt => ?_)
 · skip
   try simp at hlt
   replace hlt : i < l.length := by simp only [mkL_length, List.length_take] at hlt; omega
   obtain ⟨x, hx⟩ : ∃ x, l[i]? = some x := ⟨_, List.getElem?_eq_getElem hlt⟩
   have hrow := mark_at (f := mkIntS) (c := cntIntS) (k := k) cIntS hx
   have hcs := cntL_at (c := cntIntS) hx
   have hcn := cntL_nonneg cntIntS_nn (l.take i)
   have hcl := cntL_le cntIntS_nn l (i + 1)
   have := cntIntS_nn x
   have hce : cntIntS x = cntIntS x := rfl
   refine AW.skip ?_
   refine AW.seq ?_
   refine AW.block ?_
   refine AW.region ?_
   refine AWl.put (R_move rfl (.no rfl) rfl (.tmp rfl fun _ => rfl)) rfl ?_
   refine AWl.put (R_move rfl (.no rfl) rfl (.tmp rfl fun _ => rfl)) rfl ?_
   refine AWl.put (by exact R_indexAddr_rf rfl (.no rfl) rfl (.tmp rfl fun _ => rfl) rfl (.tmp rfl fun _ => rfl) Tryz.underlying27 ty22 (fun _ => ⟨by omega, (by exact hrow)⟩)) rfl ?_
   refine AWl.put (R_load_sb rfl (.no rfl) rfl (.tmp rfl fun _ => rfl) rfl (by exact hrow) ty22 rfl) rfl ?_
   refine AWl.put (R_move rfl (.no rfl) rfl (.tmp rfl fun _ => rfl)) rfl ?_
   refine AWl.updput (R_mark_sbc rfl rfl rfl (.tmp rfl fun _ => rfl) (.tmp rfl fun _ => rfl) rfl (by exact hrow) rfl (MmarkIntS _ _ (by omega))) rfl ?_
   refine AWl.put (R_assign rfl (.no rfl) rfl (.tmp rfl fun _ => rfl)) rfl ?_
   refine AWl.nil (AW.region ?_)
   refine AWl.put (R_move rfl (.no rfl) rfl (.tmp rfl fun _ => rfl)) rfl ?_
   refine AWl.put (R_add rfl (.no rfl) rfl (.tmp rfl fun _ => rfl) (.const rfl) (fun _ => by omega)) rfl ?_
   refine AWl.put (R_assign rfl (.no rfl) rfl (.tmp rfl fun _ => rfl)) rfl ?_
   refine AWl.nil ?_
   refine Round.next (i + 1, _) ⟨by dsimp only; omega, by dsimp only; omega⟩ (by dsimp only; omega) (Le.sub0 rfl ⟨rfl, rfl, rfl, rfl, trivial⟩ ⟨congrArg (fun r => some (R.row 1 r)) (by simp only [List.set_set]; exact mark_set _ hx rfl), rfl, trivial⟩)
 · skip
   try simp at hlt
   replace hlt : l.length ≤ i := by simp only [mkL_length, List.length_take] at hlt; omega
   refine AW.exit ?_
   refine AW.seq ?_
   refine AW.region ?_
   refine AWl.put (R_move rfl (.no rfl) rfl (.tmp rfl fun _ => rfl)) rfl ?_
   refine AWl.put (R_assign rfl (.no rfl) rfl (.tmp rfl fun _ => rfl)) rfl ?_
   refine AWl.nil (AW.ret ?_)
   refine RetM.mk (Res.v rfl rfl ?_) (.rf (congrArg (fun r => some (R.row 1 r)) (mark_all _ (by omega))) rfl rfl .nil)
   rw [cntL_all (by omega)]; rfl
set_option maxRecDepth 100000 in
theorem MheldIntSS (l : (List (List Int))) (k : Int) (hk : 0 ≤ k ∧ k + cntIntSS l ≤ 4611686018427387904) : FnT Tryz.prog 42 [.one (.sl 1 ((mkIntSS l k).map cIntS)), .one (.v (.int .i64 k))] (.a (.one (.v (.int .i64 (k + cntIntSS l))))) := by
 refine FnT.walk Tryz.func42 rfl (by kernel_rfl) Tryz.ntmps42 rfl fun hlen w0 => ?_
 try simp [cPair, cToken, cExpr, cEdge, cGraph, cStep, cWalk, cChange, cBatch, cHistory, cPositions, cAutomaton, cProductStep, cPathAtom, cConjunction, cView, cDelta, cRegistered, cRegistry] at hlen
 unfold cntIntSS at hk ⊢; unfold mkIntSS at hlen ⊢; try simp only [LenV, LenT, List.length_map, mkL_length] at hlen
 refine AW.seq ?_
 refine AW.region ?_
 refine AWl.put (R_assign rfl (.no rfl) rfl (.const rfl)) rfl ?_
 refine AWl.nil (AW.seq ?_)
 refine AW.seq ?_
 refine AW.region ?_
 refine AWl.put (R_assign rfl (.no rfl) rfl (.const rfl)) rfl ?_
 refine AWl.nil (AW.block ?_)
 refine AW.loop (β := Nat × Int) (fun j => j.1 ≤ l.length ∧ j.2 = k + cntL cntIntS (l.take j.1)) (fun j => ⟨_, [(5, (true, .a (.one (.t (.v (.int .i64 (j.1 : Nat))))))), (1, (true, .a (.one (.t (.v (.int .i64 j.2)))))), (0, _)], []⟩) (fun j => l.length - j.1) ((0, k)) ⟨Nat.zero_le _, by simp [cntL]⟩ (Le.sub0 rfl ⟨rfl, rfl, rfl, trivial⟩ trivial) ?_
 intro ⟨i, κ⟩ ⟨hi, hκ⟩
 dsimp only at hi hκ; subst hκ
 refine AW.seq ?_
 refine AW.seq ?_
 refine AW.region ?_
 refine AWl.put (R_move rfl (.no rfl) rfl (.tmp rfl fun _ => rfl)) rfl ?_
 refine AWl.put (R_move rfl (.no rfl) rfl (.tmp rfl fun _ => rfl)) rfl ?_
 refine AWl.put (by exact R_lenm rfl (.no rfl) rfl (.tmp rfl fun _ => rfl) (by exact .t) Tryz.underlying27) rfl ?_
 refine AWl.put (R_lt rfl (.no rfl) rfl (.tmp rfl fun _ => rfl) (.tmp rfl fun _ => rfl)) rfl ?_
 refine AWl.nil ?_
 refine AW.cond (.tmp rfl fun _ => rfl) (fun hlt => ?_) (fun hlt => ?_)
 · skip
   try simp at hlt
   rw [mkL_length] at hlt
   obtain ⟨x, hx⟩ : ∃ x, l[i]? = some x := ⟨_, List.getElem?_eq_getElem hlt⟩
   have hrow := map_get (f := cIntS) (mkL_get (f := mkIntS) (c := cntIntS) (k := k) hx)
   have hcs := cntL_at (c := cntIntS) hx
   have hcn := cntL_nonneg cntIntS_nn (l.take i)
   have hcl := cntL_le cntIntS_nn l (i + 1)
   have := cntIntS_nn x
   have hce : cntIntS x = cntIntS x := rfl
   refine AW.skip ?_
   refine AW.seq ?_
   refine AW.block ?_
   refine AW.seq ?_
   refine AW.region ?_
   refine AWl.put (R_move rfl (.no rfl) rfl (.tmp rfl fun _ => rfl)) rfl ?_
   refine AWl.put (R_move rfl (.no rfl) rfl (.tmp rfl fun _ => rfl)) rfl ?_
   refine AWl.put (by exact R_indexAddr rfl (.no rfl) rfl (.tmp rfl fun _ => rfl) (.tmp rfl fun _ => rfl) Tryz.underlying27 ty22 (fun _ => ⟨by omega, hrow⟩)) rfl ?_
   refine AWl.put (by exact R_load rfl (.no rfl) rfl (.tmp rfl fun _ => rfl) ty22 rfl rfl) rfl ?_
   refine AWl.put (R_move rfl (.no rfl) rfl (.tmp rfl fun _ => rfl)) rfl ?_
   refine AWl.put (R_callz (FnT.fr (MheldIntS _ _ (by omega))) rfl (.no rfl) rfl (.cons (.tmp rfl fun _ => rfl) rfl (.cons (.tmp rfl fun _ => rfl) rfl .nil))) rfl ?_
   refine AWl.put (R_assign rfl (.no rfl) rfl (.tmp rfl fun _ => rfl)) rfl ?_
   refine AWl.nil (AW.seq ?_)
   refine AW.region ?_
   refine AWl.put (R_move rfl (.no rfl) rfl (.tmp rfl fun _ => rfl)) rfl ?_
   refine AWl.put (R_lt rfl (.no rfl) rfl (.tmp rfl fun _ => rfl) (.const rfl)) rfl ?_
   refine AWl.nil ?_
   refine AW.cond (.tmp rfl fun _ => rfl) (fun h19 => ?_) (fun h19 => ?_)
   · first | (exfalso; simp at h19; omega) | (exfalso; simp [mkIntS] at h19; done) | (exfalso; simp [mkIntS] at h19; omega)
   · skip
     try simp at h19
     refine AW.skip ?_
     refine AW.region ?_
     refine AWl.put (R_move rfl (.no rfl) rfl (.tmp rfl fun _ => rfl)) rfl ?_
     refine AWl.put (R_add rfl (.no rfl) rfl (.tmp rfl fun _ => rfl) (.const rfl) (fun _ => by omega)) rfl ?_
     refine AWl.put (R_assign rfl (.no rfl) rfl (.tmp rfl fun _ => rfl)) rfl ?_
     refine AWl.nil ?_
     refine Round.next (i + 1, _) ⟨by dsimp only; omega, by dsimp only; omega⟩ (by dsimp only; omega) (Le.sub0 rfl ⟨rfl, rfl, rfl, trivial⟩ trivial)
 · skip
   try simp at hlt
   rw [mkL_length] at hlt
   refine AW.exit ?_
   refine AW.seq ?_
   refine AW.region ?_
   refine AWl.put (R_move rfl (.no rfl) rfl (.tmp rfl fun _ => rfl)) rfl ?_
   refine AWl.put (R_assign rfl (.no rfl) rfl (.tmp rfl fun _ => rfl)) rfl ?_
   refine AWl.nil (AW.ret ?_)
   refine Res.v rfl rfl ?_
   rw [cntL_all (by omega)]
set_option maxRecDepth 100000 in
theorem MmarkTokenS (l : (List TToken)) (k : Int) (hk : 0 ≤ k ∧ k + cntTokenS l ≤ 4611686018427387904) : FnM Tryz.prog 77 (.one (.sl 4 (l.map cToken))) (.int .i64 k) (.one (.sl 4 ((mkTokenS l k).map cToken))) (.int .i64 (k + cntTokenS l)) := by
 refine FnM.walk (y := .one (.rf 1000)) (R0 := fun hd => [(1000, .row 4 (l.map cToken)), (500, .hdr (some 1000) (hd 1000))]) (ts := [.sl 4 ((mkTokenS l k).map cToken)]) Tryz.func77 rfl (by kernel_rfl) Tryz.ntmps77 rfl rfl rfl rfl rfl rfl rfl rfl fun hlen w0 hd => ?_
 try simp [cPair, cToken, cExpr, cEdge, cGraph, cStep, cWalk, cChange, cBatch, cHistory, cPositions, cAutomaton, cProductStep, cPathAtom, cConjunction, cView, cDelta, cRegistered, cRegistry] at hlen
 try simp only [LenV, LenT, List.length_map] at hlen
 unfold cntTokenS at hk
 refine AW.seq ?_
 refine AW.region ?_
 refine AWl.put (R_assign rfl (.no rfl) rfl (.const rfl)) rfl ?_
 refine AWl.nil (AW.seq ?_)
 refine AW.seq ?_
 refine AW.region ?_
 refine AWl.put (R_assign rfl (.no rfl) rfl (.const rfl)) rfl ?_
 refine AWl.nil (AW.block ?_)
 refine AW.loop (β := Nat × Int) (fun j => j.1 ≤ l.length ∧ j.2 = k + cntL cntToken (l.take j.1)) (fun j => ⟨_, [(5, (true, .a (.one (.t (.v (.int .i64 (j.1 : Nat))))))), (1, (true, .a (.one (.t (.v (.int .i64 j.2)))))), (0, _), (4, _)], [(1000, .row 4 ((mkL mkToken cntToken (l.take j.1) k).map cToken ++ (l.drop j.1).map cToken)), (500, .hdr (some 1000) (hd 1000))]⟩) (fun j => l.length - j.1) ((0, k)) ⟨Nat.zero_le _, by simp [cntL]⟩ (Le.sub0 rfl ⟨rfl, rfl, rfl, rfl, trivial⟩ ⟨rfl, rfl, trivial⟩) ?_
 intro ⟨i, κ⟩ ⟨hi, hκ⟩
 dsimp only at hi hκ; subst hκ
 refine AW.seq ?_
 refine AW.seq ?_
 refine AW.region ?_
 refine AWl.put (R_move rfl (.no rfl) rfl (.tmp rfl fun _ => rfl)) rfl ?_
 refine AWl.put (R_move rfl (.no rfl) rfl (.tmp rfl fun _ => rfl)) rfl ?_
 refine AWl.put (by exact R_len rfl (.no rfl) rfl (.tmp rfl fun _ => rfl) (by exact .rf rfl) Tryz.underlying71) rfl ?_
 refine AWl.put (R_lt rfl (.no rfl) rfl (.tmp rfl fun _ => rfl) (.tmp rfl fun _ => rfl)) rfl ?_
 refine AWl.nil ?_
 refine AW.cond (.tmp rfl fun _ => rfl) (fun hlt => ?_) (fun hlt => ?_)
 · skip
   try simp at hlt
   replace hlt : i < l.length := by simp only [mkL_length, List.length_take] at hlt; omega
   obtain ⟨x, hx⟩ : ∃ x, l[i]? = some x := ⟨_, List.getElem?_eq_getElem hlt⟩
   have hrow := mark_at (f := mkToken) (c := cntToken) (k := k) cToken hx
   have hcs := cntL_at (c := cntToken) hx
   have hcn := cntL_nonneg cntToken_nn (l.take i)
   have hcl := cntL_le cntToken_nn l (i + 1)
   have hce : cntToken x = 1 + 1 + 1 + 1 := rfl
   refine AW.skip ?_
   refine AW.seq ?_
   refine AW.block ?_
   refine AW.seq ?_
   refine AW.region ?_
   refine AWl.put (R_move rfl (.no rfl) rfl (.tmp rfl fun _ => rfl)) rfl ?_
   refine AWl.put (R_move rfl (.no rfl) rfl (.tmp rfl fun _ => rfl)) rfl ?_
   refine AWl.put (R_move rfl (.no rfl) rfl (.tmp rfl fun _ => rfl)) rfl ?_
   refine AWl.put (by exact R_indexAddr_rf rfl (.no rfl) rfl (.tmp rfl fun _ => rfl) rfl (.tmp rfl fun _ => rfl) Tryz.underlying71 ty172 (fun _ => ⟨by omega, (by exact hrow)⟩)) rfl ?_
   refine AWl.put (by exact R_fieldAddr_pr rfl (.no rfl) rfl (.tmp rfl fun _ => rfl) fl172_0) rfl ?_
   refine AWl.absupd (R_store_pr rfl rfl rfl (.tmp rfl fun _ => rfl) rfl (.tmp rfl fun _ => rfl) rfl (by exact hrow) ty3 rfl rfl rfl rfl) ?_
   refine AWl.nil (AW.seq ?_)
   refine AW.region ?_
   refine AWl.put (R_move rfl (.no rfl) rfl (.tmp rfl fun _ => rfl)) rfl ?_
   refine AWl.put (R_add rfl (.no rfl) rfl (.tmp rfl fun _ => rfl) (.const rfl) (fun _ => by omega)) rfl ?_
   refine AWl.put (R_assign rfl (.no rfl) rfl (.tmp rfl fun _ => rfl)) rfl ?_
   refine AWl.nil (AW.seq ?_)
   refine AW.region ?_
   refine AWl.put (R_move rfl (.no rfl) rfl (.tmp rfl fun _ => rfl)) rfl ?_
   refine AWl.put (R_move rfl (.no rfl) rfl (.tmp rfl fun _ => rfl)) rfl ?_
   refine AWl.put (R_move rfl (.no rfl) rfl (.tmp rfl fun _ => rfl)) rfl ?_
   refine AWl.put ((by exact R_indexAddr_rf rfl (.no rfl) rfl (.tmp rfl fun _ => rfl) rfl (.tmp rfl fun _ => rfl) Tryz.underlying71 ty172 (fun _ => ⟨by omega, (by exact set_at _ (hrow))⟩))) rfl ?_
   refine AWl.put (by exact R_fieldAddr_pr rfl (.no rfl) rfl (.tmp rfl fun _ => rfl) fl172_1) rfl ?_
   refine AWl.absupd (R_store_pr rfl rfl rfl (.tmp rfl fun _ => rfl) rfl (.tmp rfl fun _ => rfl) rfl (by exact set_at _ (hrow)) ty3 rfl rfl rfl rfl) ?_
   refine AWl.nil (AW.seq ?_)
   refine AW.region ?_
   refine AWl.put (R_move rfl (.no rfl) rfl (.tmp rfl fun _ => rfl)) rfl ?_
   refine AWl.put (R_add rfl (.no rfl) rfl (.tmp rfl fun _ => rfl) (.const rfl) (fun _ => by omega)) rfl ?_
   refine AWl.put (R_assign rfl (.no rfl) rfl (.tmp rfl fun _ => rfl)) rfl ?_
   refine AWl.nil (AW.seq ?_)
   refine AW.region ?_
   refine AWl.put (R_move rfl (.no rfl) rfl (.tmp rfl fun _ => rfl)) rfl ?_
   refine AWl.put (R_move rfl (.no rfl) rfl (.tmp rfl fun _ => rfl)) rfl ?_
   refine AWl.put (R_move rfl (.no rfl) rfl (.tmp rfl fun _ => rfl)) rfl ?_
   refine AWl.put ((by exact R_indexAddr_rf rfl (.no rfl) rfl (.tmp rfl fun _ => rfl) rfl (.tmp rfl fun _ => rfl) Tryz.underlying71 ty172 (fun _ => ⟨by omega, (by exact set_at _ (set_at _ (hrow)))⟩))) rfl ?_
   refine AWl.put (by exact R_fieldAddr_pr rfl (.no rfl) rfl (.tmp rfl fun _ => rfl) fl172_2) rfl ?_
   refine AWl.absupd (R_store_pr rfl rfl rfl (.tmp rfl fun _ => rfl) rfl (.tmp rfl fun _ => rfl) rfl (by exact set_at _ (set_at _ (hrow))) ty3 rfl rfl rfl rfl) ?_
   refine AWl.nil (AW.seq ?_)
   refine AW.region ?_
   refine AWl.put (R_move rfl (.no rfl) rfl (.tmp rfl fun _ => rfl)) rfl ?_
   refine AWl.put (R_add rfl (.no rfl) rfl (.tmp rfl fun _ => rfl) (.const rfl) (fun _ => by omega)) rfl ?_
   refine AWl.put (R_assign rfl (.no rfl) rfl (.tmp rfl fun _ => rfl)) rfl ?_
   refine AWl.nil (AW.seq ?_)
   refine AW.region ?_
   refine AWl.put (R_move rfl (.no rfl) rfl (.tmp rfl fun _ => rfl)) rfl ?_
   refine AWl.put (R_move rfl (.no rfl) rfl (.tmp rfl fun _ => rfl)) rfl ?_
   refine AWl.put (R_move rfl (.no rfl) rfl (.tmp rfl fun _ => rfl)) rfl ?_
   refine AWl.put ((by exact R_indexAddr_rf rfl (.no rfl) rfl (.tmp rfl fun _ => rfl) rfl (.tmp rfl fun _ => rfl) Tryz.underlying71 ty172 (fun _ => ⟨by omega, (by exact set_at _ (set_at _ (set_at _ (hrow))))⟩))) rfl ?_
   refine AWl.put (by exact R_fieldAddr_pr rfl (.no rfl) rfl (.tmp rfl fun _ => rfl) fl172_3) rfl ?_
   refine AWl.absupd (R_store_pr rfl rfl rfl (.tmp rfl fun _ => rfl) rfl (.tmp rfl fun _ => rfl) rfl (by exact set_at _ (set_at _ (set_at _ (hrow)))) ty3 rfl rfl rfl rfl) ?_
   refine AWl.nil (AW.region ?_)
   refine AWl.put (R_move rfl (.no rfl) rfl (.tmp rfl fun _ => rfl)) rfl ?_
   refine AWl.put (R_add rfl (.no rfl) rfl (.tmp rfl fun _ => rfl) (.const rfl) (fun _ => by omega)) rfl ?_
   refine AWl.put (R_assign rfl (.no rfl) rfl (.tmp rfl fun _ => rfl)) rfl ?_
   refine AWl.nil (AW.region ?_)
   refine AWl.put (R_move rfl (.no rfl) rfl (.tmp rfl fun _ => rfl)) rfl ?_
   refine AWl.put (R_add rfl (.no rfl) rfl (.tmp rfl fun _ => rfl) (.const rfl) (fun _ => by omega)) rfl ?_
   refine AWl.put (R_assign rfl (.no rfl) rfl (.tmp rfl fun _ => rfl)) rfl ?_
   refine AWl.nil ?_
   refine Round.next (i + 1, _) ⟨by dsimp only; omega, by dsimp only; omega⟩ (by dsimp only; omega) (Le.sub0 rfl ⟨rfl, rfl, rfl, rfl, trivial⟩ ⟨congrArg (fun r => some (R.row 4 r)) (by simp only [List.set_set]; exact mark_set _ hx rfl), rfl, trivial⟩)
 · skip
   try simp at hlt
   replace hlt : l.length ≤ i := by simp only [mkL_length, List.length_take] at hlt; omega
   refine AW.exit ?_
   refine AW.seq ?_
   refine AW.region ?_
   refine AWl.put (R_move rfl (.no rfl) rfl (.tmp rfl fun _ => rfl)) rfl ?_
   refine AWl.put (R_assign rfl (.no rfl) rfl (.tmp rfl fun _ => rfl)) rfl ?_
   refine AWl.nil (AW.ret ?_)
   refine RetM.mk (Res.v rfl rfl ?_) (.rf (congrArg (fun r => some (R.row 4 r)) (mark_all _ (by omega))) rfl rfl .nil)
   rw [cntL_all (by omega)]; rfl
set_option maxRecDepth 100000 in
theorem MmarkEdgeS (l : (List TEdge)) (k : Int) (hk : 0 ≤ k ∧ k + cntEdgeS l ≤ 4611686018427387904) : FnM Tryz.prog 57 (.one (.sl 4 (l.map cEdge))) (.int .i64 k) (.one (.sl 4 ((mkEdgeS l k).map cEdge))) (.int .i64 (k + cntEdgeS l)) := by
 refine FnM.walk (y := .one (.rf 1000)) (R0 := fun hd => [(1000, .row 4 (l.map cEdge)), (500, .hdr (some 1000) (hd 1000))]) (ts := [.sl 4 ((mkEdgeS l k).map cEdge)]) Tryz.func57 rfl (by kernel_rfl) Tryz.ntmps57 rfl rfl rfl rfl rfl rfl rfl rfl fun hlen w0 hd => ?_
 try simp [cPair, cToken, cExpr, cEdge, cGraph, cStep, cWalk, cChange, cBatch, cHistory, cPositions, cAutomaton, cProductStep, cPathAtom, cConjunction, cView, cDelta, cRegistered, cRegistry] at hlen
 try simp only [LenV, LenT, List.length_map] at hlen
 unfold cntEdgeS at hk
 refine AW.seq ?_
 refine AW.region ?_
 refine AWl.put (R_assign rfl (.no rfl) rfl (.const rfl)) rfl ?_
 refine AWl.nil (AW.seq ?_)
 refine AW.seq ?_
 refine AW.region ?_
 refine AWl.put (R_assign rfl (.no rfl) rfl (.const rfl)) rfl ?_
 refine AWl.nil (AW.block ?_)
 refine AW.loop (β := Nat × Int) (fun j => j.1 ≤ l.length ∧ j.2 = k + cntL cntEdge (l.take j.1)) (fun j => ⟨_, [(5, (true, .a (.one (.t (.v (.int .i64 (j.1 : Nat))))))), (1, (true, .a (.one (.t (.v (.int .i64 j.2)))))), (0, _), (4, _)], [(1000, .row 4 ((mkL mkEdge cntEdge (l.take j.1) k).map cEdge ++ (l.drop j.1).map cEdge)), (500, .hdr (some 1000) (hd 1000))]⟩) (fun j => l.length - j.1) ((0, k)) ⟨Nat.zero_le _, by simp [cntL]⟩ (Le.sub0 rfl ⟨rfl, rfl, rfl, rfl, trivial⟩ ⟨rfl, rfl, trivial⟩) ?_
 intro ⟨i, κ⟩ ⟨hi, hκ⟩
 dsimp only at hi hκ; subst hκ
 refine AW.seq ?_
 refine AW.seq ?_
 refine AW.region ?_
 refine AWl.put (R_move rfl (.no rfl) rfl (.tmp rfl fun _ => rfl)) rfl ?_
 refine AWl.put (R_move rfl (.no rfl) rfl (.tmp rfl fun _ => rfl)) rfl ?_
 refine AWl.put (by exact R_len rfl (.no rfl) rfl (.tmp rfl fun _ => rfl) (by exact .rf rfl) Tryz.underlying41) rfl ?_
 refine AWl.put (R_lt rfl (.no rfl) rfl (.tmp rfl fun _ => rfl) (.tmp rfl fun _ => rfl)) rfl ?_
 refine AWl.nil ?_
 refine AW.cond (.tmp rfl fun _ => rfl) (fun hlt => ?_) (fun hlt => ?_)
 · skip
   try simp at hlt
   replace hlt : i < l.length := by simp only [mkL_length, List.length_take] at hlt; omega
   obtain ⟨x, hx⟩ : ∃ x, l[i]? = some x := ⟨_, List.getElem?_eq_getElem hlt⟩
   have hrow := mark_at (f := mkEdge) (c := cntEdge) (k := k) cEdge hx
   have hcs := cntL_at (c := cntEdge) hx
   have hcn := cntL_nonneg cntEdge_nn (l.take i)
   have hcl := cntL_le cntEdge_nn l (i + 1)
   have hce : cntEdge x = 1 + 1 + 1 + 1 := rfl
   refine AW.skip ?_
   refine AW.seq ?_
   refine AW.block ?_
   refine AW.seq ?_
   refine AW.region ?_
   refine AWl.put (R_move rfl (.no rfl) rfl (.tmp rfl fun _ => rfl)) rfl ?_
   refine AWl.put (R_move rfl (.no rfl) rfl (.tmp rfl fun _ => rfl)) rfl ?_
   refine AWl.put (R_move rfl (.no rfl) rfl (.tmp rfl fun _ => rfl)) rfl ?_
   refine AWl.put (by exact R_indexAddr_rf rfl (.no rfl) rfl (.tmp rfl fun _ => rfl) rfl (.tmp rfl fun _ => rfl) Tryz.underlying41 ty46 (fun _ => ⟨by omega, (by exact hrow)⟩)) rfl ?_
   refine AWl.put (by exact R_fieldAddr_pr rfl (.no rfl) rfl (.tmp rfl fun _ => rfl) fl46_0) rfl ?_
   refine AWl.absupd (R_store_pr rfl rfl rfl (.tmp rfl fun _ => rfl) rfl (.tmp rfl fun _ => rfl) rfl (by exact hrow) ty3 rfl rfl rfl rfl) ?_
   refine AWl.nil (AW.seq ?_)
   refine AW.region ?_
   refine AWl.put (R_move rfl (.no rfl) rfl (.tmp rfl fun _ => rfl)) rfl ?_
   refine AWl.put (R_add rfl (.no rfl) rfl (.tmp rfl fun _ => rfl) (.const rfl) (fun _ => by omega)) rfl ?_
   refine AWl.put (R_assign rfl (.no rfl) rfl (.tmp rfl fun _ => rfl)) rfl ?_
   refine AWl.nil (AW.seq ?_)
   refine AW.region ?_
   refine AWl.put (R_move rfl (.no rfl) rfl (.tmp rfl fun _ => rfl)) rfl ?_
   refine AWl.put (R_move rfl (.no rfl) rfl (.tmp rfl fun _ => rfl)) rfl ?_
   refine AWl.put (R_move rfl (.no rfl) rfl (.tmp rfl fun _ => rfl)) rfl ?_
   refine AWl.put ((by exact R_indexAddr_rf rfl (.no rfl) rfl (.tmp rfl fun _ => rfl) rfl (.tmp rfl fun _ => rfl) Tryz.underlying41 ty46 (fun _ => ⟨by omega, (by exact set_at _ (hrow))⟩))) rfl ?_
   refine AWl.put (by exact R_fieldAddr_pr rfl (.no rfl) rfl (.tmp rfl fun _ => rfl) fl46_1) rfl ?_
   refine AWl.absupd (R_store_pr rfl rfl rfl (.tmp rfl fun _ => rfl) rfl (.tmp rfl fun _ => rfl) rfl (by exact set_at _ (hrow)) ty3 rfl rfl rfl rfl) ?_
   refine AWl.nil (AW.seq ?_)
   refine AW.region ?_
   refine AWl.put (R_move rfl (.no rfl) rfl (.tmp rfl fun _ => rfl)) rfl ?_
   refine AWl.put (R_add rfl (.no rfl) rfl (.tmp rfl fun _ => rfl) (.const rfl) (fun _ => by omega)) rfl ?_
   refine AWl.put (R_assign rfl (.no rfl) rfl (.tmp rfl fun _ => rfl)) rfl ?_
   refine AWl.nil (AW.seq ?_)
   refine AW.region ?_
   refine AWl.put (R_move rfl (.no rfl) rfl (.tmp rfl fun _ => rfl)) rfl ?_
   refine AWl.put (R_move rfl (.no rfl) rfl (.tmp rfl fun _ => rfl)) rfl ?_
   refine AWl.put (R_move rfl (.no rfl) rfl (.tmp rfl fun _ => rfl)) rfl ?_
   refine AWl.put ((by exact R_indexAddr_rf rfl (.no rfl) rfl (.tmp rfl fun _ => rfl) rfl (.tmp rfl fun _ => rfl) Tryz.underlying41 ty46 (fun _ => ⟨by omega, (by exact set_at _ (set_at _ (hrow)))⟩))) rfl ?_
   refine AWl.put (by exact R_fieldAddr_pr rfl (.no rfl) rfl (.tmp rfl fun _ => rfl) fl46_2) rfl ?_
   refine AWl.absupd (R_store_pr rfl rfl rfl (.tmp rfl fun _ => rfl) rfl (.tmp rfl fun _ => rfl) rfl (by exact set_at _ (set_at _ (hrow))) ty3 rfl rfl rfl rfl) ?_
   refine AWl.nil (AW.seq ?_)
   refine AW.region ?_
   refine AWl.put (R_move rfl (.no rfl) rfl (.tmp rfl fun _ => rfl)) rfl ?_
   refine AWl.put (R_add rfl (.no rfl) rfl (.tmp rfl fun _ => rfl) (.const rfl) (fun _ => by omega)) rfl ?_
   refine AWl.put (R_assign rfl (.no rfl) rfl (.tmp rfl fun _ => rfl)) rfl ?_
   refine AWl.nil (AW.seq ?_)
   refine AW.region ?_
   refine AWl.put (R_move rfl (.no rfl) rfl (.tmp rfl fun _ => rfl)) rfl ?_
   refine AWl.put (R_move rfl (.no rfl) rfl (.tmp rfl fun _ => rfl)) rfl ?_
   refine AWl.put (R_move rfl (.no rfl) rfl (.tmp rfl fun _ => rfl)) rfl ?_
   refine AWl.put ((by exact R_indexAddr_rf rfl (.no rfl) rfl (.tmp rfl fun _ => rfl) rfl (.tmp rfl fun _ => rfl) Tryz.underlying41 ty46 (fun _ => ⟨by omega, (by exact set_at _ (set_at _ (set_at _ (hrow))))⟩))) rfl ?_
   refine AWl.put (by exact R_fieldAddr_pr rfl (.no rfl) rfl (.tmp rfl fun _ => rfl) fl46_3) rfl ?_
   refine AWl.absupd (R_store_pr rfl rfl rfl (.tmp rfl fun _ => rfl) rfl (.tmp rfl fun _ => rfl) rfl (by exact set_at _ (set_at _ (set_at _ (hrow)))) ty3 rfl rfl rfl rfl) ?_
   refine AWl.nil (AW.region ?_)
   refine AWl.put (R_move rfl (.no rfl) rfl (.tmp rfl fun _ => rfl)) rfl ?_
   refine AWl.put (R_add rfl (.no rfl) rfl (.tmp rfl fun _ => rfl) (.const rfl) (fun _ => by omega)) rfl ?_
   refine AWl.put (R_assign rfl (.no rfl) rfl (.tmp rfl fun _ => rfl)) rfl ?_
   refine AWl.nil (AW.region ?_)
   refine AWl.put (R_move rfl (.no rfl) rfl (.tmp rfl fun _ => rfl)) rfl ?_
   refine AWl.put (R_add rfl (.no rfl) rfl (.tmp rfl fun _ => rfl) (.const rfl) (fun _ => by omega)) rfl ?_
   refine AWl.put (R_assign rfl (.no rfl) rfl (.tmp rfl fun _ => rfl)) rfl ?_
   refine AWl.nil ?_
   refine Round.next (i + 1, _) ⟨by dsimp only; omega, by dsimp only; omega⟩ (by dsimp only; omega) (Le.sub0 rfl ⟨rfl, rfl, rfl, rfl, trivial⟩ ⟨congrArg (fun r => some (R.row 4 r)) (by simp only [List.set_set]; exact mark_set _ hx rfl), rfl, trivial⟩)
 · skip
   try simp at hlt
   replace hlt : l.length ≤ i := by simp only [mkL_length, List.length_take] at hlt; omega
   refine AW.exit ?_
   refine AW.seq ?_
   refine AW.region ?_
   refine AWl.put (R_move rfl (.no rfl) rfl (.tmp rfl fun _ => rfl)) rfl ?_
   refine AWl.put (R_assign rfl (.no rfl) rfl (.tmp rfl fun _ => rfl)) rfl ?_
   refine AWl.nil (AW.ret ?_)
   refine RetM.mk (Res.v rfl rfl ?_) (.rf (congrArg (fun r => some (R.row 4 r)) (mark_all _ (by omega))) rfl rfl .nil)
   rw [cntL_all (by omega)]; rfl
set_option maxRecDepth 100000 in
theorem MmarkGraph (x : TGraph) (k : Int) (hk : 0 ≤ k ∧ k + cpGraph x ≤ 4611686018427387904) : FnM Tryz.prog 16 (.agg (cGraph x)) (.int .i64 k) (.agg (cGraph (mpGraph x k))) (.int .i64 (k + cpGraph x)) := by
 refine FnM.walk (y := .agg [.rf 1000, .rf 1001]) (R0 := fun hd => [(1001, .row 4 (x.Edges.map cEdge)), (1000, .row 1 (x.Values.map cInt)), (500, .hdr (some 1000) (hd 1000)), (501, .hdr (some 1001) (hd 1001))]) (ts := cGraph (mpGraph x k)) Tryz.func16 rfl (by kernel_rfl) Tryz.ntmps16 rfl rfl rfl rfl rfl rfl rfl rfl fun hlen w0 hd => ?_
 try simp [cPair, cToken, cExpr, cEdge, cGraph, cStep, cWalk, cChange, cBatch, cHistory, cPositions, cAutomaton, cProductStep, cPathAtom, cConjunction, cView, cDelta, cRegistered, cRegistry] at hlen
 have := cntIntS_nn x.Values
 have := cntEdgeS_nn x.Edges
 have hce : cpGraph x = cntIntS x.Values + cntEdgeS x.Edges := rfl
 refine AW.seq ?_
 refine AW.region ?_
 refine AWl.add (R_box 2 rfl rfl rfl (.tmp rfl fun _ => rfl) rfl rfl rfl) rfl ?_
 refine AWl.put (R_assign rfl (.no rfl) rfl (.const rfl)) rfl ?_
 refine AWl.nil (AW.seq ?_)
 refine AW.region ?_
 refine AWl.put (by exact R_fieldAddr_pp rfl (.no rfl) rfl (.tmp rfl fun _ => rfl) fl43_0) rfl ?_
 refine AWl.put (by exact R_load_pp rfl (.no rfl) rfl (.tmp rfl fun _ => rfl) rfl ty22 rfl rfl) rfl ?_
 refine AWl.put (R_move rfl (.no rfl) rfl (.tmp rfl fun _ => rfl)) rfl ?_
 refine AWl.marks (R_markc rfl rfl rfl (.tmp rfl fun _ => rfl) (.tmp rfl fun _ => rfl) (MmarkIntS _ _ (by omega)) (.rf rfl rfl .nil) rfl rfl) rfl ?_
 refine AWl.put (R_assign rfl (.no rfl) rfl (.tmp rfl fun _ => rfl)) rfl ?_
 refine AWl.nil (AW.seq ?_)
 refine AW.region ?_
 refine AWl.put (by exact R_fieldAddr_pp rfl (.no rfl) rfl (.tmp rfl fun _ => rfl) fl43_1) rfl ?_
 refine AWl.put (by exact R_load_pp rfl (.no rfl) rfl (.tmp rfl fun _ => rfl) rfl ty41 rfl rfl) rfl ?_
 refine AWl.put (R_move rfl (.no rfl) rfl (.tmp rfl fun _ => rfl)) rfl ?_
 refine AWl.marks (R_markc rfl rfl rfl (.tmp rfl fun _ => rfl) (.tmp rfl fun _ => rfl) (MmarkEdgeS _ _ (by omega)) (.rf rfl rfl .nil) rfl rfl) rfl ?_
 refine AWl.put (R_assign rfl (.no rfl) rfl (.tmp rfl fun _ => rfl)) rfl ?_
 refine AWl.nil (AW.seq ?_)
 refine AW.region ?_
 refine AWl.put (R_move rfl (.no rfl) rfl (.tmp rfl fun _ => rfl)) rfl ?_
 refine AWl.put (R_assign rfl (.no rfl) rfl (.tmp rfl fun _ => rfl)) rfl ?_
 refine AWl.nil (AW.ret ?_)
 refine RetM.mk (Res.v rfl rfl ?_) (.rf rfl rfl rfl (.rf rfl rfl rfl .nil))
 first | rfl | (congr 1; omega)
set_option maxRecDepth 100000 in
theorem MmarkPathAtomS (l : (List TPathAtom)) (k : Int) (hk : 0 ≤ k ∧ k + cntPathAtomS l ≤ 4611686018427387904) : FnM Tryz.prog 92 (.one (.sl 3 (l.map cPathAtom))) (.int .i64 k) (.one (.sl 3 ((mkPathAtomS l k).map cPathAtom))) (.int .i64 (k + cntPathAtomS l)) := by
 refine FnM.walk (y := .one (.rf 1000)) (R0 := fun hd => [(1000, .row 3 (l.map cPathAtom)), (500, .hdr (some 1000) (hd 1000))]) (ts := [.sl 3 ((mkPathAtomS l k).map cPathAtom)]) Tryz.func92 rfl (by kernel_rfl) Tryz.ntmps92 rfl rfl rfl rfl rfl rfl rfl rfl fun hlen w0 hd => ?_
 try simp [cPair, cToken, cExpr, cEdge, cGraph, cStep, cWalk, cChange, cBatch, cHistory, cPositions, cAutomaton, cProductStep, cPathAtom, cConjunction, cView, cDelta, cRegistered, cRegistry] at hlen
 try simp only [LenV, LenT, List.length_map] at hlen
 unfold cntPathAtomS at hk
 refine AW.seq ?_
 refine AW.region ?_
 refine AWl.put (R_assign rfl (.no rfl) rfl (.const rfl)) rfl ?_
 refine AWl.nil (AW.seq ?_)
 refine AW.seq ?_
 refine AW.region ?_
 refine AWl.put (R_assign rfl (.no rfl) rfl (.const rfl)) rfl ?_
 refine AWl.nil (AW.block ?_)
 refine AW.loop (β := Nat × Int) (fun j => j.1 ≤ l.length ∧ j.2 = k + cntL cntPathAtom (l.take j.1)) (fun j => ⟨_, [(5, (true, .a (.one (.t (.v (.int .i64 (j.1 : Nat))))))), (1, (true, .a (.one (.t (.v (.int .i64 j.2)))))), (0, _), (4, _)], [(1000, .row 3 ((mkL mkPathAtom cntPathAtom (l.take j.1) k).map cPathAtom ++ (l.drop j.1).map cPathAtom)), (500, .hdr (some 1000) (hd 1000))]⟩) (fun j => l.length - j.1) ((0, k)) ⟨Nat.zero_le _, by simp [cntL]⟩ (Le.sub0 rfl ⟨rfl, rfl, rfl, rfl, trivial⟩ ⟨rfl, rfl, trivial⟩) ?_
 intro ⟨i, κ⟩ ⟨hi, hκ⟩
 dsimp only at hi hκ; subst hκ
 refine AW.seq ?_
 refine AW.seq ?_
 refine AW.region ?_
 refine AWl.put (R_move rfl (.no rfl) rfl (.tmp rfl fun _ => rfl)) rfl ?_
 refine AWl.put (R_move rfl (.no rfl) rfl (.tmp rfl fun _ => rfl)) rfl ?_
 refine AWl.put (by exact R_len rfl (.no rfl) rfl (.tmp rfl fun _ => rfl) (by exact .rf rfl) Tryz.underlying85) rfl ?_
 refine AWl.put (R_lt rfl (.no rfl) rfl (.tmp rfl fun _ => rfl) (.tmp rfl fun _ => rfl)) rfl ?_
 refine AWl.nil ?_
 refine AW.cond (.tmp rfl fun _ => rfl) (fun hlt => ?_) (fun hlt => ?_)
 · skip
   try simp at hlt
   replace hlt : i < l.length := by simp only [mkL_length, List.length_take] at hlt; omega
   obtain ⟨x, hx⟩ : ∃ x, l[i]? = some x := ⟨_, List.getElem?_eq_getElem hlt⟩
   have hrow := mark_at (f := mkPathAtom) (c := cntPathAtom) (k := k) cPathAtom hx
   have hcs := cntL_at (c := cntPathAtom) hx
   have hcn := cntL_nonneg cntPathAtom_nn (l.take i)
   have hcl := cntL_le cntPathAtom_nn l (i + 1)
   have := cntTokenS_nn x.Expr.Tokens
   have hce : cntPathAtom x = 1 + 1 + cntTokenS x.Expr.Tokens := rfl
   refine AW.skip ?_
   refine AW.seq ?_
   refine AW.block ?_
   refine AW.seq ?_
   refine AW.region ?_
   refine AWl.put (R_move rfl (.no rfl) rfl (.tmp rfl fun _ => rfl)) rfl ?_
   refine AWl.put (R_move rfl (.no rfl) rfl (.tmp rfl fun _ => rfl)) rfl ?_
   refine AWl.put (R_move rfl (.no rfl) rfl (.tmp rfl fun _ => rfl)) rfl ?_
   refine AWl.put (by exact R_indexAddr_rf rfl (.no rfl) rfl (.tmp rfl fun _ => rfl) rfl (.tmp rfl fun _ => rfl) Tryz.underlying85 ty129 (fun _ => ⟨by omega, (by exact hrow)⟩)) rfl ?_
   refine AWl.put (by exact R_fieldAddr_pr rfl (.no rfl) rfl (.tmp rfl fun _ => rfl) fl129_0) rfl ?_
   refine AWl.absupd (R_store_pr rfl rfl rfl (.tmp rfl fun _ => rfl) rfl (.tmp rfl fun _ => rfl) rfl (by exact hrow) ty3 rfl rfl rfl rfl) ?_
   refine AWl.nil (AW.seq ?_)
   refine AW.region ?_
   refine AWl.put (R_move rfl (.no rfl) rfl (.tmp rfl fun _ => rfl)) rfl ?_
   refine AWl.put (R_add rfl (.no rfl) rfl (.tmp rfl fun _ => rfl) (.const rfl) (fun _ => by omega)) rfl ?_
   refine AWl.put (R_assign rfl (.no rfl) rfl (.tmp rfl fun _ => rfl)) rfl ?_
   refine AWl.nil (AW.seq ?_)
   refine AW.region ?_
   refine AWl.put (R_move rfl (.no rfl) rfl (.tmp rfl fun _ => rfl)) rfl ?_
   refine AWl.put (R_move rfl (.no rfl) rfl (.tmp rfl fun _ => rfl)) rfl ?_
   refine AWl.put (R_move rfl (.no rfl) rfl (.tmp rfl fun _ => rfl)) rfl ?_
   refine AWl.put ((by exact R_indexAddr_rf rfl (.no rfl) rfl (.tmp rfl fun _ => rfl) rfl (.tmp rfl fun _ => rfl) Tryz.underlying85 ty129 (fun _ => ⟨by omega, (by exact set_at _ (hrow))⟩))) rfl ?_
   refine AWl.put (by exact R_fieldAddr_pr rfl (.no rfl) rfl (.tmp rfl fun _ => rfl) fl129_1) rfl ?_
   refine AWl.absupd (R_store_pr rfl rfl rfl (.tmp rfl fun _ => rfl) rfl (.tmp rfl fun _ => rfl) rfl (by exact set_at _ (hrow)) ty3 rfl rfl rfl rfl) ?_
   refine AWl.nil (AW.seq ?_)
   refine AW.region ?_
   refine AWl.put (R_move rfl (.no rfl) rfl (.tmp rfl fun _ => rfl)) rfl ?_
   refine AWl.put (R_add rfl (.no rfl) rfl (.tmp rfl fun _ => rfl) (.const rfl) (fun _ => by omega)) rfl ?_
   refine AWl.put (R_assign rfl (.no rfl) rfl (.tmp rfl fun _ => rfl)) rfl ?_
   refine AWl.nil (AW.region ?_)
   refine AWl.put (R_move rfl (.no rfl) rfl (.tmp rfl fun _ => rfl)) rfl ?_
   refine AWl.put (R_move rfl (.no rfl) rfl (.tmp rfl fun _ => rfl)) rfl ?_
   refine AWl.put ((by exact R_indexAddr_rf rfl (.no rfl) rfl (.tmp rfl fun _ => rfl) rfl (.tmp rfl fun _ => rfl) Tryz.underlying85 ty129 (fun _ => ⟨by omega, (by exact set_at _ (set_at _ (hrow)))⟩))) rfl ?_
   refine AWl.put (by exact R_fieldAddr_pr rfl (.no rfl) rfl (.tmp rfl fun _ => rfl) fl129_2) rfl ?_
   refine AWl.put (by exact R_fieldAddr_pr rfl (.no rfl) rfl (.tmp rfl fun _ => rfl) fl73_0) rfl ?_
   refine AWl.put (R_load_sb rfl (.no rfl) rfl (.tmp rfl fun _ => rfl) rfl (by exact set_at _ (set_at _ (hrow))) ty71 rfl) rfl ?_
   refine AWl.put (R_move rfl (.no rfl) rfl (.tmp rfl fun _ => rfl)) rfl ?_
   refine AWl.updput (R_mark_sbc rfl rfl rfl (.tmp rfl fun _ => rfl) (.tmp rfl fun _ => rfl) rfl (by exact set_at _ (set_at _ (hrow))) rfl (MmarkTokenS _ _ (by omega))) rfl ?_
   refine AWl.put (R_assign rfl (.no rfl) rfl (.tmp rfl fun _ => rfl)) rfl ?_
   refine AWl.nil (AW.region ?_)
   refine AWl.put (R_move rfl (.no rfl) rfl (.tmp rfl fun _ => rfl)) rfl ?_
   refine AWl.put (R_add rfl (.no rfl) rfl (.tmp rfl fun _ => rfl) (.const rfl) (fun _ => by omega)) rfl ?_
   refine AWl.put (R_assign rfl (.no rfl) rfl (.tmp rfl fun _ => rfl)) rfl ?_
   refine AWl.nil ?_
   refine Round.next (i + 1, _) ⟨by dsimp only; omega, by dsimp only; omega⟩ (by dsimp only; omega) (Le.sub0 rfl ⟨rfl, rfl, rfl, rfl, trivial⟩ ⟨congrArg (fun r => some (R.row 3 r)) (by simp only [List.set_set]; exact mark_set _ hx rfl), rfl, trivial⟩)
 · skip
   try simp at hlt
   replace hlt : l.length ≤ i := by simp only [mkL_length, List.length_take] at hlt; omega
   refine AW.exit ?_
   refine AW.seq ?_
   refine AW.region ?_
   refine AWl.put (R_move rfl (.no rfl) rfl (.tmp rfl fun _ => rfl)) rfl ?_
   refine AWl.put (R_assign rfl (.no rfl) rfl (.tmp rfl fun _ => rfl)) rfl ?_
   refine AWl.nil (AW.ret ?_)
   refine RetM.mk (Res.v rfl rfl ?_) (.rf (congrArg (fun r => some (R.row 3 r)) (mark_all _ (by omega))) rfl rfl .nil)
   rw [cntL_all (by omega)]; rfl
set_option maxRecDepth 100000 in
theorem MmarkConjunction (x : TConjunction) (k : Int) (hk : 0 ≤ k ∧ k + cpConjunction x ≤ 4611686018427387904) : FnM Tryz.prog 40 (.agg (cConjunction x)) (.int .i64 k) (.agg (cConjunction (mpConjunction x k))) (.int .i64 (k + cpConjunction x)) := by
 refine FnM.walk (y := .agg [.t (.v (.int .i64 x.VariableCount)), .rf 1000]) (R0 := fun hd => [(1000, .row 3 (x.Atoms.map cPathAtom)), (500, .hdr (some 1000) (hd 1000))]) (ts := cConjunction (mpConjunction x k)) Tryz.func40 rfl (by kernel_rfl) Tryz.ntmps40 rfl rfl rfl rfl rfl rfl rfl rfl fun hlen w0 hd => ?_
 try simp [cPair, cToken, cExpr, cEdge, cGraph, cStep, cWalk, cChange, cBatch, cHistory, cPositions, cAutomaton, cProductStep, cPathAtom, cConjunction, cView, cDelta, cRegistered, cRegistry] at hlen
 have := cntPathAtomS_nn x.Atoms
 have hce : cpConjunction x = 0 + cntPathAtomS x.Atoms := rfl
 refine AW.seq ?_
 refine AW.region ?_
 refine AWl.add (R_box 2 rfl rfl rfl (.tmp rfl fun _ => rfl) rfl rfl rfl) rfl ?_
 refine AWl.put (R_assign rfl (.no rfl) rfl (.const rfl)) rfl ?_
 refine AWl.nil (AW.seq ?_)
 refine AW.region ?_
 refine AWl.put (by exact R_fieldAddr_pp rfl (.no rfl) rfl (.tmp rfl fun _ => rfl) fl87_1) rfl ?_
 refine AWl.put (by exact R_load_pp rfl (.no rfl) rfl (.tmp rfl fun _ => rfl) rfl ty85 rfl rfl) rfl ?_
 refine AWl.put (R_move rfl (.no rfl) rfl (.tmp rfl fun _ => rfl)) rfl ?_
 refine AWl.marks (R_markc rfl rfl rfl (.tmp rfl fun _ => rfl) (.tmp rfl fun _ => rfl) (MmarkPathAtomS _ _ (by omega)) (.rf rfl rfl .nil) rfl rfl) rfl ?_
 refine AWl.put (R_assign rfl (.no rfl) rfl (.tmp rfl fun _ => rfl)) rfl ?_
 refine AWl.nil (AW.seq ?_)
 refine AW.region ?_
 refine AWl.put (R_move rfl (.no rfl) rfl (.tmp rfl fun _ => rfl)) rfl ?_
 refine AWl.put (R_assign rfl (.no rfl) rfl (.tmp rfl fun _ => rfl)) rfl ?_
 refine AWl.nil (AW.ret ?_)
 refine RetM.mk (Res.v rfl rfl ?_) (.v (.rf rfl rfl rfl .nil))
 first | rfl | (congr 1; omega)
end Go.Proofs.YtoealglkenhphaaGreat
