import Derived.Test.YtbkhopfpejhnlaaGreatMDra
set_option linter.unusedVariables false
set_option linter.unusedSimpArgs false
namespace Go.Proofs.YtbkhopfpejhnlaaGreat
open Go.RowKit Go.Q Go.D
set_option maxRecDepth 100000 in
theorem MmarkIntS (l : (List Int)) (k : Int) (hk : 0 ≤ k ∧ k + cntIntS l ≤ 4611686018427387904) : FnM Tryz.prog 26 (.one (.sl 1 (l.map cInt))) (.int .i64 k) (.one (.sl 1 ((mkIntS l k).map cInt))) (.int .i64 (k + cntIntS l)) := by
 refine FnM.walk (y := .one (.rf 1000)) (R0 := fun hd => [(1000, .row 1 (l.map cInt)), (500, .hdr (some 1000) (hd 1000))]) (ts := [.sl 1 ((mkIntS l k).map cInt)]) Tryz.func26 rfl (by kernel_rfl) Tryz.ntmps26 rfl rfl rfl rfl rfl rfl rfl rfl fun hlen w0 hd => ?_
 try simp [cPair, cToken, cExpr, cEdge, cGraph, cStep, cWalk, cChange, cBatch, cHistory, cPositions, cAutomaton, cProductStep, cPathAtom, cConjunction, cView, cDelta, cRegistered, cRegistry] at hlen
 try simp only [LenV, LenT, List.length_map] at hlen
 unfold cntIntS at hk
 refine AW.sr ?_
 refine AWl.ac rfl rfl rfl rfl rfl ?_
 refine AWl.nil (AW.seq ?_)
 refine AW.sr ?_
 refine AWl.ac rfl rfl rfl rfl rfl ?_
 refine AWl.nil (AW.block ?_)
 refine AW.loop (β := Nat × Int) (fun j => j.1 ≤ l.length ∧ j.2 = k + cntL cntInt (l.take j.1)) (fun j => ⟨_, [(5, (true, .a (.one (.t (.v (.int .i64 (j.1 : Nat))))))), (1, (true, .a (.one (.t (.v (.int .i64 j.2)))))), (0, _), (4, _)], [(1000, .row 1 ((mkL mkInt cntInt (l.take j.1) k).map cInt ++ (l.drop j.1).map cInt)), (500, .hdr (some 1000) (hd 1000))]⟩) (fun j => l.length - j.1) ((0, k)) ⟨Nat.zero_le _, by simp [cntL]⟩ (Le.sub0 rfl ⟨rfl, rfl, rfl, rfl, trivial⟩ ⟨rfl, rfl, trivial⟩) ?_
 intro ⟨i, κ⟩ ⟨hi, hκ⟩
 dsimp only at hi hκ; subst hκ
 refine AW.seq ?_
 refine AW.sr ?_
 refine AWl.mv rfl rfl rfl rfl rfl ?_
 refine AWl.mv rfl rfl rfl rfl rfl ?_
 refine AWl.put (by exact R_len rfl (.no rfl) rfl (.tm rfl) (by exact .rf rfl) Tryz.underlying24) rfl ?_
 refine AWl.put (R_lt rfl (.no rfl) rfl (.tm rfl) (.tm rfl)) rfl ?_
 refine AWl.nil ?_
 refine AW.cond (.tm rfl) (fun hlt => ?_) (fun hlt => ?_)
 · skip
   try simp at hlt
   replace hlt : i < l.length := by simp only [mkL_length, List.length_take] at hlt; omega
   obtain ⟨x, hx⟩ : ∃ x, l[i]? = some x := ⟨_, List.getElem?_eq_getElem hlt⟩
   have hrow := mark_at (f := mkInt) (c := cntInt) (k := k) cInt hx
   have hcs := cntL_at (c := cntInt) hx
   have hcn := cntL_nonneg cntInt_nn (l.take i)
   have hcl := cntL_le cntInt_nn l (i + 1)
   have hce : cntInt x = 1 := rfl
   refine AW.skip ?_
   refine AW.seq ?_
   refine AW.block ?_
   refine AW.sr ?_
   refine AWl.mv rfl rfl rfl rfl rfl ?_
   refine AWl.mv rfl rfl rfl rfl rfl ?_
   refine AWl.mv rfl rfl rfl rfl rfl ?_
   refine AWl.put (by exact R_indexAddr_rf rfl (.no rfl) rfl (.tm rfl) rfl (.tm rfl) Tryz.underlying24 ty3 (fun _ => ⟨by omega, (by exact hrow)⟩)) rfl ?_
   refine AWl.absupd (R_store_pr rfl rfl rfl (.tm rfl) rfl (.tm rfl) rfl (by exact hrow) ty3 rfl rfl rfl rfl) ?_
   refine AWl.nil (AW.region ?_)
   refine AWl.mv rfl rfl rfl rfl rfl ?_
   refine AWl.put (R_add rfl (.no rfl) rfl (.tm rfl) (.const rfl) (fun _ => by omega)) rfl ?_
   refine AWl.av rfl rfl rfl rfl rfl ?_
   refine AWl.nil (AW.region ?_)
   refine AWl.mv rfl rfl rfl rfl rfl ?_
   refine AWl.put (R_add rfl (.no rfl) rfl (.tm rfl) (.const rfl) (fun _ => by omega)) rfl ?_
   refine AWl.av rfl rfl rfl rfl rfl ?_
   refine AWl.nil ?_
   refine Round.next (i + 1, _) ⟨by dsimp only; omega, by dsimp only; omega⟩ (by dsimp only; omega) (Le.sub0 rfl ⟨rfl, rfl, rfl, rfl, trivial⟩ ⟨congrArg (fun r => some (R.row 1 r)) (by simp only [List.set_set]; exact mark_set _ hx rfl), rfl, trivial⟩)
 · skip
   try simp at hlt
   replace hlt : l.length ≤ i := by simp only [mkL_length, List.length_take] at hlt; omega
   refine AW.exit ?_
   refine AW.sr ?_
   refine AWl.mv rfl rfl rfl rfl rfl ?_
   refine AWl.av rfl rfl rfl rfl rfl ?_
   refine AWl.nil (AW.ret ?_)
   refine RetM.mk (Res.v rfl rfl ?_) (.rf (congrArg (fun r => some (R.row 1 r)) (mark_all _ (by omega))) rfl rfl .nil)
   rw [cntL_all (by omega)]; rfl
set_option maxRecDepth 100000 in
theorem MheldIntS (l : (List Int)) (k : Int) (hk : 0 ≤ k ∧ k + cntIntS l ≤ 4611686018427387904) : FnT Tryz.prog 27 [.one (.sl 1 ((mkIntS l k).map cInt)), .one (.v (.int .i64 k))] (.a (.one (.v (.int .i64 (k + cntIntS l))))) := by
 refine FnT.walk Tryz.func27 rfl (by kernel_rfl) Tryz.ntmps27 rfl fun hlen w0 => ?_
 try simp [cPair, cToken, cExpr, cEdge, cGraph, cStep, cWalk, cChange, cBatch, cHistory, cPositions, cAutomaton, cProductStep, cPathAtom, cConjunction, cView, cDelta, cRegistered, cRegistry] at hlen
 unfold cntIntS at hk ⊢; unfold mkIntS at hlen ⊢; try simp only [LenV, LenT, List.length_map, mkL_length] at hlen
 refine AW.sr ?_
 refine AWl.ac rfl rfl rfl rfl rfl ?_
 refine AWl.nil (AW.seq ?_)
 refine AW.sr ?_
 refine AWl.ac rfl rfl rfl rfl rfl ?_
 refine AWl.nil (AW.block ?_)
 refine AW.loop (β := Nat × Int) (fun j => j.1 ≤ l.length ∧ j.2 = k + cntL cntInt (l.take j.1)) (fun j => ⟨_, [(5, (true, .a (.one (.t (.v (.int .i64 (j.1 : Nat))))))), (1, (true, .a (.one (.t (.v (.int .i64 j.2)))))), (0, _)], []⟩) (fun j => l.length - j.1) ((0, k)) ⟨Nat.zero_le _, by simp [cntL]⟩ (Le.sub0 rfl ⟨rfl, rfl, rfl, trivial⟩ trivial) ?_
 intro ⟨i, κ⟩ ⟨hi, hκ⟩
 dsimp only at hi hκ; subst hκ
 refine AW.seq ?_
 refine AW.sr ?_
 refine AWl.mv rfl rfl rfl rfl rfl ?_
 refine AWl.mv rfl rfl rfl rfl rfl ?_
 refine AWl.put (by exact R_lenm rfl (.no rfl) rfl (.tm rfl) (by exact .t) Tryz.underlying24) rfl ?_
 refine AWl.put (R_lt rfl (.no rfl) rfl (.tm rfl) (.tm rfl)) rfl ?_
 refine AWl.nil ?_
 refine AW.cond (.tm rfl) (fun hlt => ?_) (fun hlt => ?_)
 · skip
   try simp at hlt
   rw [mkL_length] at hlt
   obtain ⟨x, hx⟩ : ∃ x, l[i]? = some x := ⟨_, List.getElem?_eq_getElem hlt⟩
   have hrow := map_get (f := cInt) (mkL_get (f := mkInt) (c := cntInt) (k := k) hx)
   have hcs := cntL_at (c := cntInt) hx
   have hcn := cntL_nonneg cntInt_nn (l.take i)
   have hcl := cntL_le cntInt_nn l (i + 1)
   have hce : cntInt x = 1 := rfl
   refine AW.skip ?_
   refine AW.seq ?_
   refine AW.block ?_
   refine AW.seq ?_
   refine AW.sr ?_
   refine AWl.mv rfl rfl rfl rfl rfl ?_
   refine AWl.mv rfl rfl rfl rfl rfl ?_
   refine AWl.put (by exact R_indexAddr rfl (.no rfl) rfl (.tm rfl) (.tm rfl) Tryz.underlying24 ty3 (fun _ => ⟨by omega, hrow⟩)) rfl ?_
   refine AWl.put (by exact R_load rfl (.no rfl) rfl (.tm rfl) ty3 rfl rfl) rfl ?_
   refine AWl.mv rfl rfl rfl rfl rfl ?_
   refine AWl.put (R_ne rfl (.no rfl) rfl (.tm rfl) (.tm rfl)) rfl ?_
   refine AWl.nil ?_
   refine AW.cond (.tm rfl) (fun h17 => ?_) (fun h17 => ?_)
   · first | (exfalso; simp at h17; omega) | (exfalso; simp [mkInt] at h17; done) | (exfalso; simp [mkInt] at h17; omega)
   · skip
     try simp at h17
     refine AW.skip ?_
     refine AW.region ?_
     refine AWl.mv rfl rfl rfl rfl rfl ?_
     refine AWl.put (R_add rfl (.no rfl) rfl (.tm rfl) (.const rfl) (fun _ => by omega)) rfl ?_
     refine AWl.av rfl rfl rfl rfl rfl ?_
     refine AWl.nil (AW.region ?_)
     refine AWl.mv rfl rfl rfl rfl rfl ?_
     refine AWl.put (R_add rfl (.no rfl) rfl (.tm rfl) (.const rfl) (fun _ => by omega)) rfl ?_
     refine AWl.av rfl rfl rfl rfl rfl ?_
     refine AWl.nil ?_
     refine Round.next (i + 1, _) ⟨by dsimp only; omega, by dsimp only; omega⟩ (by dsimp only; omega) (Le.sub0 rfl ⟨rfl, rfl, rfl, trivial⟩ trivial)
 · skip
   try simp at hlt
   rw [mkL_length] at hlt
   refine AW.exit ?_
   refine AW.sr ?_
   refine AWl.mv rfl rfl rfl rfl rfl ?_
   refine AWl.av rfl rfl rfl rfl rfl ?_
   refine AWl.nil (AW.ret ?_)
   refine Res.v rfl rfl ?_
   rw [cntL_all (by omega)]
set_option maxRecDepth 100000 in
theorem MmarkTokenS (l : (List TToken)) (k : Int) (hk : 0 ≤ k ∧ k + cntTokenS l ≤ 4611686018427387904) : FnM Tryz.prog 56 (.one (.sl 4 (l.map cToken))) (.int .i64 k) (.one (.sl 4 ((mkTokenS l k).map cToken))) (.int .i64 (k + cntTokenS l)) := by
 refine FnM.walk (y := .one (.rf 1000)) (R0 := fun hd => [(1000, .row 4 (l.map cToken)), (500, .hdr (some 1000) (hd 1000))]) (ts := [.sl 4 ((mkTokenS l k).map cToken)]) Tryz.func56 rfl (by kernel_rfl) Tryz.ntmps56 rfl rfl rfl rfl rfl rfl rfl rfl fun hlen w0 hd => ?_
 try simp [cPair, cToken, cExpr, cEdge, cGraph, cStep, cWalk, cChange, cBatch, cHistory, cPositions, cAutomaton, cProductStep, cPathAtom, cConjunction, cView, cDelta, cRegistered, cRegistry] at hlen
 try simp only [LenV, LenT, List.length_map] at hlen
 unfold cntTokenS at hk
 refine AW.sr ?_
 refine AWl.ac rfl rfl rfl rfl rfl ?_
 refine AWl.nil (AW.seq ?_)
 refine AW.sr ?_
 refine AWl.ac rfl rfl rfl rfl rfl ?_
 refine AWl.nil (AW.block ?_)
 refine AW.loop (β := Nat × Int) (fun j => j.1 ≤ l.length ∧ j.2 = k + cntL cntToken (l.take j.1)) (fun j => ⟨_, [(5, (true, .a (.one (.t (.v (.int .i64 (j.1 : Nat))))))), (1, (true, .a (.one (.t (.v (.int .i64 j.2)))))), (0, _), (4, _)], [(1000, .row 4 ((mkL mkToken cntToken (l.take j.1) k).map cToken ++ (l.drop j.1).map cToken)), (500, .hdr (some 1000) (hd 1000))]⟩) (fun j => l.length - j.1) ((0, k)) ⟨Nat.zero_le _, by simp [cntL]⟩ (Le.sub0 rfl ⟨rfl, rfl, rfl, rfl, trivial⟩ ⟨rfl, rfl, trivial⟩) ?_
 intro ⟨i, κ⟩ ⟨hi, hκ⟩
 dsimp only at hi hκ; subst hκ
 refine AW.seq ?_
 refine AW.sr ?_
 refine AWl.mv rfl rfl rfl rfl rfl ?_
 refine AWl.mv rfl rfl rfl rfl rfl ?_
 refine AWl.put (by exact R_len rfl (.no rfl) rfl (.tm rfl) (by exact .rf rfl) Tryz.underlying28) rfl ?_
 refine AWl.put (R_lt rfl (.no rfl) rfl (.tm rfl) (.tm rfl)) rfl ?_
 refine AWl.nil ?_
 refine AW.cond (.tm rfl) (fun hlt => ?_) (fun hlt => ?_)
 · skip
   try simp at hlt
   replace hlt : i < l.length := by simp only [mkL_length, List.length_take] at hlt; omega
   obtain ⟨x, hx⟩ : ∃ x, l[i]? = some x := ⟨_, List.getElem?_eq_getElem hlt⟩
   have hrow := mark_at (f := mkToken) (c := cntToken) (k := k) cToken hx
   have hcs := cntL_at (c := cntToken) hx
   have hcn := cntL_nonneg cntToken_nn (l.take i)
   have hcl := cntL_le cntToken_nn l (i + 1)
   have hce : cntToken x = 1 + 1 + 1 + 1 := rfl
   refine AW.skip ?_
   refine AW.seq ?_
   refine AW.block ?_
   refine AW.sr ?_
   refine AWl.mv rfl rfl rfl rfl rfl ?_
   refine AWl.mv rfl rfl rfl rfl rfl ?_
   refine AWl.mv rfl rfl rfl rfl rfl ?_
   refine AWl.put (by exact R_indexAddr_rf rfl (.no rfl) rfl (.tm rfl) rfl (.tm rfl) Tryz.underlying28 ty100 (fun _ => ⟨by omega, (by exact hrow)⟩)) rfl ?_
   refine AWl.put (by exact R_fieldAddr_pr rfl (.no rfl) rfl (.tm rfl) fl100_0) rfl ?_
   refine AWl.absupd (R_store_pr rfl rfl rfl (.tm rfl) rfl (.tm rfl) rfl (by exact hrow) ty3 rfl rfl rfl rfl) ?_
   refine AWl.nil (AW.sr ?_)
   refine AWl.mv rfl rfl rfl rfl rfl ?_
   refine AWl.put (R_add rfl (.no rfl) rfl (.tm rfl) (.const rfl) (fun _ => by omega)) rfl ?_
   refine AWl.av rfl rfl rfl rfl rfl ?_
   refine AWl.nil (AW.sr ?_)
   refine AWl.mv rfl rfl rfl rfl rfl ?_
   refine AWl.mv rfl rfl rfl rfl rfl ?_
   refine AWl.mv rfl rfl rfl rfl rfl ?_
   refine AWl.put ((by exact R_indexAddr_rf rfl (.no rfl) rfl (.tm rfl) rfl (.tm rfl) Tryz.underlying28 ty100 (fun _ => ⟨by omega, (by exact set_at _ (hrow))⟩))) rfl ?_
   refine AWl.put (by exact R_fieldAddr_pr rfl (.no rfl) rfl (.tm rfl) fl100_1) rfl ?_
   refine AWl.absupd (R_store_pr rfl rfl rfl (.tm rfl) rfl (.tm rfl) rfl (by exact set_at _ (hrow)) ty3 rfl rfl rfl rfl) ?_
   refine AWl.nil (AW.sr ?_)
   refine AWl.mv rfl rfl rfl rfl rfl ?_
   refine AWl.put (R_add rfl (.no rfl) rfl (.tm rfl) (.const rfl) (fun _ => by omega)) rfl ?_
   refine AWl.av rfl rfl rfl rfl rfl ?_
   refine AWl.nil (AW.sr ?_)
   refine AWl.mv rfl rfl rfl rfl rfl ?_
   refine AWl.mv rfl rfl rfl rfl rfl ?_
   refine AWl.mv rfl rfl rfl rfl rfl ?_
   refine AWl.put ((by exact R_indexAddr_rf rfl (.no rfl) rfl (.tm rfl) rfl (.tm rfl) Tryz.underlying28 ty100 (fun _ => ⟨by omega, (by exact set_at _ (set_at _ (hrow)))⟩))) rfl ?_
   refine AWl.put (by exact R_fieldAddr_pr rfl (.no rfl) rfl (.tm rfl) fl100_2) rfl ?_
   refine AWl.absupd (R_store_pr rfl rfl rfl (.tm rfl) rfl (.tm rfl) rfl (by exact set_at _ (set_at _ (hrow))) ty3 rfl rfl rfl rfl) ?_
   refine AWl.nil (AW.sr ?_)
   refine AWl.mv rfl rfl rfl rfl rfl ?_
   refine AWl.put (R_add rfl (.no rfl) rfl (.tm rfl) (.const rfl) (fun _ => by omega)) rfl ?_
   refine AWl.av rfl rfl rfl rfl rfl ?_
   refine AWl.nil (AW.sr ?_)
   refine AWl.mv rfl rfl rfl rfl rfl ?_
   refine AWl.mv rfl rfl rfl rfl rfl ?_
   refine AWl.mv rfl rfl rfl rfl rfl ?_
   refine AWl.put ((by exact R_indexAddr_rf rfl (.no rfl) rfl (.tm rfl) rfl (.tm rfl) Tryz.underlying28 ty100 (fun _ => ⟨by omega, (by exact set_at _ (set_at _ (set_at _ (hrow))))⟩))) rfl ?_
   refine AWl.put (by exact R_fieldAddr_pr rfl (.no rfl) rfl (.tm rfl) fl100_3) rfl ?_
   refine AWl.absupd (R_store_pr rfl rfl rfl (.tm rfl) rfl (.tm rfl) rfl (by exact set_at _ (set_at _ (set_at _ (hrow)))) ty3 rfl rfl rfl rfl) ?_
   refine AWl.nil (AW.region ?_)
   refine AWl.mv rfl rfl rfl rfl rfl ?_
   refine AWl.put (R_add rfl (.no rfl) rfl (.tm rfl) (.const rfl) (fun _ => by omega)) rfl ?_
   refine AWl.av rfl rfl rfl rfl rfl ?_
   refine AWl.nil (AW.region ?_)
   refine AWl.mv rfl rfl rfl rfl rfl ?_
   refine AWl.put (R_add rfl (.no rfl) rfl (.tm rfl) (.const rfl) (fun _ => by omega)) rfl ?_
   refine AWl.av rfl rfl rfl rfl rfl ?_
   refine AWl.nil ?_
   refine Round.next (i + 1, _) ⟨by dsimp only; omega, by dsimp only; omega⟩ (by dsimp only; omega) (Le.sub0 rfl ⟨rfl, rfl, rfl, rfl, trivial⟩ ⟨congrArg (fun r => some (R.row 4 r)) (by simp only [List.set_set]; exact mark_set _ hx rfl), rfl, trivial⟩)
 · skip
   try simp at hlt
   replace hlt : l.length ≤ i := by simp only [mkL_length, List.length_take] at hlt; omega
   refine AW.exit ?_
   refine AW.sr ?_
   refine AWl.mv rfl rfl rfl rfl rfl ?_
   refine AWl.av rfl rfl rfl rfl rfl ?_
   refine AWl.nil (AW.ret ?_)
   refine RetM.mk (Res.v rfl rfl ?_) (.rf (congrArg (fun r => some (R.row 4 r)) (mark_all _ (by omega))) rfl rfl .nil)
   rw [cntL_all (by omega)]; rfl
set_option maxRecDepth 100000 in
theorem MmarkExpr (x : TExpr) (k : Int) (hk : 0 ≤ k ∧ k + cpExpr x ≤ 4611686018427387904) : FnM Tryz.prog 25 (.agg (cExpr x)) (.int .i64 k) (.agg (cExpr (mpExpr x k))) (.int .i64 (k + cpExpr x)) := by
 refine FnM.walk (y := .agg [.rf 1000]) (R0 := fun hd => [(1000, .row 4 (x.Tokens.map cToken)), (500, .hdr (some 1000) (hd 1000))]) (ts := cExpr (mpExpr x k)) Tryz.func25 rfl (by kernel_rfl) Tryz.ntmps25 rfl rfl rfl rfl rfl rfl rfl rfl fun hlen w0 hd => ?_
 try simp [cPair, cToken, cExpr, cEdge, cGraph, cStep, cWalk, cChange, cBatch, cHistory, cPositions, cAutomaton, cProductStep, cPathAtom, cConjunction, cView, cDelta, cRegistered, cRegistry] at hlen
 have := cntTokenS_nn x.Tokens
 have hce : cpExpr x = cntTokenS x.Tokens := rfl
 refine AW.sr ?_
 refine AWl.add (R_box 2 rfl rfl rfl (.tm rfl) rfl rfl rfl) rfl ?_
 refine AWl.ac rfl rfl rfl rfl rfl ?_
 refine AWl.nil (AW.sr ?_)
 refine AWl.put (by exact R_fieldAddr_pp rfl (.no rfl) rfl (.tm rfl) fl30_0) rfl ?_
 refine AWl.put (by exact R_load_pp rfl (.no rfl) rfl (.tm rfl) rfl ty28 rfl rfl) rfl ?_
 refine AWl.mv rfl rfl rfl rfl rfl ?_
 refine AWl.marks (R_markc rfl rfl rfl (.tm rfl) (.tm rfl) (MmarkTokenS _ _ (by omega)) (.rf rfl rfl .nil) rfl rfl) rfl ?_
 refine AWl.av rfl rfl rfl rfl rfl ?_
 refine AWl.nil (AW.sr ?_)
 refine AWl.mv rfl rfl rfl rfl rfl ?_
 refine AWl.av rfl rfl rfl rfl rfl ?_
 refine AWl.nil (AW.ret ?_)
 refine RetM.mk (Res.v rfl rfl ?_) (.rf rfl rfl rfl .nil)
 first | rfl | (congr 1; omega)
end Go.Proofs.YtbkhopfpejhnlaaGreat
