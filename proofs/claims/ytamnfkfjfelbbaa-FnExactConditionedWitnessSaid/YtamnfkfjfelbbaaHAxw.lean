import Derived.Test.YtamnfkfjfelbbaaMDxw
set_option linter.unusedVariables false
set_option linter.unusedSimpArgs false
namespace Go.Proofs.Ytamnfkfjfelbbaa
open Go.RowKit Go.Q Go.D
set_option maxRecDepth 100000 in
theorem HtoIntS (x : (List Int)) (hz : okIntS x) : FnT Try.prog 26 [.one (.sl 1 (x.map cInt))] (.a (.one (.sl 1 (x.map cInt)))) := by
 refine FnT.walk Try.func26 U (by kernel_rfl) Try.ntmps26 U fun hlen w0 => ?_
 try simp [cPair, cToken, cExpr, cEdge, cGraph, cStep, cWalk, cChange, cBatch, cHistory, cPositions, cAutomaton, cProductStep, cPathAtom, cConjunction, cView, cDelta, cRegistered, cRegistry] at hlen
 have hz0 : x.length ≤ 1048576 := hz
 refine AW.sr ?_
 refine AWl.ac ?_
 refine AWl.nil (AW.sr ?_)
 refine AWl.mv ?_
 refine AWl.p (by exact R_lenm U (.no U) U (.tm U) (by exact .t) Try.underlying22) U ?_
 refine AWl.add (R_makeSlice 7 U U U (.tm U) Try.underlying22 in3 U U U U (by omega)) U ?_
 refine AWl.av ?_
 refine AWl.nil (AW.seq ?_)
 refine AW.sr ?_
 refine AWl.ac ?_
 refine AWl.nil (AW.block ?_)
 refine AW.loop (β := Nat) (fun i => i ≤ x.length) (fun i => ⟨_, [(4, (true, .a (.one (.t (.v (.int .i64 (i : Nat))))))), (0, _), (2, _), (3, _)], [(7, .row 1 ((x.take i).map cInt ++ List.replicate (x.length - i) [.v (.int .i64 0)]))]⟩) (fun i => x.length - i) (0) (Nat.zero_le _) (Le.sub0 U ⟨U, U, U, U, Y⟩ ⟨U, Y⟩) ?_
 intro k hk
 refine AW.seq ?_
 refine AW.sr ?_
 refine AWl.mv ?_
 refine AWl.mv ?_
 refine AWl.p (by exact R_lenm U (.no U) U (.tm U) (by exact .t) Try.underlying22) U ?_
 refine AWl.p (R_lt U (.no U) U (.tm U) (.tm U)) U ?_
 refine AWl.nil ?_
 refine AW.cond (.tm U) (fun hlt => ?_) (fun hlt => ?_)
 · skip
   try simp at hlt
   obtain ⟨y, hx⟩ : ∃ y, x[k]? = some y := ⟨_, List.getElem?_eq_getElem hlt⟩
   refine AW.skip ?_
   refine AW.seq ?_
   refine AW.block ?_
   refine AW.region ?_
   refine AWl.mv ?_
   refine AWl.mv ?_
   refine AWl.mv ?_
   refine AWl.mv ?_
   refine AWl.p ((by exact R_indexAddr U (.no U) U (.tm U) (.tm U) Try.underlying22 ty3 (fun _ => ⟨by omega, (by exact map_get (by assumption))⟩))) U ?_
   refine AWl.p (by exact R_load U (.no U) U (.tm U) ty3 U U) U ?_
   refine AWl.p (by exact R_indexAddr_rf U (.no U) U (.tm U) U (.tm U) Try.underlying22 ty3 (fun _ => ⟨by omega, made_at hlt⟩)) U ?_
   refine AWl.absupd (R_store_pr U U U (.tm U) U (.tm U) U (made_at hlt) ty3 U U U U) ?_
   refine AWl.nil (AW.region ?_)
   refine AWl.mv ?_
   refine AWl.p (R_add U (.no U) U (.tm U) (.const U) (fun _ => by omega)) U ?_
   refine AWl.av ?_
   refine AWl.nil ?_
   refine Round.next (k + 1) (by omega) (by omega) (Le.sub0 rfl ⟨rfl, rfl, rfl, rfl, Y⟩ ⟨congrArg (fun r => some (R.row 1 r)) (set_made hx), Y⟩)
 · skip
   try simp at hlt
   refine AW.exit ?_
   refine AW.sr ?_
   refine AWl.mv ?_
   refine AWl.av ?_
   refine AWl.nil (AW.ret ?_)
   refine Res.one U (.tmp U .nil) U ?_
   exact congrArg (fun r => [V0.one (T.sl 1 r)]) (made_end (by omega))
set_option maxRecDepth 100000 in
theorem HeqIntS (x : (List Int)) : FnT Try.prog 38 [.one (.sl 1 (x.map cInt)), .one (.sl 1 (x.map cInt))] (.a (.one (.v (.bool true)))) := by
 refine FnT.walk Try.func38 U (by kernel_rfl) Try.ntmps38 U fun hlen w0 => ?_
 try simp [cPair, cToken, cExpr, cEdge, cGraph, cStep, cWalk, cChange, cBatch, cHistory, cPositions, cAutomaton, cProductStep, cPathAtom, cConjunction, cView, cDelta, cRegistered, cRegistry] at hlen
 refine AW.sr ?_
 refine AWl.ac ?_
 refine AWl.nil (AW.seq ?_)
 refine AW.sr ?_
 refine AWl.mv ?_
 refine AWl.p (by exact R_lenm U (.no U) U (.tm U) (by exact .t) Try.underlying22) U ?_
 refine AWl.mv ?_
 refine AWl.p (by exact R_lenm U (.no U) U (.tm U) (by exact .t) Try.underlying22) U ?_
 refine AWl.p (R_ne U (.no U) U (.tm U) (.tm U)) U ?_
 refine AWl.nil ?_
 refine AW.cond (.tm U) (fun h10 => ?_) (fun h10 => ?_)
 · exact absurd h10 (by simp)
 · skip
   try simp at h10
   refine AW.skip ?_
   refine AW.seq ?_
   refine AW.sr ?_
   refine AWl.ac ?_
   refine AWl.nil (AW.block ?_)
   refine AW.loop (β := Nat) (fun i => i ≤ x.length) (fun i => ⟨_, [(5, (true, .a (.one (.t (.v (.int .i64 (i : Nat))))))), (0, _), (1, _)], []⟩) (fun i => x.length - i) (0) (Nat.zero_le _) (Le.sub0 U ⟨U, U, U, Y⟩ trivial) ?_
   intro k hk
   refine AW.seq ?_
   refine AW.sr ?_
   refine AWl.mv ?_
   refine AWl.mv ?_
   refine AWl.p (by exact R_lenm U (.no U) U (.tm U) (by exact .t) Try.underlying22) U ?_
   refine AWl.p (R_lt U (.no U) U (.tm U) (.tm U)) U ?_
   refine AWl.nil ?_
   refine AW.cond (.tm U) (fun hlt => ?_) (fun hlt => ?_)
   · skip
     try simp at hlt
     obtain ⟨y, hx⟩ : ∃ y, x[k]? = some y := ⟨_, List.getElem?_eq_getElem hlt⟩
     refine AW.skip ?_
     refine AW.seq ?_
     refine AW.block ?_
     refine AW.seq ?_
     refine AW.drawn 9 (nthB [[], [], [0, 1], [0, 1, 2], [], [], [4, 5], [4, 5, 6], [0, 1, 2, 3, 4, 5, 6, 7]]) (by kernel_rfl) (by kernel_rfl) (by kernel_rfl) ?_
     refine DrawC.step U U U (Loc.of U fun σ' hs => R_move U (.no U) (hd_sup hs U) (.tm (hs.slots _ _ U))) ?_
     refine DrawC.step U U U (Loc.of U fun σ' hs => R_move U (.no U) (hd_sup hs U) (.tm (hs.slots _ _ U))) ?_
     refine DrawC.step U U U (Loc.of U fun σ' hs => (by exact R_indexAddr U (.no U) (hd_sup hs U) (.tm (hs.slots _ _ U)) (.tm (hs.slots _ _ U)) Try.underlying22 ty3 (fun _ => ⟨by omega, (by exact map_get (by assumption))⟩))) ?_
     refine DrawC.step U U U (Loc.of U fun σ' hs => (by exact R_load U (.no U) (hd_sup hs U) (.tm (hs.slots _ _ U)) ty3 U U)) ?_
     refine DrawC.step U U U (Loc.of U fun σ' hs => R_move U (.no U) (hd_sup hs U) (.tm (hs.slots _ _ U))) ?_
     refine DrawC.step U U U (Loc.of U fun σ' hs => R_move U (.no U) (hd_sup hs U) (.tm (hs.slots _ _ U))) ?_
     refine DrawC.step U U U (Loc.of U fun σ' hs => (by exact R_indexAddr U (.no U) (hd_sup hs U) (.tm (hs.slots _ _ U)) (.tm (hs.slots _ _ U)) Try.underlying22 ty3 (fun _ => ⟨by omega, (by exact map_get (by assumption))⟩))) ?_
     refine DrawC.step U U U (Loc.of U fun σ' hs => (by exact R_load U (.no U) (hd_sup hs U) (.tm (hs.slots _ _ U)) ty3 U U)) ?_
     refine DrawC.step U U U (Loc.of U fun σ' hs => R_ne U (.no U) (hd_sup hs U) (.tm (hs.slots _ _ U)) (.tm (hs.slots _ _ U))) ?_
     refine DrawC.fin U U ?_
     refine AWl.nil ?_
     refine AW.cond (.tm U) (fun h25 => ?_) (fun h25 => ?_)
     · exact absurd h25 (by simp)
     · skip
       try simp at h25
       refine AW.skip ?_
       refine AW.region ?_
       refine AWl.mv ?_
       refine AWl.p (R_add U (.no U) U (.tm U) (.const U) (fun _ => by omega)) U ?_
       refine AWl.av ?_
       refine AWl.nil ?_
       refine Round.next (k + 1) (by omega) (by omega) (Le.sub0 rfl ⟨rfl, rfl, rfl, Y⟩ trivial)
   · skip
     try simp at hlt
     refine AW.exit ?_
     refine AW.sr ?_
     refine AWl.ac ?_
     refine AWl.nil (AW.ret ?_)
     refine Res.v U U ?_
     rfl
set_option maxRecDepth 100000 in
theorem HszIntS (x : (List Int)) (a : Int) (ha : 0 ≤ a ∧ a ≤ 1048576) : FnT Try.prog 17 [.one (.sl 1 (x.map cInt)), .one (.v (.int .i64 a))] (.a (.one (.v (.int .i64 (szIntS x a))))) := by
 refine FnT.walk Try.func17 U (by kernel_rfl) Try.ntmps17 U fun hlen w0 => ?_
 try simp [cPair, cToken, cExpr, cEdge, cGraph, cStep, cWalk, cChange, cBatch, cHistory, cPositions, cAutomaton, cProductStep, cPathAtom, cConjunction, cView, cDelta, cRegistered, cRegistry] at hlen
 refine AW.sr ?_
 refine AWl.ac ?_
 refine AWl.nil (AW.sr ?_)
 refine AWl.mv ?_
 refine AWl.mv ?_
 refine AWl.p (by exact R_lenm U (.no U) U (.tm U) (by exact .t) Try.underlying22) U ?_
 refine AWl.p (R_sub U (.no U) U (.tm U) (.tm U) (fun _ => by omega)) U ?_
 refine AWl.av ?_
 refine AWl.nil (AW.seq ?_)
 refine AW.sr ?_
 refine AWl.mv ?_
 refine AWl.p (R_lt U (.no U) U (.tm U) (.const U)) U ?_
 refine AWl.nil ?_
 refine AW.cond (.tm U) (fun h10 => ?_) (fun h10 => ?_)
 · skip
   try simp at h10
   refine AW.sr ?_
   refine AWl.ac ?_
   refine AWl.nil (AW.ret ?_)
   refine Res.v U U ?_
   simp [szIntS, szL]; omega
 · skip
   try simp at h10
   refine AW.skip ?_
   refine AW.sr ?_
   refine AWl.mv ?_
   refine AWl.av ?_
   refine AWl.nil (AW.ret ?_)
   refine Res.v U U ?_
   simp [szIntS, szL]; omega
set_option maxRecDepth 100000 in
theorem HtoBoolS (x : (List Bool)) (hz : okBoolS x) : FnT Try.prog 28 [.one (.sl 1 (x.map cBool))] (.a (.one (.sl 1 (x.map cBool)))) := by
 refine FnT.walk Try.func28 U (by kernel_rfl) Try.ntmps28 U fun hlen w0 => ?_
 try simp [cPair, cToken, cExpr, cEdge, cGraph, cStep, cWalk, cChange, cBatch, cHistory, cPositions, cAutomaton, cProductStep, cPathAtom, cConjunction, cView, cDelta, cRegistered, cRegistry] at hlen
 have hz0 : x.length ≤ 1048576 := hz
 refine AW.sr ?_
 refine AWl.ac ?_
 refine AWl.nil (AW.sr ?_)
 refine AWl.mv ?_
 refine AWl.p (by exact R_lenm U (.no U) U (.tm U) (by exact .t) Try.underlying26) U ?_
 refine AWl.add (R_makeSlice 7 U U U (.tm U) Try.underlying26 in4 U U U U (by omega)) U ?_
 refine AWl.av ?_
 refine AWl.nil (AW.seq ?_)
 refine AW.sr ?_
 refine AWl.ac ?_
 refine AWl.nil (AW.block ?_)
 refine AW.loop (β := Nat) (fun i => i ≤ x.length) (fun i => ⟨_, [(4, (true, .a (.one (.t (.v (.int .i64 (i : Nat))))))), (0, _), (2, _), (3, _)], [(7, .row 1 ((x.take i).map cBool ++ List.replicate (x.length - i) [.v (.bool false)]))]⟩) (fun i => x.length - i) (0) (Nat.zero_le _) (Le.sub0 U ⟨U, U, U, U, Y⟩ ⟨U, Y⟩) ?_
 intro k hk
 refine AW.seq ?_
 refine AW.sr ?_
 refine AWl.mv ?_
 refine AWl.mv ?_
 refine AWl.p (by exact R_lenm U (.no U) U (.tm U) (by exact .t) Try.underlying26) U ?_
 refine AWl.p (R_lt U (.no U) U (.tm U) (.tm U)) U ?_
 refine AWl.nil ?_
 refine AW.cond (.tm U) (fun hlt => ?_) (fun hlt => ?_)
 · skip
   try simp at hlt
   obtain ⟨y, hx⟩ : ∃ y, x[k]? = some y := ⟨_, List.getElem?_eq_getElem hlt⟩
   refine AW.skip ?_
   refine AW.seq ?_
   refine AW.block ?_
   refine AW.region ?_
   refine AWl.mv ?_
   refine AWl.mv ?_
   refine AWl.mv ?_
   refine AWl.mv ?_
   refine AWl.p ((by exact R_indexAddr U (.no U) U (.tm U) (.tm U) Try.underlying26 ty4 (fun _ => ⟨by omega, (by exact map_get (by assumption))⟩))) U ?_
   refine AWl.p (by exact R_load U (.no U) U (.tm U) ty4 U U) U ?_
   refine AWl.p (by exact R_indexAddr_rf U (.no U) U (.tm U) U (.tm U) Try.underlying26 ty4 (fun _ => ⟨by omega, made_at hlt⟩)) U ?_
   refine AWl.absupd (R_store_pr U U U (.tm U) U (.tm U) U (made_at hlt) ty4 U U U U) ?_
   refine AWl.nil (AW.region ?_)
   refine AWl.mv ?_
   refine AWl.p (R_add U (.no U) U (.tm U) (.const U) (fun _ => by omega)) U ?_
   refine AWl.av ?_
   refine AWl.nil ?_
   refine Round.next (k + 1) (by omega) (by omega) (Le.sub0 rfl ⟨rfl, rfl, rfl, rfl, Y⟩ ⟨congrArg (fun r => some (R.row 1 r)) (set_made hx), Y⟩)
 · skip
   try simp at hlt
   refine AW.exit ?_
   refine AW.sr ?_
   refine AWl.mv ?_
   refine AWl.av ?_
   refine AWl.nil (AW.ret ?_)
   refine Res.one U (.tmp U .nil) U ?_
   exact congrArg (fun r => [V0.one (T.sl 1 r)]) (made_end (by omega))
set_option maxRecDepth 100000 in
theorem HeqBoolS (x : (List Bool)) : FnT Try.prog 40 [.one (.sl 1 (x.map cBool)), .one (.sl 1 (x.map cBool))] (.a (.one (.v (.bool true)))) := by
 refine FnT.walk Try.func40 U (by kernel_rfl) Try.ntmps40 U fun hlen w0 => ?_
 try simp [cPair, cToken, cExpr, cEdge, cGraph, cStep, cWalk, cChange, cBatch, cHistory, cPositions, cAutomaton, cProductStep, cPathAtom, cConjunction, cView, cDelta, cRegistered, cRegistry] at hlen
 refine AW.sr ?_
 refine AWl.ac ?_
 refine AWl.nil (AW.seq ?_)
 refine AW.sr ?_
 refine AWl.mv ?_
 refine AWl.p (by exact R_lenm U (.no U) U (.tm U) (by exact .t) Try.underlying26) U ?_
 refine AWl.mv ?_
 refine AWl.p (by exact R_lenm U (.no U) U (.tm U) (by exact .t) Try.underlying26) U ?_
 refine AWl.p (R_ne U (.no U) U (.tm U) (.tm U)) U ?_
 refine AWl.nil ?_
 refine AW.cond (.tm U) (fun h10 => ?_) (fun h10 => ?_)
 · exact absurd h10 (by simp)
 · skip
   try simp at h10
   refine AW.skip ?_
   refine AW.seq ?_
   refine AW.sr ?_
   refine AWl.ac ?_
   refine AWl.nil (AW.block ?_)
   refine AW.loop (β := Nat) (fun i => i ≤ x.length) (fun i => ⟨_, [(5, (true, .a (.one (.t (.v (.int .i64 (i : Nat))))))), (0, _), (1, _)], []⟩) (fun i => x.length - i) (0) (Nat.zero_le _) (Le.sub0 U ⟨U, U, U, Y⟩ trivial) ?_
   intro k hk
   refine AW.seq ?_
   refine AW.sr ?_
   refine AWl.mv ?_
   refine AWl.mv ?_
   refine AWl.p (by exact R_lenm U (.no U) U (.tm U) (by exact .t) Try.underlying26) U ?_
   refine AWl.p (R_lt U (.no U) U (.tm U) (.tm U)) U ?_
   refine AWl.nil ?_
   refine AW.cond (.tm U) (fun hlt => ?_) (fun hlt => ?_)
   · skip
     try simp at hlt
     obtain ⟨y, hx⟩ : ∃ y, x[k]? = some y := ⟨_, List.getElem?_eq_getElem hlt⟩
     refine AW.skip ?_
     refine AW.seq ?_
     refine AW.block ?_
     refine AW.seq ?_
     refine AW.drawn 9 (nthB [[], [], [0, 1], [0, 1, 2], [], [], [4, 5], [4, 5, 6], [0, 1, 2, 3, 4, 5, 6, 7]]) (by kernel_rfl) (by kernel_rfl) (by kernel_rfl) ?_
     refine DrawC.step U U U (Loc.of U fun σ' hs => R_move U (.no U) (hd_sup hs U) (.tm (hs.slots _ _ U))) ?_
     refine DrawC.step U U U (Loc.of U fun σ' hs => R_move U (.no U) (hd_sup hs U) (.tm (hs.slots _ _ U))) ?_
     refine DrawC.step U U U (Loc.of U fun σ' hs => (by exact R_indexAddr U (.no U) (hd_sup hs U) (.tm (hs.slots _ _ U)) (.tm (hs.slots _ _ U)) Try.underlying26 ty4 (fun _ => ⟨by omega, (by exact map_get (by assumption))⟩))) ?_
     refine DrawC.step U U U (Loc.of U fun σ' hs => (by exact R_load U (.no U) (hd_sup hs U) (.tm (hs.slots _ _ U)) ty4 U U)) ?_
     refine DrawC.step U U U (Loc.of U fun σ' hs => R_move U (.no U) (hd_sup hs U) (.tm (hs.slots _ _ U))) ?_
     refine DrawC.step U U U (Loc.of U fun σ' hs => R_move U (.no U) (hd_sup hs U) (.tm (hs.slots _ _ U))) ?_
     refine DrawC.step U U U (Loc.of U fun σ' hs => (by exact R_indexAddr U (.no U) (hd_sup hs U) (.tm (hs.slots _ _ U)) (.tm (hs.slots _ _ U)) Try.underlying26 ty4 (fun _ => ⟨by omega, (by exact map_get (by assumption))⟩))) ?_
     refine DrawC.step U U U (Loc.of U fun σ' hs => (by exact R_load U (.no U) (hd_sup hs U) (.tm (hs.slots _ _ U)) ty4 U U)) ?_
     refine DrawC.step U U U (Loc.of U fun σ' hs => R_neb U (.no U) (hd_sup hs U) (.tm (hs.slots _ _ U)) (.tm (hs.slots _ _ U)) Try.underlying4) ?_
     refine DrawC.fin U U ?_
     refine AWl.nil ?_
     refine AW.cond (.tm U) (fun h25 => ?_) (fun h25 => ?_)
     · exact absurd h25 (by simp)
     · skip
       try simp at h25
       refine AW.skip ?_
       refine AW.region ?_
       refine AWl.mv ?_
       refine AWl.p (R_add U (.no U) U (.tm U) (.const U) (fun _ => by omega)) U ?_
       refine AWl.av ?_
       refine AWl.nil ?_
       refine Round.next (k + 1) (by omega) (by omega) (Le.sub0 rfl ⟨rfl, rfl, rfl, Y⟩ trivial)
   · skip
     try simp at hlt
     refine AW.exit ?_
     refine AW.sr ?_
     refine AWl.ac ?_
     refine AWl.nil (AW.ret ?_)
     refine Res.v U U ?_
     rfl
set_option maxRecDepth 100000 in
theorem HszBoolS (x : (List Bool)) (a : Int) (ha : 0 ≤ a ∧ a ≤ 1048576) : FnT Try.prog 19 [.one (.sl 1 (x.map cBool)), .one (.v (.int .i64 a))] (.a (.one (.v (.int .i64 (szBoolS x a))))) := by
 refine FnT.walk Try.func19 U (by kernel_rfl) Try.ntmps19 U fun hlen w0 => ?_
 try simp [cPair, cToken, cExpr, cEdge, cGraph, cStep, cWalk, cChange, cBatch, cHistory, cPositions, cAutomaton, cProductStep, cPathAtom, cConjunction, cView, cDelta, cRegistered, cRegistry] at hlen
 refine AW.sr ?_
 refine AWl.ac ?_
 refine AWl.nil (AW.sr ?_)
 refine AWl.mv ?_
 refine AWl.mv ?_
 refine AWl.p (by exact R_lenm U (.no U) U (.tm U) (by exact .t) Try.underlying26) U ?_
 refine AWl.p (R_sub U (.no U) U (.tm U) (.tm U) (fun _ => by omega)) U ?_
 refine AWl.av ?_
 refine AWl.nil (AW.seq ?_)
 refine AW.sr ?_
 refine AWl.mv ?_
 refine AWl.p (R_lt U (.no U) U (.tm U) (.const U)) U ?_
 refine AWl.nil ?_
 refine AW.cond (.tm U) (fun h10 => ?_) (fun h10 => ?_)
 · skip
   try simp at h10
   refine AW.sr ?_
   refine AWl.ac ?_
   refine AWl.nil (AW.ret ?_)
   refine Res.v U U ?_
   simp [szBoolS, szL]; omega
 · skip
   try simp at h10
   refine AW.skip ?_
   refine AW.sr ?_
   refine AWl.mv ?_
   refine AWl.av ?_
   refine AWl.nil (AW.ret ?_)
   refine Res.v U U ?_
   simp [szBoolS, szL]; omega
set_option maxRecDepth 100000 in
theorem HtoIntSS (x : (List (List Int))) (hz : okIntSS x) : FnT Try.prog 29 [.one (.sl 1 (x.map cIntS))] (.a (.one (.sl 1 (x.map cIntS)))) := by
 refine FnT.walk Try.func29 U (by kernel_rfl) Try.ntmps29 U fun hlen w0 => ?_
 try simp [cPair, cToken, cExpr, cEdge, cGraph, cStep, cWalk, cChange, cBatch, cHistory, cPositions, cAutomaton, cProductStep, cPathAtom, cConjunction, cView, cDelta, cRegistered, cRegistry] at hlen
 have hz0 : x.length ≤ 1048576 := hz.1
 refine AW.sr ?_
 refine AWl.ac ?_
 refine AWl.nil (AW.sr ?_)
 refine AWl.mv ?_
 refine AWl.p (by exact R_lenm U (.no U) U (.tm U) (by exact .t) Try.underlying27) U ?_
 refine AWl.add (R_makeSlice 7 U U U (.tm U) Try.underlying27 in22 U U U U (by omega)) U ?_
 refine AWl.av ?_
 refine AWl.nil (AW.seq ?_)
 refine AW.sr ?_
 refine AWl.ac ?_
 refine AWl.nil (AW.block ?_)
 refine AW.loop (β := Nat) (fun i => i ≤ x.length) (fun i => ⟨_, [(4, (true, .a (.one (.t (.v (.int .i64 (i : Nat))))))), (0, _), (2, _), (3, _)], [(7, .row 1 ((x.take i).map cIntS ++ List.replicate (x.length - i) [.v (.slice none 0 0)]))]⟩) (fun i => x.length - i) (0) (Nat.zero_le _) (Le.sub0 U ⟨U, U, U, U, Y⟩ ⟨U, Y⟩) ?_
 intro k hk
 refine AW.seq ?_
 refine AW.sr ?_
 refine AWl.mv ?_
 refine AWl.mv ?_
 refine AWl.p (by exact R_lenm U (.no U) U (.tm U) (by exact .t) Try.underlying27) U ?_
 refine AWl.p (R_lt U (.no U) U (.tm U) (.tm U)) U ?_
 refine AWl.nil ?_
 refine AW.cond (.tm U) (fun hlt => ?_) (fun hlt => ?_)
 · skip
   try simp at hlt
   obtain ⟨y, hx⟩ : ∃ y, x[k]? = some y := ⟨_, List.getElem?_eq_getElem hlt⟩
   refine AW.skip ?_
   refine AW.seq ?_
   refine AW.block ?_
   refine AW.region ?_
   refine AWl.mv ?_
   refine AWl.mv ?_
   refine AWl.mv ?_
   refine AWl.mv ?_
   refine AWl.p ((by exact R_indexAddr U (.no U) U (.tm U) (.tm U) Try.underlying27 ty22 (fun _ => ⟨by omega, (by exact map_get (by assumption))⟩))) U ?_
   refine AWl.p (by exact R_load U (.no U) U (.tm U) ty22 U U) U ?_
   refine AWl.adds (R_call 2000 (HtoIntS _ (hz.2 _ (List.mem_of_getElem? hx))) U U U (.cons (.tm U) U .nil) U U) U ?_
   refine AWl.p (by exact R_indexAddr_rf U (.no U) U (.tm U) U (.tm U) Try.underlying27 ty22 (fun _ => ⟨by omega, made_at hlt⟩)) U ?_
   refine AWl.absupd (R_store_pr U U U (.tm U) U (.tm U) U (made_at hlt) ty22 U U U U) ?_
   refine AWl.nil (AW.region ?_)
   refine AWl.mv ?_
   refine AWl.p (R_add U (.no U) U (.tm U) (.const U) (fun _ => by omega)) U ?_
   refine AWl.av ?_
   refine AWl.nil ?_
   refine Round.next (k + 1) (by omega) (by omega) (Le.sub0 rfl ⟨rfl, rfl, rfl, rfl, Y⟩ ⟨congrArg (fun r => some (R.row 1 r)) (set_made hx), Y⟩)
 · skip
   try simp at hlt
   refine AW.exit ?_
   refine AW.sr ?_
   refine AWl.mv ?_
   refine AWl.av ?_
   refine AWl.nil (AW.ret ?_)
   refine Res.one U (.tmp U .nil) U ?_
   exact congrArg (fun r => [V0.one (T.sl 1 r)]) (made_end (by omega))
set_option maxRecDepth 100000 in
theorem HeqIntSS (x : (List (List Int))) : FnT Try.prog 41 [.one (.sl 1 (x.map cIntS)), .one (.sl 1 (x.map cIntS))] (.a (.one (.v (.bool true)))) := by
 refine FnT.walk Try.func41 U (by kernel_rfl) Try.ntmps41 U fun hlen w0 => ?_
 try simp [cPair, cToken, cExpr, cEdge, cGraph, cStep, cWalk, cChange, cBatch, cHistory, cPositions, cAutomaton, cProductStep, cPathAtom, cConjunction, cView, cDelta, cRegistered, cRegistry] at hlen
 refine AW.sr ?_
 refine AWl.ac ?_
 refine AWl.nil (AW.seq ?_)
 refine AW.sr ?_
 refine AWl.mv ?_
 refine AWl.p (by exact R_lenm U (.no U) U (.tm U) (by exact .t) Try.underlying27) U ?_
 refine AWl.mv ?_
 refine AWl.p (by exact R_lenm U (.no U) U (.tm U) (by exact .t) Try.underlying27) U ?_
 refine AWl.p (R_ne U (.no U) U (.tm U) (.tm U)) U ?_
 refine AWl.nil ?_
 refine AW.cond (.tm U) (fun h10 => ?_) (fun h10 => ?_)
 · exact absurd h10 (by simp)
 · skip
   try simp at h10
   refine AW.skip ?_
   refine AW.seq ?_
   refine AW.sr ?_
   refine AWl.ac ?_
   refine AWl.nil (AW.block ?_)
   refine AW.loop (β := Nat) (fun i => i ≤ x.length) (fun i => ⟨_, [(5, (true, .a (.one (.t (.v (.int .i64 (i : Nat))))))), (0, _), (1, _)], []⟩) (fun i => x.length - i) (0) (Nat.zero_le _) (Le.sub0 U ⟨U, U, U, Y⟩ trivial) ?_
   intro k hk
   refine AW.seq ?_
   refine AW.sr ?_
   refine AWl.mv ?_
   refine AWl.mv ?_
   refine AWl.p (by exact R_lenm U (.no U) U (.tm U) (by exact .t) Try.underlying27) U ?_
   refine AWl.p (R_lt U (.no U) U (.tm U) (.tm U)) U ?_
   refine AWl.nil ?_
   refine AW.cond (.tm U) (fun hlt => ?_) (fun hlt => ?_)
   · skip
     try simp at hlt
     obtain ⟨y, hx⟩ : ∃ y, x[k]? = some y := ⟨_, List.getElem?_eq_getElem hlt⟩
     refine AW.skip ?_
     refine AW.seq ?_
     refine AW.block ?_
     refine AW.seq ?_
     refine AW.drawn 10 (nthB [[], [], [0, 1], [0, 1, 2], [], [], [4, 5], [4, 5, 6], [0, 1, 2, 3, 4, 5, 6, 7], [0, 1, 2, 3, 4, 5, 6, 7, 8]]) (by kernel_rfl) (by kernel_rfl) (by kernel_rfl) ?_
     refine DrawC.step U U U (Loc.of U fun σ' hs => R_move U (.no U) (hd_sup hs U) (.tm (hs.slots _ _ U))) ?_
     refine DrawC.step U U U (Loc.of U fun σ' hs => R_move U (.no U) (hd_sup hs U) (.tm (hs.slots _ _ U))) ?_
     refine DrawC.step U U U (Loc.of U fun σ' hs => (by exact R_indexAddr U (.no U) (hd_sup hs U) (.tm (hs.slots _ _ U)) (.tm (hs.slots _ _ U)) Try.underlying27 ty22 (fun _ => ⟨by omega, (by exact map_get (by assumption))⟩))) ?_
     refine DrawC.step U U U (Loc.of U fun σ' hs => (by exact R_load U (.no U) (hd_sup hs U) (.tm (hs.slots _ _ U)) ty22 U U)) ?_
     refine DrawC.step U U U (Loc.of U fun σ' hs => R_move U (.no U) (hd_sup hs U) (.tm (hs.slots _ _ U))) ?_
     refine DrawC.step U U U (Loc.of U fun σ' hs => R_move U (.no U) (hd_sup hs U) (.tm (hs.slots _ _ U))) ?_
     refine DrawC.step U U U (Loc.of U fun σ' hs => (by exact R_indexAddr U (.no U) (hd_sup hs U) (.tm (hs.slots _ _ U)) (.tm (hs.slots _ _ U)) Try.underlying27 ty22 (fun _ => ⟨by omega, (by exact map_get (by assumption))⟩))) ?_
     refine DrawC.step U U U (Loc.of U fun σ' hs => (by exact R_load U (.no U) (hd_sup hs U) (.tm (hs.slots _ _ U)) ty22 U U)) ?_
     refine DrawC.step U U U (Loc.of U fun σ' hs => R_callz (FnT.fr (HeqIntS _)) U (.no U) (hd_sup hs U) (.cons (.tm (hs.slots _ _ U)) (readA_sup hs U) (.cons (.tm (hs.slots _ _ U)) (readA_sup hs U) .nil))) ?_
     refine DrawC.step U U U (Loc.of U fun σ' hs => R_not U (.no U) (hd_sup hs U) (.tm (hs.slots _ _ U))) ?_
     refine DrawC.fin U U ?_
     refine AWl.nil ?_
     refine AW.cond (.tm U) (fun h26 => ?_) (fun h26 => ?_)
     · exact absurd h26 (by simp)
     · skip
       try simp at h26
       refine AW.skip ?_
       refine AW.region ?_
       refine AWl.mv ?_
       refine AWl.p (R_add U (.no U) U (.tm U) (.const U) (fun _ => by omega)) U ?_
       refine AWl.av ?_
       refine AWl.nil ?_
       refine Round.next (k + 1) (by omega) (by omega) (Le.sub0 rfl ⟨rfl, rfl, rfl, Y⟩ trivial)
   · skip
     try simp at hlt
     refine AW.exit ?_
     refine AW.sr ?_
     refine AWl.ac ?_
     refine AWl.nil (AW.ret ?_)
     refine Res.v U U ?_
     rfl
set_option maxRecDepth 100000 in
theorem HszIntSS (x : (List (List Int))) (a : Int) (ha : 0 ≤ a ∧ a ≤ 1048576) : FnT Try.prog 20 [.one (.sl 1 (x.map cIntS)), .one (.v (.int .i64 a))] (.a (.one (.v (.int .i64 (szIntSS x a))))) := by
 refine FnT.walk Try.func20 U (by kernel_rfl) Try.ntmps20 U fun hlen w0 => ?_
 try simp [cPair, cToken, cExpr, cEdge, cGraph, cStep, cWalk, cChange, cBatch, cHistory, cPositions, cAutomaton, cProductStep, cPathAtom, cConjunction, cView, cDelta, cRegistered, cRegistry] at hlen
 refine AW.sr ?_
 refine AWl.ac ?_
 refine AWl.nil (AW.sr ?_)
 refine AWl.mv ?_
 refine AWl.mv ?_
 refine AWl.p (by exact R_lenm U (.no U) U (.tm U) (by exact .t) Try.underlying27) U ?_
 refine AWl.p (R_sub U (.no U) U (.tm U) (.tm U) (fun _ => by omega)) U ?_
 refine AWl.av ?_
 refine AWl.nil (AW.seq ?_)
 refine AW.sr ?_
 refine AWl.mv ?_
 refine AWl.p (R_lt U (.no U) U (.tm U) (.const U)) U ?_
 refine AWl.nil ?_
 refine AW.cond (.tm U) (fun h11 => ?_) (fun h11 => ?_)
 · skip
   try simp at h11
   refine AW.sr ?_
   refine AWl.ac ?_
   refine AWl.nil (AW.ret ?_)
   refine Res.v U U ?_
   unfold szIntSS; rw [if_pos (by omega)]
 · skip
   try simp at h11
   refine AW.skip ?_
   refine AW.seq ?_
   refine AW.sr ?_
   refine AWl.ac ?_
   refine AWl.nil (AW.block ?_)
   refine AW.loop (β := Nat × Int) (fun i => (i.1 ≤ x.length ∧ 0 ≤ i.2 ∧ i.2 ≤ 1048576) ∧ szFold szIntS x (a - x.length) = szFold szIntS (x.drop i.1) i.2) (fun i => ⟨_, [(5, (true, .a (.one (.t (.v (.int .i64 (i.1 : Nat))))))), (1, (true, .a (.one (.t (.v (.int .i64 i.2)))))), (0, _)], []⟩) (fun i => x.length - i.1) ((0, a - x.length)) ⟨⟨Nat.zero_le _, by simp only []; omega, by simp only []; omega⟩, U⟩ (Le.sub0 U ⟨U, U, U, Y⟩ trivial) ?_
   intro ⟨k, b⟩ ⟨hk, hf⟩
   dsimp only at hk hf
   refine AW.seq ?_
   refine AW.sr ?_
   refine AWl.mv ?_
   refine AWl.mv ?_
   refine AWl.p (by exact R_lenm U (.no U) U (.tm U) (by exact .t) Try.underlying27) U ?_
   refine AWl.p (R_lt U (.no U) U (.tm U) (.tm U)) U ?_
   refine AWl.nil ?_
   refine AW.cond (.tm U) (fun hlt => ?_) (fun hlt => ?_)
   · skip
     try simp at hlt
     obtain ⟨y, hx⟩ : ∃ y, x[k]? = some y := ⟨_, List.getElem?_eq_getElem hlt⟩
     rw [szFold_drop hx] at hf
     refine AW.skip ?_
     refine AW.seq ?_
     refine AW.block ?_
     refine AW.sr ?_
     refine AWl.mv ?_
     refine AWl.mv ?_
     refine AWl.p ((by exact R_indexAddr U (.no U) U (.tm U) (.tm U) Try.underlying27 ty22 (fun _ => ⟨by omega, (by exact map_get (by assumption))⟩))) U ?_
     refine AWl.p (by exact R_load U (.no U) U (.tm U) ty22 U U) U ?_
     refine AWl.mv ?_
     refine AWl.p (R_callz (FnT.fr (HszIntS _ _ (by omega))) U (.no U) U (.cons (.tm U) U (.cons (.tm U) U .nil))) U ?_
     refine AWl.av ?_
     refine AWl.nil (AW.sr ?_)
     refine AWl.mv ?_
     refine AWl.p (R_lt U (.no U) U (.tm U) (.const U)) U ?_
     refine AWl.nil ?_
     refine AW.cond (.tm U) (fun h25 => ?_) (fun h25 => ?_)
     · skip
       try simp at h25
       refine AW.sr ?_
       refine AWl.ac ?_
       refine AWl.nil (AW.ret ?_)
       refine Res.v U U ?_
       unfold szIntSS; rw [if_neg (by omega), hf, if_pos (by omega)]
     · skip
       try simp at h25
       have hb := szIntS_ok y b hk.2.1 hk.2.2
       rw [if_neg (by omega)] at hf
       refine AW.skip ?_
       refine AW.region ?_
       refine AWl.mv ?_
       refine AWl.p (R_add U (.no U) U (.tm U) (.const U) (fun _ => by omega)) U ?_
       refine AWl.av ?_
       refine AWl.nil ?_
       refine Round.next (k + 1, szIntS y b) ⟨⟨by simp only []; omega, by simp only []; omega, by simp only []; omega⟩, hf⟩ (by simp only []; omega) (Le.sub0 rfl ⟨rfl, rfl, rfl, Y⟩ trivial)
   · skip
     try simp at hlt
     refine AW.exit ?_
     refine AW.sr ?_
     refine AWl.mv ?_
     refine AWl.av ?_
     refine AWl.nil (AW.ret ?_)
     refine Res.v U U ?_
     unfold szIntSS; rw [if_neg (by omega), hf, List.drop_eq_nil_of_le (by omega)]; rfl
end Go.Proofs.Ytamnfkfjfelbbaa
