import Derived.Test.YtamnfkfjfelbbaaHAxw
set_option linter.unusedVariables false
set_option linter.unusedSimpArgs false
namespace Go.Proofs.Ytamnfkfjfelbbaa
open Go.RowKit Go.Q Go.D
set_option maxRecDepth 100000 in
theorem HtoEdge (x : TEdge) : FnT Try.prog 54 [.agg (cEdge x)] (.a (.agg (cEdge x))) := by
 refine FnT.walk Try.func54 U (by kernel_rfl) Try.ntmps54 U fun hlen w0 => ?_
 try simp [cPair, cToken, cExpr, cEdge, cGraph, cStep, cWalk, cChange, cBatch, cHistory, cPositions, cAutomaton, cProductStep, cPathAtom, cConjunction, cView, cDelta, cRegistered, cRegistry] at hlen
 refine AW.sr ?_
 refine AWl.p (R_boxz U U U (.tm U) (ts := _) (by rfl)) U ?_
 refine AWl.add (R_alloc 2 U U U in93 U U U) U ?_
 refine AWl.nil (AW.sr ?_)
 refine AWl.add (R_alloc 3 U U U in93 U U U) U ?_
 refine AWl.nil (AW.sr ?_)
 refine AWl.p (by exact R_fieldAddr U (.no U) U (.tm U) fl95_0) U ?_
 refine AWl.p (by exact R_load U (.no U) U (.tm U) ty3 U U) U ?_
 refine AWl.p (by exact R_fieldAddr_pp U (.no U) U (.tm U) fl93_0) U ?_
 refine AWl.chgb (R_store_pb U U U (.tm U) (.tm U) U ty3 U U U (by kernel_rfl) U) ?_
 refine AWl.nil (AW.sr ?_)
 refine AWl.p (by exact R_fieldAddr U (.no U) U (.tm U) fl95_1) U ?_
 refine AWl.p (by exact R_load U (.no U) U (.tm U) ty3 U U) U ?_
 refine AWl.p (by exact R_fieldAddr_pp U (.no U) U (.tm U) fl93_1) U ?_
 refine AWl.chgb (R_store_pb U U U (.tm U) (.tm U) U ty3 U U U (by kernel_rfl) U) ?_
 refine AWl.nil (AW.sr ?_)
 refine AWl.p (by exact R_fieldAddr U (.no U) U (.tm U) fl95_2) U ?_
 refine AWl.p (by exact R_load U (.no U) U (.tm U) ty3 U U) U ?_
 refine AWl.p (by exact R_fieldAddr_pp U (.no U) U (.tm U) fl93_2) U ?_
 refine AWl.chgb (R_store_pb U U U (.tm U) (.tm U) U ty3 U U U (by kernel_rfl) U) ?_
 refine AWl.nil (AW.sr ?_)
 refine AWl.p (by exact R_fieldAddr U (.no U) U (.tm U) fl95_3) U ?_
 refine AWl.p (by exact R_load U (.no U) U (.tm U) ty3 U U) U ?_
 refine AWl.p (by exact R_fieldAddr_pp U (.no U) U (.tm U) fl93_3) U ?_
 refine AWl.chgb (R_store_pb U U U (.tm U) (.tm U) U ty3 U U U (by kernel_rfl) U) ?_
 refine AWl.nil (AW.sr ?_)
 refine AWl.p (by exact R_load_pp U (.no U) U (.tm U) U ty93 U U) U ?_
 refine AWl.chgb (R_store_pb U U U (.tm U) (.tm U) U ty93 U U U (by kernel_rfl) U) ?_
 refine AWl.nil (AW.ret ?_)
 refine Res.one U (.cell U U ty93 U U .nil) U ?_
 rfl
set_option maxRecDepth 100000 in
theorem HeqEdge (x : TEdge) : FnT Try.prog 69 [.agg (cEdge x), .agg (cEdge x)] (.a (.one (.v (.bool true)))) := by
 refine FnT.walk Try.func69 U (by kernel_rfl) Try.ntmps69 U fun hlen w0 => ?_
 try simp [cPair, cToken, cExpr, cEdge, cGraph, cStep, cWalk, cChange, cBatch, cHistory, cPositions, cAutomaton, cProductStep, cPathAtom, cConjunction, cView, cDelta, cRegistered, cRegistry] at hlen
 refine AW.sr ?_
 refine AWl.p (R_boxz U U U (.tm U) (ts := _) (by rfl)) U ?_
 refine AWl.p (R_boxz U U U (.tm U) (ts := _) (by rfl)) U ?_
 refine AWl.ac ?_
 refine AWl.nil (AW.seq ?_)
 refine AW.sr ?_
 refine AWl.p (by exact R_fieldAddr U (.no U) U (.tm U) fl93_0) U ?_
 refine AWl.p (by exact R_load U (.no U) U (.tm U) ty3 U U) U ?_
 refine AWl.p (by exact R_fieldAddr U (.no U) U (.tm U) fl93_0) U ?_
 refine AWl.p (by exact R_load U (.no U) U (.tm U) ty3 U U) U ?_
 refine AWl.p (R_ne U (.no U) U (.tm U) (.tm U)) U ?_
 refine AWl.nil ?_
 refine AW.cond (.tm U) (fun h9 => ?_) (fun h9 => ?_)
 · exact absurd h9 (by simp)
 · skip
   try simp at h9
   refine AW.skip ?_
   refine AW.seq ?_
   refine AW.sr ?_
   refine AWl.p (by exact R_fieldAddr U (.no U) U (.tm U) fl93_1) U ?_
   refine AWl.p (by exact R_load U (.no U) U (.tm U) ty3 U U) U ?_
   refine AWl.p (by exact R_fieldAddr U (.no U) U (.tm U) fl93_1) U ?_
   refine AWl.p (by exact R_load U (.no U) U (.tm U) ty3 U U) U ?_
   refine AWl.p (R_ne U (.no U) U (.tm U) (.tm U)) U ?_
   refine AWl.nil ?_
   refine AW.cond (.tm U) (fun h14 => ?_) (fun h14 => ?_)
   · exact absurd h14 (by simp)
   · skip
     try simp at h14
     refine AW.skip ?_
     refine AW.seq ?_
     refine AW.sr ?_
     refine AWl.p (by exact R_fieldAddr U (.no U) U (.tm U) fl93_2) U ?_
     refine AWl.p (by exact R_load U (.no U) U (.tm U) ty3 U U) U ?_
     refine AWl.p (by exact R_fieldAddr U (.no U) U (.tm U) fl93_2) U ?_
     refine AWl.p (by exact R_load U (.no U) U (.tm U) ty3 U U) U ?_
     refine AWl.p (R_ne U (.no U) U (.tm U) (.tm U)) U ?_
     refine AWl.nil ?_
     refine AW.cond (.tm U) (fun h19 => ?_) (fun h19 => ?_)
     · exact absurd h19 (by simp)
     · skip
       try simp at h19
       refine AW.skip ?_
       refine AW.seq ?_
       refine AW.sr ?_
       refine AWl.p (by exact R_fieldAddr U (.no U) U (.tm U) fl93_3) U ?_
       refine AWl.p (by exact R_load U (.no U) U (.tm U) ty3 U U) U ?_
       refine AWl.p (by exact R_fieldAddr U (.no U) U (.tm U) fl93_3) U ?_
       refine AWl.p (by exact R_load U (.no U) U (.tm U) ty3 U U) U ?_
       refine AWl.p (R_ne U (.no U) U (.tm U) (.tm U)) U ?_
       refine AWl.nil ?_
       refine AW.cond (.tm U) (fun h24 => ?_) (fun h24 => ?_)
       · exact absurd h24 (by simp)
       · skip
         try simp at h24
         refine AW.skip ?_
         refine AW.sr ?_
         refine AWl.ac ?_
         refine AWl.nil (AW.ret ?_)
         refine Res.v U U ?_
         rfl
set_option maxRecDepth 100000 in
theorem HtoEdgeS (x : (List TEdge)) (hz : okEdgeS x) : FnT Try.prog 27 [.one (.sl 4 (x.map cEdge))] (.a (.one (.sl 4 (x.map cEdge)))) := by
 refine FnT.walk Try.func27 U (by kernel_rfl) Try.ntmps27 U fun hlen w0 => ?_
 try simp [cPair, cToken, cExpr, cEdge, cGraph, cStep, cWalk, cChange, cBatch, cHistory, cPositions, cAutomaton, cProductStep, cPathAtom, cConjunction, cView, cDelta, cRegistered, cRegistry] at hlen
 have hz0 : x.length ≤ 1048576 := hz
 refine AW.sr ?_
 refine AWl.ac ?_
 refine AWl.nil (AW.sr ?_)
 refine AWl.mv ?_
 refine AWl.p (by exact R_lenm U (.no U) U (.tm U) (by exact .t) Try.underlying23) U ?_
 refine AWl.add (R_makeSlice 7 U U U (.tm U) Try.underlying37 in93 U U U U (by omega)) U ?_
 refine AWl.av ?_
 refine AWl.nil (AW.seq ?_)
 refine AW.sr ?_
 refine AWl.ac ?_
 refine AWl.nil (AW.block ?_)
 refine AW.loop (β := Nat) (fun i => i ≤ x.length) (fun i => ⟨_, [(4, (true, .a (.one (.t (.v (.int .i64 (i : Nat))))))), (0, _), (2, _), (3, _)], [(7, .row 4 ((x.take i).map cEdge ++ List.replicate (x.length - i) [.v (.int .i64 0), .v (.int .i64 0), .v (.int .i64 0), .v (.int .i64 0)]))]⟩) (fun i => x.length - i) (0) (Nat.zero_le _) (Le.sub0 U ⟨U, U, U, U, Y⟩ ⟨U, Y⟩) ?_
 intro k hk
 refine AW.seq ?_
 refine AW.sr ?_
 refine AWl.mv ?_
 refine AWl.mv ?_
 refine AWl.p (by exact R_lenm U (.no U) U (.tm U) (by exact .t) Try.underlying23) U ?_
 refine AWl.p (R_lt U (.no U) U (.tm U) (.tm U)) U ?_
 refine AWl.nil ?_
 refine AW.cond (.tm U) (fun hlt => ?_) (fun hlt => ?_)
 · skip
   try simp at hlt
   obtain ⟨y, hx⟩ : ∃ y, x[k]? = some y := ⟨_, List.getElem?_eq_getElem hlt⟩
   refine AW.skip ?_
   refine AW.seq ?_
   refine AW.block ?_
   refine AW.region ?_
   refine AWl.mv ?_
   refine AWl.mv ?_
   refine AWl.mv ?_
   refine AWl.mv ?_
   refine AWl.p ((by exact R_indexAddr U (.no U) U (.tm U) (.tm U) Try.underlying23 ty95 (fun _ => ⟨by omega, (by exact map_get (by assumption))⟩))) U ?_
   refine AWl.p (by exact R_load U (.no U) U (.tm U) ty95 U U) U ?_
   refine AWl.p (R_callz (FnT.fr (HtoEdge _)) U (.no U) U (.cons (.tm U) U .nil)) U ?_
   refine AWl.p (by exact R_indexAddr_rf U (.no U) U (.tm U) U (.tm U) Try.underlying37 ty93 (fun _ => ⟨by omega, made_at hlt⟩)) U ?_
   refine AWl.absupd (R_store_pr U U U (.tm U) U (.tm U) U (made_at hlt) ty93 U U U U) ?_
   refine AWl.nil (AW.region ?_)
   refine AWl.mv ?_
   refine AWl.p (R_add U (.no U) U (.tm U) (.const U) (fun _ => by omega)) U ?_
   refine AWl.av ?_
   refine AWl.nil ?_
   refine Round.next (k + 1) (by omega) (by omega) (Le.sub0 rfl ⟨rfl, rfl, rfl, rfl, Y⟩ ⟨congrArg (fun r => some (R.row 4 r)) (set_made hx), Y⟩)
 · skip
   try simp at hlt
   refine AW.exit ?_
   refine AW.sr ?_
   refine AWl.mv ?_
   refine AWl.av ?_
   refine AWl.nil (AW.ret ?_)
   refine Res.one U (.tmp U .nil) U ?_
   exact congrArg (fun r => [V0.one (T.sl 4 r)]) (made_end (by omega))
set_option maxRecDepth 100000 in
theorem HeqEdgeS (x : (List TEdge)) : FnT Try.prog 39 [.one (.sl 4 (x.map cEdge)), .one (.sl 4 (x.map cEdge))] (.a (.one (.v (.bool true)))) := by
 refine FnT.walk Try.func39 U (by kernel_rfl) Try.ntmps39 U fun hlen w0 => ?_
 try simp [cPair, cToken, cExpr, cEdge, cGraph, cStep, cWalk, cChange, cBatch, cHistory, cPositions, cAutomaton, cProductStep, cPathAtom, cConjunction, cView, cDelta, cRegistered, cRegistry] at hlen
 refine AW.sr ?_
 refine AWl.ac ?_
 refine AWl.nil (AW.seq ?_)
 refine AW.sr ?_
 refine AWl.mv ?_
 refine AWl.p (by exact R_lenm U (.no U) U (.tm U) (by exact .t) Try.underlying37) U ?_
 refine AWl.mv ?_
 refine AWl.p (by exact R_lenm U (.no U) U (.tm U) (by exact .t) Try.underlying37) U ?_
 refine AWl.p (R_ne U (.no U) U (.tm U) (.tm U)) U ?_
 refine AWl.nil ?_
 refine AW.cond (.tm U) (fun h10 => ?_) (fun h10 => ?_)
 · exact absurd h10 (by simp)
 · skip
   try simp at h10
   refine AW.skip ?_
   refine AW.seq ?_
   refine AW.sr ?_
   refine AWl.ac ?_
   refine AWl.nil (AW.block ?_)
   refine AW.loop (β := Nat) (fun i => i ≤ x.length) (fun i => ⟨_, [(5, (true, .a (.one (.t (.v (.int .i64 (i : Nat))))))), (0, _), (1, _)], []⟩) (fun i => x.length - i) (0) (Nat.zero_le _) (Le.sub0 U ⟨U, U, U, Y⟩ trivial) ?_
   intro k hk
   refine AW.seq ?_
   refine AW.sr ?_
   refine AWl.mv ?_
   refine AWl.mv ?_
   refine AWl.p (by exact R_lenm U (.no U) U (.tm U) (by exact .t) Try.underlying37) U ?_
   refine AWl.p (R_lt U (.no U) U (.tm U) (.tm U)) U ?_
   refine AWl.nil ?_
   refine AW.cond (.tm U) (fun hlt => ?_) (fun hlt => ?_)
   · skip
     try simp at hlt
     obtain ⟨y, hx⟩ : ∃ y, x[k]? = some y := ⟨_, List.getElem?_eq_getElem hlt⟩
     refine AW.skip ?_
     refine AW.seq ?_
     refine AW.block ?_
     refine AW.seq ?_
     refine AW.drawn 10 (nthB [[], [], [0, 1], [0, 1, 2], [], [], [4, 5], [4, 5, 6], [0, 1, 2, 3, 4, 5, 6, 7], [0, 1, 2, 3, 4, 5, 6, 7, 8]]) (by kernel_rfl) (by kernel_rfl) (by kernel_rfl) ?_
     refine DrawC.step U U U (Loc.of U fun σ' hs => R_move U (.no U) (hd_sup hs U) (.tm (hs.slots _ _ U))) ?_
     refine DrawC.step U U U (Loc.of U fun σ' hs => R_move U (.no U) (hd_sup hs U) (.tm (hs.slots _ _ U))) ?_
     refine DrawC.step U U U (Loc.of U fun σ' hs => (by exact R_indexAddr U (.no U) (hd_sup hs U) (.tm (hs.slots _ _ U)) (.tm (hs.slots _ _ U)) Try.underlying37 ty93 (fun _ => ⟨by omega, (by exact map_get (by assumption))⟩))) ?_
     refine DrawC.step U U U (Loc.of U fun σ' hs => (by exact R_load U (.no U) (hd_sup hs U) (.tm (hs.slots _ _ U)) ty93 U U)) ?_
     refine DrawC.step U U U (Loc.of U fun σ' hs => R_move U (.no U) (hd_sup hs U) (.tm (hs.slots _ _ U))) ?_
     refine DrawC.step U U U (Loc.of U fun σ' hs => R_move U (.no U) (hd_sup hs U) (.tm (hs.slots _ _ U))) ?_
     refine DrawC.step U U U (Loc.of U fun σ' hs => (by exact R_indexAddr U (.no U) (hd_sup hs U) (.tm (hs.slots _ _ U)) (.tm (hs.slots _ _ U)) Try.underlying37 ty93 (fun _ => ⟨by omega, (by exact map_get (by assumption))⟩))) ?_
     refine DrawC.step U U U (Loc.of U fun σ' hs => (by exact R_load U (.no U) (hd_sup hs U) (.tm (hs.slots _ _ U)) ty93 U U)) ?_
     refine DrawC.step U U U (Loc.of U fun σ' hs => R_callz (FnT.fr (HeqEdge _)) U (.no U) (hd_sup hs U) (.cons (.tm (hs.slots _ _ U)) (readA_sup hs U) (.cons (.tm (hs.slots _ _ U)) (readA_sup hs U) .nil))) ?_
     refine DrawC.step U U U (Loc.of U fun σ' hs => R_not U (.no U) (hd_sup hs U) (.tm (hs.slots _ _ U))) ?_
     refine DrawC.fin U U ?_
     refine AWl.nil ?_
     refine AW.cond (.tm U) (fun h26 => ?_) (fun h26 => ?_)
     · exact absurd h26 (by simp)
     · skip
       try simp at h26
       refine AW.skip ?_
       refine AW.region ?_
       refine AWl.mv ?_
       refine AWl.p (R_add U (.no U) U (.tm U) (.const U) (fun _ => by omega)) U ?_
       refine AWl.av ?_
       refine AWl.nil ?_
       refine Round.next (k + 1) (by omega) (by omega) (Le.sub0 rfl ⟨rfl, rfl, rfl, Y⟩ trivial)
   · skip
     try simp at hlt
     refine AW.exit ?_
     refine AW.sr ?_
     refine AWl.ac ?_
     refine AWl.nil (AW.ret ?_)
     refine Res.v U U ?_
     rfl
set_option maxRecDepth 100000 in
theorem HszEdgeS (x : (List TEdge)) (a : Int) (ha : 0 ≤ a ∧ a ≤ 1048576) : FnT Try.prog 18 [.one (.sl 4 (x.map cEdge)), .one (.v (.int .i64 a))] (.a (.one (.v (.int .i64 (szEdgeS x a))))) := by
 refine FnT.walk Try.func18 U (by kernel_rfl) Try.ntmps18 U fun hlen w0 => ?_
 try simp [cPair, cToken, cExpr, cEdge, cGraph, cStep, cWalk, cChange, cBatch, cHistory, cPositions, cAutomaton, cProductStep, cPathAtom, cConjunction, cView, cDelta, cRegistered, cRegistry] at hlen
 refine AW.sr ?_
 refine AWl.ac ?_
 refine AWl.nil (AW.sr ?_)
 refine AWl.mv ?_
 refine AWl.mv ?_
 refine AWl.p (by exact R_lenm U (.no U) U (.tm U) (by exact .t) Try.underlying23) U ?_
 refine AWl.p (R_sub U (.no U) U (.tm U) (.tm U) (fun _ => by omega)) U ?_
 refine AWl.av ?_
 refine AWl.nil (AW.seq ?_)
 refine AW.sr ?_
 refine AWl.mv ?_
 refine AWl.p (R_lt U (.no U) U (.tm U) (.const U)) U ?_
 refine AWl.nil ?_
 refine AW.cond (.tm U) (fun h10 => ?_) (fun h10 => ?_)
 · skip
   try simp at h10
   refine AW.sr ?_
   refine AWl.ac ?_
   refine AWl.nil (AW.ret ?_)
   refine Res.v U U ?_
   simp [szEdgeS, szL]; omega
 · skip
   try simp at h10
   refine AW.skip ?_
   refine AW.sr ?_
   refine AWl.mv ?_
   refine AWl.av ?_
   refine AWl.nil (AW.ret ?_)
   refine Res.v U U ?_
   simp [szEdgeS, szL]; omega
set_option maxRecDepth 100000 in
theorem HtoGraph (x : TGraph) (hz : okGraph x) : FnT Try.prog 7 [.agg (cGraph x)] (.a (.agg (cGraph x))) := by
 refine FnT.walk Try.func7 U (by kernel_rfl) Try.ntmps7 U fun hlen w0 => ?_
 try simp [cPair, cToken, cExpr, cEdge, cGraph, cStep, cWalk, cChange, cBatch, cHistory, cPositions, cAutomaton, cProductStep, cPathAtom, cConjunction, cView, cDelta, cRegistered, cRegistry] at hlen
 refine AW.sr ?_
 refine AWl.p (R_boxz U U U (.tm U) (ts := _) (by rfl)) U ?_
 refine AWl.add (R_alloc 2 U U U in39 U U U) U ?_
 refine AWl.nil (AW.sr ?_)
 refine AWl.add (R_alloc 3 U U U in39 U U U) U ?_
 refine AWl.nil (AW.sr ?_)
 refine AWl.p (by exact R_fieldAddr U (.no U) U (.tm U) fl25_0) U ?_
 refine AWl.p (by exact R_load U (.no U) U (.tm U) ty22 U U) U ?_
 refine AWl.adds (R_call 600 (HtoIntS _ (by exact hz.1)) U U U (.cons (.tm U) U .nil) U U) U ?_
 refine AWl.p (by exact R_fieldAddr_pp U (.no U) U (.tm U) fl39_0) U ?_
 refine AWl.chgb (R_store_pb U U U (.tm U) (.tm U) U ty22 U U U (by kernel_rfl) U) ?_
 refine AWl.nil (AW.sr ?_)
 refine AWl.p (by exact R_fieldAddr U (.no U) U (.tm U) fl25_1) U ?_
 refine AWl.p (by exact R_load U (.no U) U (.tm U) ty23 U U) U ?_
 refine AWl.adds (R_call 1000 (HtoEdgeS _ (by exact hz.2.1)) U U U (.cons (.tm U) U .nil) U U) U ?_
 refine AWl.p (by exact R_fieldAddr_pp U (.no U) U (.tm U) fl39_1) U ?_
 refine AWl.chgb (R_store_pb U U U (.tm U) (.tm U) U ty37 U U U (by kernel_rfl) U) ?_
 refine AWl.nil (AW.sr ?_)
 refine AWl.p (by exact R_load_pp U (.no U) U (.tm U) U ty39 U U) U ?_
 refine AWl.chgb (R_store_pb U U U (.tm U) (.tm U) U ty39 U U U (by kernel_rfl) U) ?_
 refine AWl.nil (AW.ret ?_)
 refine Res.one U (.cell U U ty39 U U .nil) U ?_
 rfl
set_option maxRecDepth 100000 in
theorem HeqGraph (x : TGraph) : FnT Try.prog 11 [.agg (cGraph x), .agg (cGraph x)] (.a (.one (.v (.bool true)))) := by
 refine FnT.walk Try.func11 U (by kernel_rfl) Try.ntmps11 U fun hlen w0 => ?_
 try simp [cPair, cToken, cExpr, cEdge, cGraph, cStep, cWalk, cChange, cBatch, cHistory, cPositions, cAutomaton, cProductStep, cPathAtom, cConjunction, cView, cDelta, cRegistered, cRegistry] at hlen
 refine AW.sr ?_
 refine AWl.p (R_boxz U U U (.tm U) (ts := _) (by rfl)) U ?_
 refine AWl.p (R_boxz U U U (.tm U) (ts := _) (by rfl)) U ?_
 refine AWl.ac ?_
 refine AWl.nil (AW.seq ?_)
 refine AW.sr ?_
 refine AWl.p (by exact R_fieldAddr U (.no U) U (.tm U) fl39_0) U ?_
 refine AWl.p (by exact R_load U (.no U) U (.tm U) ty22 U U) U ?_
 refine AWl.p (by exact R_fieldAddr U (.no U) U (.tm U) fl39_0) U ?_
 refine AWl.p (by exact R_load U (.no U) U (.tm U) ty22 U U) U ?_
 refine AWl.p (R_callz (FnT.fr (HeqIntS _)) U (.no U) U (.cons (.tm U) U (.cons (.tm U) U .nil))) U ?_
 refine AWl.p (R_not U (.no U) U (.tm U)) U ?_
 refine AWl.nil ?_
 refine AW.cond (.tm U) (fun h10 => ?_) (fun h10 => ?_)
 · exact absurd h10 (by simp)
 · skip
   try simp at h10
   refine AW.skip ?_
   refine AW.seq ?_
   refine AW.sr ?_
   refine AWl.p (by exact R_fieldAddr U (.no U) U (.tm U) fl39_1) U ?_
   refine AWl.p (by exact R_load U (.no U) U (.tm U) ty37 U U) U ?_
   refine AWl.p (by exact R_fieldAddr U (.no U) U (.tm U) fl39_1) U ?_
   refine AWl.p (by exact R_load U (.no U) U (.tm U) ty37 U U) U ?_
   refine AWl.p (R_callz (FnT.fr (HeqEdgeS _)) U (.no U) U (.cons (.tm U) U (.cons (.tm U) U .nil))) U ?_
   refine AWl.p (R_not U (.no U) U (.tm U)) U ?_
   refine AWl.nil ?_
   refine AW.cond (.tm U) (fun h16 => ?_) (fun h16 => ?_)
   · exact absurd h16 (by simp)
   · skip
     try simp at h16
     refine AW.skip ?_
     refine AW.sr ?_
     refine AWl.ac ?_
     refine AWl.nil (AW.ret ?_)
     refine Res.v U U ?_
     rfl
set_option maxRecDepth 100000 in
theorem HszGraph (x : TGraph) (a : Int) (ha : 0 ≤ a ∧ a ≤ 1048576) : FnT Try.prog 4 [.agg (cGraph x), .one (.v (.int .i64 a))] (.a (.one (.v (.int .i64 (szGraph x a))))) := by
 refine FnT.walk Try.func4 U (by kernel_rfl) Try.ntmps4 U fun hlen w0 => ?_
 try simp [cPair, cToken, cExpr, cEdge, cGraph, cStep, cWalk, cChange, cBatch, cHistory, cPositions, cAutomaton, cProductStep, cPathAtom, cConjunction, cView, cDelta, cRegistered, cRegistry] at hlen
 have hb0 := szIntS_ok x.Values a
 have hb1 := szEdgeS_ok x.Edges (szIntS x.Values a)
 refine AW.sr ?_
 refine AWl.p (R_boxz U U U (.tm U) (ts := _) (by rfl)) U ?_
 refine AWl.ac ?_
 refine AWl.nil (AW.sr ?_)
 refine AWl.p (by exact R_fieldAddr U (.no U) U (.tm U) fl25_0) U ?_
 refine AWl.p (by exact R_load U (.no U) U (.tm U) ty22 U U) U ?_
 refine AWl.mv ?_
 refine AWl.p (R_callz (FnT.fr (HszIntS _ _ (by omega))) U (.no U) U (.cons (.tm U) U (.cons (.tm U) U .nil))) U ?_
 refine AWl.av ?_
 refine AWl.nil (AW.seq ?_)
 refine AW.sr ?_
 refine AWl.mv ?_
 refine AWl.p (R_lt U (.no U) U (.tm U) (.const U)) U ?_
 refine AWl.nil ?_
 refine AW.cond (.tm U) (fun h10 => ?_) (fun h10 => ?_)
 · skip
   try simp at h10
   refine AW.sr ?_
   refine AWl.ac ?_
   refine AWl.nil (AW.ret ?_)
   refine Res.v U U ?_
   simp only [szGraph, szSeq]; grind
 · skip
   try simp at h10
   refine AW.skip ?_
   refine AW.sr ?_
   refine AWl.p (by exact R_fieldAddr U (.no U) U (.tm U) fl25_1) U ?_
   refine AWl.p (by exact R_load U (.no U) U (.tm U) ty23 U U) U ?_
   refine AWl.mv ?_
   refine AWl.p (R_callz (FnT.fr (HszEdgeS _ _ (by omega))) U (.no U) U (.cons (.tm U) U (.cons (.tm U) U .nil))) U ?_
   refine AWl.av ?_
   refine AWl.nil (AW.seq ?_)
   refine AW.sr ?_
   refine AWl.mv ?_
   refine AWl.p (R_lt U (.no U) U (.tm U) (.const U)) U ?_
   refine AWl.nil ?_
   refine AW.cond (.tm U) (fun h16 => ?_) (fun h16 => ?_)
   · skip
     try simp at h16
     refine AW.sr ?_
     refine AWl.ac ?_
     refine AWl.nil (AW.ret ?_)
     refine Res.v U U ?_
     simp only [szGraph, szSeq]; grind
   · skip
     try simp at h16
     refine AW.skip ?_
     refine AW.sr ?_
     refine AWl.mv ?_
     refine AWl.av ?_
     refine AWl.nil (AW.ret ?_)
     refine Res.v U U ?_
     simp only [szGraph, szSeq]; grind
set_option maxRecDepth 100000 in
theorem HeqStep (x : TStep) : FnT Try.prog 68 [.agg (cStep x), .agg (cStep x)] (.a (.one (.v (.bool true)))) := by
 refine FnT.walk Try.func68 U (by kernel_rfl) Try.ntmps68 U fun hlen w0 => ?_
 try simp [cPair, cToken, cExpr, cEdge, cGraph, cStep, cWalk, cChange, cBatch, cHistory, cPositions, cAutomaton, cProductStep, cPathAtom, cConjunction, cView, cDelta, cRegistered, cRegistry] at hlen
 refine AW.sr ?_
 refine AWl.p (R_boxz U U U (.tm U) (ts := _) (by rfl)) U ?_
 refine AWl.p (R_boxz U U U (.tm U) (ts := _) (by rfl)) U ?_
 refine AWl.ac ?_
 refine AWl.nil (AW.seq ?_)
 refine AW.sr ?_
 refine AWl.p (by exact R_fieldAddr U (.no U) U (.tm U) fl59_0) U ?_
 refine AWl.p (by exact R_load U (.no U) U (.tm U) ty3 U U) U ?_
 refine AWl.p (by exact R_fieldAddr U (.no U) U (.tm U) fl59_0) U ?_
 refine AWl.p (by exact R_load U (.no U) U (.tm U) ty3 U U) U ?_
 refine AWl.p (R_ne U (.no U) U (.tm U) (.tm U)) U ?_
 refine AWl.nil ?_
 refine AW.cond (.tm U) (fun h9 => ?_) (fun h9 => ?_)
 · exact absurd h9 (by simp)
 · skip
   try simp at h9
   refine AW.skip ?_
   refine AW.seq ?_
   refine AW.sr ?_
   refine AWl.p (by exact R_fieldAddr U (.no U) U (.tm U) fl59_1) U ?_
   refine AWl.p (by exact R_load U (.no U) U (.tm U) ty4 U U) U ?_
   refine AWl.p (by exact R_fieldAddr U (.no U) U (.tm U) fl59_1) U ?_
   refine AWl.p (by exact R_load U (.no U) U (.tm U) ty4 U U) U ?_
   refine AWl.p (R_neb U (.no U) U (.tm U) (.tm U) Try.underlying4) U ?_
   refine AWl.nil ?_
   refine AW.cond (.tm U) (fun h14 => ?_) (fun h14 => ?_)
   · exact absurd h14 (by simp)
   · skip
     try simp at h14
     refine AW.skip ?_
     refine AW.sr ?_
     refine AWl.ac ?_
     refine AWl.nil (AW.ret ?_)
     refine Res.v U U ?_
     rfl
set_option maxRecDepth 100000 in
theorem HeqStepS (x : (List TStep)) : FnT Try.prog 37 [.one (.sl 2 (x.map cStep)), .one (.sl 2 (x.map cStep))] (.a (.one (.v (.bool true)))) := by
 refine FnT.walk Try.func37 U (by kernel_rfl) Try.ntmps37 U fun hlen w0 => ?_
 try simp [cPair, cToken, cExpr, cEdge, cGraph, cStep, cWalk, cChange, cBatch, cHistory, cPositions, cAutomaton, cProductStep, cPathAtom, cConjunction, cView, cDelta, cRegistered, cRegistry] at hlen
 refine AW.sr ?_
 refine AWl.ac ?_
 refine AWl.nil (AW.seq ?_)
 refine AW.sr ?_
 refine AWl.mv ?_
 refine AWl.p (by exact R_lenm U (.no U) U (.tm U) (by exact .t) Try.underlying32) U ?_
 refine AWl.mv ?_
 refine AWl.p (by exact R_lenm U (.no U) U (.tm U) (by exact .t) Try.underlying32) U ?_
 refine AWl.p (R_ne U (.no U) U (.tm U) (.tm U)) U ?_
 refine AWl.nil ?_
 refine AW.cond (.tm U) (fun h10 => ?_) (fun h10 => ?_)
 · exact absurd h10 (by simp)
 · skip
   try simp at h10
   refine AW.skip ?_
   refine AW.seq ?_
   refine AW.sr ?_
   refine AWl.ac ?_
   refine AWl.nil (AW.block ?_)
   refine AW.loop (β := Nat) (fun i => i ≤ x.length) (fun i => ⟨_, [(5, (true, .a (.one (.t (.v (.int .i64 (i : Nat))))))), (0, _), (1, _)], []⟩) (fun i => x.length - i) (0) (Nat.zero_le _) (Le.sub0 U ⟨U, U, U, Y⟩ trivial) ?_
   intro k hk
   refine AW.seq ?_
   refine AW.sr ?_
   refine AWl.mv ?_
   refine AWl.mv ?_
   refine AWl.p (by exact R_lenm U (.no U) U (.tm U) (by exact .t) Try.underlying32) U ?_
   refine AWl.p (R_lt U (.no U) U (.tm U) (.tm U)) U ?_
   refine AWl.nil ?_
   refine AW.cond (.tm U) (fun hlt => ?_) (fun hlt => ?_)
   · skip
     try simp at hlt
     obtain ⟨y, hx⟩ : ∃ y, x[k]? = some y := ⟨_, List.getElem?_eq_getElem hlt⟩
     refine AW.skip ?_
     refine AW.seq ?_
     refine AW.block ?_
     refine AW.seq ?_
     refine AW.drawn 10 (nthB [[], [], [0, 1], [0, 1, 2], [], [], [4, 5], [4, 5, 6], [0, 1, 2, 3, 4, 5, 6, 7], [0, 1, 2, 3, 4, 5, 6, 7, 8]]) (by kernel_rfl) (by kernel_rfl) (by kernel_rfl) ?_
     refine DrawC.step U U U (Loc.of U fun σ' hs => R_move U (.no U) (hd_sup hs U) (.tm (hs.slots _ _ U))) ?_
     refine DrawC.step U U U (Loc.of U fun σ' hs => R_move U (.no U) (hd_sup hs U) (.tm (hs.slots _ _ U))) ?_
     refine DrawC.step U U U (Loc.of U fun σ' hs => (by exact R_indexAddr U (.no U) (hd_sup hs U) (.tm (hs.slots _ _ U)) (.tm (hs.slots _ _ U)) Try.underlying32 ty59 (fun _ => ⟨by omega, (by exact map_get (by assumption))⟩))) ?_
     refine DrawC.step U U U (Loc.of U fun σ' hs => (by exact R_load U (.no U) (hd_sup hs U) (.tm (hs.slots _ _ U)) ty59 U U)) ?_
     refine DrawC.step U U U (Loc.of U fun σ' hs => R_move U (.no U) (hd_sup hs U) (.tm (hs.slots _ _ U))) ?_
     refine DrawC.step U U U (Loc.of U fun σ' hs => R_move U (.no U) (hd_sup hs U) (.tm (hs.slots _ _ U))) ?_
     refine DrawC.step U U U (Loc.of U fun σ' hs => (by exact R_indexAddr U (.no U) (hd_sup hs U) (.tm (hs.slots _ _ U)) (.tm (hs.slots _ _ U)) Try.underlying32 ty59 (fun _ => ⟨by omega, (by exact map_get (by assumption))⟩))) ?_
     refine DrawC.step U U U (Loc.of U fun σ' hs => (by exact R_load U (.no U) (hd_sup hs U) (.tm (hs.slots _ _ U)) ty59 U U)) ?_
     refine DrawC.step U U U (Loc.of U fun σ' hs => R_callz (FnT.fr (HeqStep _)) U (.no U) (hd_sup hs U) (.cons (.tm (hs.slots _ _ U)) (readA_sup hs U) (.cons (.tm (hs.slots _ _ U)) (readA_sup hs U) .nil))) ?_
     refine DrawC.step U U U (Loc.of U fun σ' hs => R_not U (.no U) (hd_sup hs U) (.tm (hs.slots _ _ U))) ?_
     refine DrawC.fin U U ?_
     refine AWl.nil ?_
     refine AW.cond (.tm U) (fun h26 => ?_) (fun h26 => ?_)
     · exact absurd h26 (by simp)
     · skip
       try simp at h26
       refine AW.skip ?_
       refine AW.region ?_
       refine AWl.mv ?_
       refine AWl.p (R_add U (.no U) U (.tm U) (.const U) (fun _ => by omega)) U ?_
       refine AWl.av ?_
       refine AWl.nil ?_
       refine Round.next (k + 1) (by omega) (by omega) (Le.sub0 rfl ⟨rfl, rfl, rfl, Y⟩ trivial)
   · skip
     try simp at hlt
     refine AW.exit ?_
     refine AW.sr ?_
     refine AWl.ac ?_
     refine AWl.nil (AW.ret ?_)
     refine Res.v U U ?_
     rfl
set_option maxRecDepth 100000 in
theorem HeqWalk (x : TWalk) : FnT Try.prog 10 [.agg (cWalk x), .agg (cWalk x)] (.a (.one (.v (.bool true)))) := by
 refine FnT.walk Try.func10 U (by kernel_rfl) Try.ntmps10 U fun hlen w0 => ?_
 try simp [cPair, cToken, cExpr, cEdge, cGraph, cStep, cWalk, cChange, cBatch, cHistory, cPositions, cAutomaton, cProductStep, cPathAtom, cConjunction, cView, cDelta, cRegistered, cRegistry] at hlen
 refine AW.sr ?_
 refine AWl.p (R_boxz U U U (.tm U) (ts := _) (by rfl)) U ?_
 refine AWl.p (R_boxz U U U (.tm U) (ts := _) (by rfl)) U ?_
 refine AWl.ac ?_
 refine AWl.nil (AW.seq ?_)
 refine AW.sr ?_
 refine AWl.p (by exact R_fieldAddr U (.no U) U (.tm U) fl34_0) U ?_
 refine AWl.p (by exact R_load U (.no U) U (.tm U) ty3 U U) U ?_
 refine AWl.p (by exact R_fieldAddr U (.no U) U (.tm U) fl34_0) U ?_
 refine AWl.p (by exact R_load U (.no U) U (.tm U) ty3 U U) U ?_
 refine AWl.p (R_ne U (.no U) U (.tm U) (.tm U)) U ?_
 refine AWl.nil ?_
 refine AW.cond (.tm U) (fun h9 => ?_) (fun h9 => ?_)
 · exact absurd h9 (by simp)
 · skip
   try simp at h9
   refine AW.skip ?_
   refine AW.seq ?_
   refine AW.sr ?_
   refine AWl.p (by exact R_fieldAddr U (.no U) U (.tm U) fl34_1) U ?_
   refine AWl.p (by exact R_load U (.no U) U (.tm U) ty32 U U) U ?_
   refine AWl.p (by exact R_fieldAddr U (.no U) U (.tm U) fl34_1) U ?_
   refine AWl.p (by exact R_load U (.no U) U (.tm U) ty32 U U) U ?_
   refine AWl.p (R_callz (FnT.fr (HeqStepS _)) U (.no U) U (.cons (.tm U) U (.cons (.tm U) U .nil))) U ?_
   refine AWl.p (R_not U (.no U) U (.tm U)) U ?_
   refine AWl.nil ?_
   refine AW.cond (.tm U) (fun h15 => ?_) (fun h15 => ?_)
   · exact absurd h15 (by simp)
   · skip
     try simp at h15
     refine AW.skip ?_
     refine AW.sr ?_
     refine AWl.ac ?_
     refine AWl.nil (AW.ret ?_)
     refine Res.v U U ?_
     rfl
end Go.Proofs.Ytamnfkfjfelbbaa
