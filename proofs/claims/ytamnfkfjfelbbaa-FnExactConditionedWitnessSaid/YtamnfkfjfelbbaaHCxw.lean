import Derived.Test.YtamnfkfjfelbbaaHAxw
set_option linter.unusedVariables false
set_option linter.unusedSimpArgs false
namespace Go.Proofs.Ytamnfkfjfelbbaa
open Go.RowKit Go.Q Go.D
set_option maxRecDepth 100000 in
theorem HtoAutomaton (x : TAutomaton) (hz : okAutomaton x) : FnT Try.prog 8 [.agg (cAutomaton x)] (.a (.agg (cAutomaton x))) := by
 refine FnT.walk Try.func8 U (by kernel_rfl) Try.ntmps8 U fun hlen w0 => ?_
 try simp [cPair, cToken, cExpr, cEdge, cGraph, cStep, cWalk, cChange, cBatch, cHistory, cPositions, cAutomaton, cProductStep, cPathAtom, cConjunction, cView, cDelta, cRegistered, cRegistry] at hlen
 refine AW.sr ?_
 refine AWl.p (R_boxz U U U (.tm U) (ts := _) (by rfl)) U ?_
 refine AWl.add (R_alloc 2 U U U in41 U U U) U ?_
 refine AWl.nil (AW.sr ?_)
 refine AWl.add (R_alloc 3 U U U in41 U U U) U ?_
 refine AWl.nil (AW.sr ?_)
 refine AWl.p (by exact R_fieldAddr U (.no U) U (.tm U) fl29_0) U ?_
 refine AWl.p (by exact R_load U (.no U) U (.tm U) ty3 U U) U ?_
 refine AWl.p (by exact R_fieldAddr_pp U (.no U) U (.tm U) fl41_0) U ?_
 refine AWl.chgb (R_store_pb U U U (.tm U) (.tm U) U ty3 U U U (by kernel_rfl) U) ?_
 refine AWl.nil (AW.sr ?_)
 refine AWl.p (by exact R_fieldAddr U (.no U) U (.tm U) fl29_1) U ?_
 refine AWl.p (by exact R_load U (.no U) U (.tm U) ty26 U U) U ?_
 refine AWl.adds (R_call 900 (HtoBoolS _ (by exact hz.1)) U U U (.cons (.tm U) U .nil) U U) U ?_
 refine AWl.p (by exact R_fieldAddr_pp U (.no U) U (.tm U) fl41_1) U ?_
 refine AWl.chgb (R_store_pb U U U (.tm U) (.tm U) U ty26 U U U (by kernel_rfl) U) ?_
 refine AWl.nil (AW.sr ?_)
 refine AWl.p (by exact R_fieldAddr U (.no U) U (.tm U) fl29_2) U ?_
 refine AWl.p (by exact R_load U (.no U) U (.tm U) ty27 U U) U ?_
 refine AWl.adds (R_call 1300 (HtoIntSS _ (by exact hz.2.1)) U U U (.cons (.tm U) U .nil) U U) U ?_
 refine AWl.p (by exact R_fieldAddr_pp U (.no U) U (.tm U) fl41_2) U ?_
 refine AWl.chgb (R_store_pb U U U (.tm U) (.tm U) U ty27 U U U (by kernel_rfl) U) ?_
 refine AWl.nil (AW.sr ?_)
 refine AWl.p (by exact R_load_pp U (.no U) U (.tm U) U ty41 U U) U ?_
 refine AWl.chgb (R_store_pb U U U (.tm U) (.tm U) U ty41 U U U (by kernel_rfl) U) ?_
 refine AWl.nil (AW.ret ?_)
 refine Res.one U (.cell U U ty41 U U .nil) U ?_
 rfl
set_option maxRecDepth 100000 in
theorem HeqAutomaton (x : TAutomaton) : FnT Try.prog 12 [.agg (cAutomaton x), .agg (cAutomaton x)] (.a (.one (.v (.bool true)))) := by
 refine FnT.walk Try.func12 U (by kernel_rfl) Try.ntmps12 U fun hlen w0 => ?_
 try simp [cPair, cToken, cExpr, cEdge, cGraph, cStep, cWalk, cChange, cBatch, cHistory, cPositions, cAutomaton, cProductStep, cPathAtom, cConjunction, cView, cDelta, cRegistered, cRegistry] at hlen
 refine AW.sr ?_
 refine AWl.p (R_boxz U U U (.tm U) (ts := _) (by rfl)) U ?_
 refine AWl.p (R_boxz U U U (.tm U) (ts := _) (by rfl)) U ?_
 refine AWl.ac ?_
 refine AWl.nil (AW.seq ?_)
 refine AW.sr ?_
 refine AWl.p (by exact R_fieldAddr U (.no U) U (.tm U) fl41_0) U ?_
 refine AWl.p (by exact R_load U (.no U) U (.tm U) ty3 U U) U ?_
 refine AWl.p (by exact R_fieldAddr U (.no U) U (.tm U) fl41_0) U ?_
 refine AWl.p (by exact R_load U (.no U) U (.tm U) ty3 U U) U ?_
 refine AWl.p (R_ne U (.no U) U (.tm U) (.tm U)) U ?_
 refine AWl.nil ?_
 refine AW.cond (.tm U) (fun h9 => ?_) (fun h9 => ?_)
 · exact absurd h9 (by simp)
 · skip
   try simp at h9
   refine AW.skip ?_
   refine AW.seq ?_
   refine AW.sr ?_
   refine AWl.p (by exact R_fieldAddr U (.no U) U (.tm U) fl41_1) U ?_
   refine AWl.p (by exact R_load U (.no U) U (.tm U) ty26 U U) U ?_
   refine AWl.p (by exact R_fieldAddr U (.no U) U (.tm U) fl41_1) U ?_
   refine AWl.p (by exact R_load U (.no U) U (.tm U) ty26 U U) U ?_
   refine AWl.p (R_callz (FnT.fr (HeqBoolS _)) U (.no U) U (.cons (.tm U) U (.cons (.tm U) U .nil))) U ?_
   refine AWl.p (R_not U (.no U) U (.tm U)) U ?_
   refine AWl.nil ?_
   refine AW.cond (.tm U) (fun h15 => ?_) (fun h15 => ?_)
   · exact absurd h15 (by simp)
   · skip
     try simp at h15
     refine AW.skip ?_
     refine AW.seq ?_
     refine AW.sr ?_
     refine AWl.p (by exact R_fieldAddr U (.no U) U (.tm U) fl41_2) U ?_
     refine AWl.p (by exact R_load U (.no U) U (.tm U) ty27 U U) U ?_
     refine AWl.p (by exact R_fieldAddr U (.no U) U (.tm U) fl41_2) U ?_
     refine AWl.p (by exact R_load U (.no U) U (.tm U) ty27 U U) U ?_
     refine AWl.p (R_callz (FnT.fr (HeqIntSS _)) U (.no U) U (.cons (.tm U) U (.cons (.tm U) U .nil))) U ?_
     refine AWl.p (R_not U (.no U) U (.tm U)) U ?_
     refine AWl.nil ?_
     refine AW.cond (.tm U) (fun h21 => ?_) (fun h21 => ?_)
     · exact absurd h21 (by simp)
     · skip
       try simp at h21
       refine AW.skip ?_
       refine AW.sr ?_
       refine AWl.ac ?_
       refine AWl.nil (AW.ret ?_)
       refine Res.v U U ?_
       rfl
set_option maxRecDepth 100000 in
theorem HszAutomaton (x : TAutomaton) (a : Int) (ha : 0 ≤ a ∧ a ≤ 1048576) : FnT Try.prog 5 [.agg (cAutomaton x), .one (.v (.int .i64 a))] (.a (.one (.v (.int .i64 (szAutomaton x a))))) := by
 refine FnT.walk Try.func5 U (by kernel_rfl) Try.ntmps5 U fun hlen w0 => ?_
 try simp [cPair, cToken, cExpr, cEdge, cGraph, cStep, cWalk, cChange, cBatch, cHistory, cPositions, cAutomaton, cProductStep, cPathAtom, cConjunction, cView, cDelta, cRegistered, cRegistry] at hlen
 have hb0 := szBoolS_ok x.Accept a
 have hb1 := szIntSS_ok x.Next (szBoolS x.Accept a)
 refine AW.sr ?_
 refine AWl.p (R_boxz U U U (.tm U) (ts := _) (by rfl)) U ?_
 refine AWl.ac ?_
 refine AWl.nil (AW.sr ?_)
 refine AWl.p (by exact R_fieldAddr U (.no U) U (.tm U) fl29_1) U ?_
 refine AWl.p (by exact R_load U (.no U) U (.tm U) ty26 U U) U ?_
 refine AWl.mv ?_
 refine AWl.p (R_callz (FnT.fr (HszBoolS _ _ (by omega))) U (.no U) U (.cons (.tm U) U (.cons (.tm U) U .nil))) U ?_
 refine AWl.av ?_
 refine AWl.nil (AW.seq ?_)
 refine AW.sr ?_
 refine AWl.mv ?_
 refine AWl.p (R_lt U (.no U) U (.tm U) (.const U)) U ?_
 refine AWl.nil ?_
 refine AW.cond (.tm U) (fun h10 => ?_) (fun h10 => ?_)
 · skip
   try simp at h10
   refine AW.sr ?_
   refine AWl.ac ?_
   refine AWl.nil (AW.ret ?_)
   refine Res.v U U ?_
   simp only [szAutomaton, szSeq]; grind
 · skip
   try simp at h10
   refine AW.skip ?_
   refine AW.sr ?_
   refine AWl.p (by exact R_fieldAddr U (.no U) U (.tm U) fl29_2) U ?_
   refine AWl.p (by exact R_load U (.no U) U (.tm U) ty27 U U) U ?_
   refine AWl.mv ?_
   refine AWl.p (R_callz (FnT.fr (HszIntSS _ _ (by omega))) U (.no U) U (.cons (.tm U) U (.cons (.tm U) U .nil))) U ?_
   refine AWl.av ?_
   refine AWl.nil (AW.seq ?_)
   refine AW.sr ?_
   refine AWl.mv ?_
   refine AWl.p (R_lt U (.no U) U (.tm U) (.const U)) U ?_
   refine AWl.nil ?_
   refine AW.cond (.tm U) (fun h16 => ?_) (fun h16 => ?_)
   · skip
     try simp at h16
     refine AW.sr ?_
     refine AWl.ac ?_
     refine AWl.nil (AW.ret ?_)
     refine Res.v U U ?_
     simp only [szAutomaton, szSeq]; grind
   · skip
     try simp at h16
     refine AW.skip ?_
     refine AW.sr ?_
     refine AWl.mv ?_
     refine AWl.av ?_
     refine AWl.nil (AW.ret ?_)
     refine Res.v U U ?_
     simp only [szAutomaton, szSeq]; grind
end Go.Proofs.Ytamnfkfjfelbbaa
