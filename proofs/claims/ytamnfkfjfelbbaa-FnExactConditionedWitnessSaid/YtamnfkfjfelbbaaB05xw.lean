import Derived.Test.YtamnfkfjfelbbaaB03xw
set_option linter.unusedVariables false
set_option linter.unusedSimpArgs false
namespace Go.Q
open Go.D
def reads (e : TEdge) (b : Bool) : Int := if b then 2 * e.Label + 1 else 2 * e.Label
def stepLetter (g : TGraph) (s : TStep) : Int := if (stepEdge g s).2 then reads (stepEdge g s).1 s.Inverse else -1
def stepCost (g : TGraph) (l : List Int) (s : TStep) : Int := if stepLetter g s < 0 ∨ areCosts l = false then -1 else l[(stepLetter g s).toNat]?.getD 0
end Go.Q
namespace Go.Proofs.Ytamnfkfjfelbbaa
open Go.RowKit Go.Q Go.D
set_option maxRecDepth 100000 in
theorem implreads (e : TEdge) (b : Bool) (h : 0 ≤ e.Label ∧ e.Label ≤ 2) : FnT Try.prog 77 [.agg (cEdge e), .one (.v (.bool b))] (.a (.one (.v (.int .i64 (reads e b))))) := by
 refine FnT.walk Try.func77 U (by kernel_rfl) Try.ntmps77 U fun hlen w0 => ?_
 try simp [cPair, cToken, cExpr, cEdge, cGraph, cStep, cWalk, cChange, cBatch, cHistory, cPositions, cAutomaton, cProductStep, cPathAtom, cConjunction, cView, cDelta, cRegistered, cRegistry] at hlen
 refine AW.sr ?_
 refine AWl.p (R_boxz U U U (.tm U) (ts := _) (by rfl)) U ?_
 refine AWl.ac ?_
 refine AWl.nil (AW.seq ?_)
 refine AW.sr ?_
 refine AWl.mv ?_
 refine AWl.nil ?_
 refine AW.cond (.tm U) (fun h5 => ?_) (fun h5 => ?_)
 · skip
   try simp at h5
   refine AW.sr ?_
   refine AWl.p (by exact R_fieldAddr U (.no U) U (.tm U) fl93_3) U ?_
   refine AWl.p (by exact R_load U (.no U) U (.tm U) ty3 U U) U ?_
   refine AWl.p (R_mul U (.no U) U (.const U) (.tm U) (fun _ => by omega)) U ?_
   refine AWl.p (R_add U (.no U) U (.tm U) (.const U) (fun _ => by omega)) U ?_
   refine AWl.av ?_
   refine AWl.nil (AW.ret ?_)
   refine Res.v U U ?_
   simp [reads, h5]
 · skip
   try simp at h5
   refine AW.skip ?_
   refine AW.sr ?_
   refine AWl.p (by exact R_fieldAddr U (.no U) U (.tm U) fl93_3) U ?_
   refine AWl.p (by exact R_load U (.no U) U (.tm U) ty3 U U) U ?_
   refine AWl.p (R_mul U (.no U) U (.const U) (.tm U) (fun _ => by omega)) U ?_
   refine AWl.av ?_
   refine AWl.nil (AW.ret ?_)
   refine Res.v U U ?_
   simp [reads, h5]
end Go.Proofs.Ytamnfkfjfelbbaa
namespace Go.Q
open Go.D
end Go.Q
namespace Go.Proofs.Ytamnfkfjfelbbaa
open Go.RowKit Go.Q Go.D
end Go.Proofs.Ytamnfkfjfelbbaa
