import Derived.Test.YtamnfkfjfelbbaaB17xw
set_option linter.unusedVariables false
set_option linter.unusedSimpArgs false
set_option maxHeartbeats 1000000
set_option maxRecDepth 100000
namespace Go.Q
open Go.D
def toOf (e : TEdge) (b : Bool) : Int := if b then e.From else e.To
theorem aftF_snoc (a : TAutomaton) (k : Int) (l : List Nat) (t m : Nat) : aftF a k (l ++ [t]) m = if 0 ≤ nextOf a t k then aftF a k l m ||| 2 ^ (nextOf a t k).toNat else aftF a k l m := by
 unfold aftF
 rw [List.foldl_append]; rfl
end Go.Q
namespace Go.Proofs.Ytamnfkfjfelbbaa
open Go.RowKit Go.Q Go.D
theorem specl4From (g : TGraph) (x : Int) (hg : g.Edges.length ≤ 1048576) : FnT Try.prog 50 [.agg (cGraph g), .one (.v (.int .i64 x))] (.a (.one (.sl 2 (((arcsAt g x).map (·.step)).map cStep)))) := by
 refine FnT.walk Try.func50 U (by kernel_rfl) Try.ntmps50 U fun hlen w0 => ?_
 try simp [cPair, cToken, cExpr, cEdge, cGraph, cStep, cWalk, cChange, cBatch, cHistory, cPositions, cAutomaton, cProductStep, cPathAtom, cConjunction, cView, cDelta, cRegistered, cRegistry] at hlen
 refine AW.sr ?_
 refine AWl.p (R_boxz U U U (.tm U) (ts := _) (by rfl)) U ?_
 refine AWl.ac ?_
 refine AWl.nilS (i := 4) 20001 2 U U ?_
 refine AWl.nil (AW.sr ?_)
 refine AWl.add (R_empty 7 U U U Try.underlying32 ty59 U) U ?_
 refine AWl.av ?_
 refine AWl.nil (AW.seq ?_)
 refine AW.sr ?_
 refine AWl.ac ?_
 refine AWl.nil (AW.block ?_)
 refine AW.loop1 (fun (k : Nat) => (k ≤ g.Edges.length) ∧ True) (fun (k : Nat) => ⟨_, [(6, (true, .a (.one (.t (.v (.int .i64 (k : Nat))))))), (5, (true, .a (.one (.rf 7)))), (1, _), (2, _), (4, _)], [(7, .row 2 (((arcsL (g.Edges.take k) x).map (·.step)).map cStep))]⟩) (fun (k : Nat) => g.Edges.length - k) (0) ⟨Nat.zero_le _, Y⟩ (Le.sub0 U ⟨U, U, U, U, U, Y⟩ ⟨U, Y⟩) ?_
 rintro k ⟨hk, he⟩
 refine AW.seq ?_
 refine AW.sr ?_
 refine AWl.mv ?_
 refine AWl.p (by exact R_fieldAddr U (.no U) U (.tm U) fl39_1) U ?_
 refine AWl.p (by exact R_load U (.no U) U (.tm U) ty37 U U) U ?_
 refine AWl.p (by exact R_lenm U (.no U) U (.tm U) (by exact .t) Try.underlying37) U ?_
 refine AWl.p (R_lt U (.no U) U (.tm U) (.tm U)) U ?_
 refine AWl.nil ?_
 refine AW.cond (.tm U) (fun h12 => ?_) (fun h12 => ?_)
 · skip
   try simp at h12
   obtain ⟨e, he1⟩ : ∃ ξ, g.Edges[k]? = some ξ := ⟨_, List.getElem?_eq_getElem (by omega)⟩
   have hL : (arcsL (g.Edges.take k) x).length ≤ 2097152 := Nat.le_trans (arcsL_len _ x) (by simp; omega)
   refine AW.skip ?_
   refine AW.seq ?_
   refine AW.block ?_
   refine AW.seq ?_
   refine AW.sr ?_
   refine AWl.p (by exact R_fieldAddr U (.no U) U (.tm U) fl39_1) U ?_
   refine AWl.p (by exact R_load U (.no U) U (.tm U) ty37 U U) U ?_
   refine AWl.mv ?_
   refine AWl.p (by exact R_indexAddr U (.no U) U (.tm U) (.tm U) Try.underlying37 ty93 (fun _ => ⟨by omega, map_get he1⟩)) U ?_
   refine AWl.p (by exact R_fieldAddr U (.no U) U (.tm U) fl93_1) U ?_
   refine AWl.p (by exact R_load U (.no U) U (.tm U) ty3 U U) U ?_
   refine AWl.mv ?_
   refine AWl.p (R_eq U (.no U) U (.tm U) (.tm U)) U ?_
   refine AWl.nil ?_
   refine AW.cond (.tm U) (fun h22 => ?_) (fun h22 => ?_)
   · skip
     try simp at h22
     refine AW.le (σ' := ⟨_, [(1, _), (2, _), (4, _), (5, _), (6, _)], [(7, _)]⟩) (Le.sub0 U ⟨U, U, U, U, U, Y⟩ ⟨U, Y⟩) ?_
     refine AW.region ?_
     refine AWl.mv ?_
     refine AWl.p (by exact R_fieldAddr U (.no U) U (.tm U) fl39_1) U ?_
     refine AWl.p (by exact R_load U (.no U) U (.tm U) ty37 U U) U ?_
     refine AWl.mv ?_
     refine AWl.p (by exact R_indexAddr U (.no U) U (.tm U) (.tm U) Try.underlying37 ty93 (fun _ => ⟨by omega, map_get he1⟩)) U ?_
     refine AWl.p (by exact R_fieldAddr U (.no U) U (.tm U) fl93_0) U ?_
     refine AWl.p (by exact R_load U (.no U) U (.tm U) ty3 U U) U ?_
     refine AWl.p (R_build (ps := [(0, .tmp 29)]) U U U in59 U U st59 (.cons (.tm U) U U fp59_0 .nil) U) U ?_
     refine AWl.absadd (R_list (xs := [.tmp 30]) 31 U U U (.cons (.tm U) U U .nil) Try.underlying32 in59 U U U U) U ?_
     refine AWl.chgput (R_append U U U (.tm U) U (.tm U) (by exact .rf U) (by rfl) Try.underlying32 in59 U (by (simp [chunk]; omega)) (by (unfold maxLen; simp [chunk]; omega))) U ?_
     refine AWl.le (σ' := ⟨_, [(1, _), (2, _), (4, _), (5, _), (6, _), (32, _)], [(7, _), (31, _)]⟩) (Le.sub0 U ⟨U, U, U, U, U, U, Y⟩ ⟨U, U, Y⟩) ?_
     refine AWl.av ?_
     refine AWl.nil (AW.sr ?_)
     refine AWl.p (by exact R_fieldAddr U (.no U) U (.tm U) fl39_1) U ?_
     refine AWl.p (by exact R_load U (.no U) U (.tm U) ty37 U U) U ?_
     refine AWl.mv ?_
     refine AWl.p (by exact R_indexAddr U (.no U) U (.tm U) (.tm U) Try.underlying37 ty93 (fun _ => ⟨by omega, map_get he1⟩)) U ?_
     refine AWl.p (by exact R_fieldAddr U (.no U) U (.tm U) fl93_2) U ?_
     refine AWl.p (by exact R_load U (.no U) U (.tm U) ty3 U U) U ?_
     refine AWl.mv ?_
     refine AWl.p (R_eq U (.no U) U (.tm U) (.tm U)) U ?_
     refine AWl.nil ?_
     refine AW.cond (.tm U) (fun h40 => ?_) (fun h40 => ?_)
     · skip
       try simp at h40
       refine AW.le (σ' := ⟨_, [(1, _), (2, _), (4, _), (5, _), (6, _)], [(7, _), (31, _)]⟩) (Le.sub0 U ⟨U, U, U, U, U, Y⟩ ⟨U, U, Y⟩) ?_
       refine AW.region ?_
       refine AWl.mv ?_
       refine AWl.p (by exact R_fieldAddr U (.no U) U (.tm U) fl39_1) U ?_
       refine AWl.p (by exact R_load U (.no U) U (.tm U) ty37 U U) U ?_
       refine AWl.mv ?_
       refine AWl.p (by exact R_indexAddr U (.no U) U (.tm U) (.tm U) Try.underlying37 ty93 (fun _ => ⟨by omega, map_get he1⟩)) U ?_
       refine AWl.p (by exact R_fieldAddr U (.no U) U (.tm U) fl93_0) U ?_
       refine AWl.p (by exact R_load U (.no U) U (.tm U) ty3 U U) U ?_
       refine AWl.p (R_build (ps := [(0, .tmp 47), (1, .const (.bool true))]) U U U in59 U U st59 (.cons (.tm U) U U fp59_0 (.cons (.const U) U U fp59_1 .nil)) U) U ?_
       refine AWl.absadd (R_list (xs := [.tmp 48]) 49 U U U (.cons (.tm U) U U .nil) Try.underlying32 in59 U U U U) U ?_
       refine AWl.chgput (R_append U U U (.tm U) U (.tm U) (by exact .rf U) (by rfl) Try.underlying32 in59 U (by (simp [chunk]; omega)) (by (unfold maxLen; simp [chunk]; omega))) U ?_
       refine AWl.le (σ' := ⟨_, [(1, _), (2, _), (4, _), (5, _), (6, _), (50, _)], [(7, _), (31, _), (49, _)]⟩) (Le.sub0 U ⟨U, U, U, U, U, U, Y⟩ ⟨U, U, U, Y⟩) ?_
       refine AWl.av ?_
       refine AWl.nil (AW.region ?_)
       refine AWl.mv ?_
       refine AWl.p (R_add U (.no U) U (.tm U) (.const U) (fun _ => by omega)) U ?_
       refine AWl.av ?_
       refine AWl.nil ?_
       repeat (with_reducible refine BlockQ.nor ?_)
       refine Round1.next (k + 1) ⟨by omega, Y⟩ (by omega) (Le.sub0 rfl ⟨rfl, rfl, rfl, rfl, rfl, Y⟩ ⟨(by refine congrArg (fun r => some (R.row 2 r)) ?_; rw [arcsL_at he1]; simp [arcsOf, h22, h40, chunk, cStep]), Y⟩)
     · skip
       try simp at h40
       refine AW.skip ?_
       refine AW.le (σ' := ⟨_, [(1, _), (2, _), (4, _), (5, _), (6, _)], [(7, _), (31, _)]⟩) (Le.sub0 U ⟨U, U, U, U, U, Y⟩ ⟨U, U, Y⟩) ?_
       refine AW.region ?_
       refine AWl.mv ?_
       refine AWl.p (R_add U (.no U) U (.tm U) (.const U) (fun _ => by omega)) U ?_
       refine AWl.av ?_
       refine AWl.nil ?_
       repeat (with_reducible refine BlockQ.nor ?_)
       refine Round1.next (k + 1) ⟨by omega, Y⟩ (by omega) (Le.sub0 rfl ⟨rfl, rfl, rfl, rfl, rfl, Y⟩ ⟨(by refine congrArg (fun r => some (R.row 2 r)) ?_; rw [arcsL_at he1]; simp [arcsOf, h22, h40, chunk, cStep]), Y⟩)
   · skip
     try simp at h22
     refine AW.skip ?_
     refine AW.seq ?_
     refine AW.le (σ' := ⟨_, [(1, _), (2, _), (4, _), (5, _), (6, _)], [(7, _)]⟩) (Le.sub0 U ⟨U, U, U, U, U, Y⟩ ⟨U, Y⟩) ?_
     refine AW.region ?_
     refine AWl.p (by exact R_fieldAddr U (.no U) U (.tm U) fl39_1) U ?_
     refine AWl.p (by exact R_load U (.no U) U (.tm U) ty37 U U) U ?_
     refine AWl.mv ?_
     refine AWl.p (by exact R_indexAddr U (.no U) U (.tm U) (.tm U) Try.underlying37 ty93 (fun _ => ⟨by omega, map_get he1⟩)) U ?_
     refine AWl.p (by exact R_fieldAddr U (.no U) U (.tm U) fl93_2) U ?_
     refine AWl.p (by exact R_load U (.no U) U (.tm U) ty3 U U) U ?_
     refine AWl.mv ?_
     refine AWl.p (R_eq U (.no U) U (.tm U) (.tm U)) U ?_
     refine AWl.nil ?_
     refine AW.cond (.tm U) (fun h40 => ?_) (fun h40 => ?_)
     · skip
       try simp at h40
       refine AW.le (σ' := ⟨_, [(1, _), (2, _), (4, _), (5, _), (6, _)], [(7, _)]⟩) (Le.sub0 U ⟨U, U, U, U, U, Y⟩ ⟨U, Y⟩) ?_
       refine AW.region ?_
       refine AWl.mv ?_
       refine AWl.p (by exact R_fieldAddr U (.no U) U (.tm U) fl39_1) U ?_
       refine AWl.p (by exact R_load U (.no U) U (.tm U) ty37 U U) U ?_
       refine AWl.mv ?_
       refine AWl.p (by exact R_indexAddr U (.no U) U (.tm U) (.tm U) Try.underlying37 ty93 (fun _ => ⟨by omega, map_get he1⟩)) U ?_
       refine AWl.p (by exact R_fieldAddr U (.no U) U (.tm U) fl93_0) U ?_
       refine AWl.p (by exact R_load U (.no U) U (.tm U) ty3 U U) U ?_
       refine AWl.p (R_build (ps := [(0, .tmp 47), (1, .const (.bool true))]) U U U in59 U U st59 (.cons (.tm U) U U fp59_0 (.cons (.const U) U U fp59_1 .nil)) U) U ?_
       refine AWl.absadd (R_list (xs := [.tmp 48]) 49 U U U (.cons (.tm U) U U .nil) Try.underlying32 in59 U U U U) U ?_
       refine AWl.chgput (R_append U U U (.tm U) U (.tm U) (by exact .rf U) (by rfl) Try.underlying32 in59 U (by (simp [chunk]; omega)) (by (unfold maxLen; simp [chunk]; omega))) U ?_
       refine AWl.le (σ' := ⟨_, [(1, _), (2, _), (4, _), (5, _), (6, _), (50, _)], [(7, _), (49, _)]⟩) (Le.sub0 U ⟨U, U, U, U, U, U, Y⟩ ⟨U, U, Y⟩) ?_
       refine AWl.av ?_
       refine AWl.nil (AW.region ?_)
       refine AWl.mv ?_
       refine AWl.p (R_add U (.no U) U (.tm U) (.const U) (fun _ => by omega)) U ?_
       refine AWl.av ?_
       refine AWl.nil ?_
       repeat (with_reducible refine BlockQ.nor ?_)
       refine Round1.next (k + 1) ⟨by omega, Y⟩ (by omega) (Le.sub0 rfl ⟨rfl, rfl, rfl, rfl, rfl, Y⟩ ⟨(by refine congrArg (fun r => some (R.row 2 r)) ?_; rw [arcsL_at he1]; simp [arcsOf, h22, h40, chunk, cStep]), Y⟩)
     · skip
       try simp at h40
       refine AW.skip ?_
       refine AW.le (σ' := ⟨_, [(1, _), (2, _), (4, _), (5, _), (6, _)], [(7, _)]⟩) (Le.sub0 U ⟨U, U, U, U, U, Y⟩ ⟨U, Y⟩) ?_
       refine AW.region ?_
       refine AWl.mv ?_
       refine AWl.p (R_add U (.no U) U (.tm U) (.const U) (fun _ => by omega)) U ?_
       refine AWl.av ?_
       refine AWl.nil ?_
       repeat (with_reducible refine BlockQ.nor ?_)
       refine Round1.next (k + 1) ⟨by omega, Y⟩ (by omega) (Le.sub0 rfl ⟨rfl, rfl, rfl, rfl, rfl, Y⟩ ⟨(by refine congrArg (fun r => some (R.row 2 r)) ?_; rw [arcsL_at he1]; simp [arcsOf, h22, h40, chunk, cStep]), Y⟩)
 · skip
   try simp at h12
   refine AW.exit ?_
   refine AW.sr ?_
   refine AWl.mv ?_
   refine AWl.av ?_
   refine AWl.nil (AW.ret ?_)
   refine Res.one U (.tmp U .nil) U ?_
   unfold arcsAt; rw [List.take_of_length_le (by omega)]; rfl
theorem specl14Letter (e : TEdge) (b : Bool) (h : 0 ≤ e.Label ∧ e.Label ≤ 2) : FnT Try.prog 74 [.agg (cEdge e), .one (.v (.bool b))] (.a (.one (.v (.int .i64 (reads e b))))) := by
 refine FnT.walk Try.func74 U (by kernel_rfl) Try.ntmps74 U fun hlen w0 => ?_
 try simp [cPair, cToken, cExpr, cEdge, cGraph, cStep, cWalk, cChange, cBatch, cHistory, cPositions, cAutomaton, cProductStep, cPathAtom, cConjunction, cView, cDelta, cRegistered, cRegistry] at hlen
 refine AW.sr ?_
 refine AWl.p (R_boxz U U U (.tm U) (ts := _) (by rfl)) U ?_
 refine AWl.ac ?_
 refine AWl.nil (AW.seq ?_)
 refine AW.sr ?_
 refine AWl.mv ?_
 refine AWl.nil ?_
 refine AW.cond (.tm U) (fun h5 => ?_) (fun h5 => ?_)
 · skip
   try simp at h5
   refine AW.sr ?_
   refine AWl.p (by exact R_fieldAddr U (.no U) U (.tm U) fl93_3) U ?_
   refine AWl.p (by exact R_load U (.no U) U (.tm U) ty3 U U) U ?_
   refine AWl.p (R_mul U (.no U) U (.const U) (.tm U) (fun _ => by omega)) U ?_
   refine AWl.p (R_add U (.no U) U (.tm U) (.const U) (fun _ => by omega)) U ?_
   refine AWl.av ?_
   refine AWl.nil (AW.ret ?_)
   refine Res.v U U ?_
   simp [reads, h5]
 · skip
   try simp at h5
   refine AW.skip ?_
   refine AW.sr ?_
   refine AWl.p (by exact R_fieldAddr U (.no U) U (.tm U) fl93_3) U ?_
   refine AWl.p (by exact R_load U (.no U) U (.tm U) ty3 U U) U ?_
   refine AWl.p (R_mul U (.no U) U (.const U) (.tm U) (fun _ => by omega)) U ?_
   refine AWl.av ?_
   refine AWl.nil (AW.ret ?_)
   refine Res.v U U ?_
   simp [reads, h5]
theorem specl14To (e : TEdge) (b : Bool) : FnT Try.prog 75 [.agg (cEdge e), .one (.v (.bool b))] (.a (.one (.v (.int .i64 (toOf e b))))) := by
 refine FnT.walk Try.func75 U (by kernel_rfl) Try.ntmps75 U fun hlen w0 => ?_
 try simp [cPair, cToken, cExpr, cEdge, cGraph, cStep, cWalk, cChange, cBatch, cHistory, cPositions, cAutomaton, cProductStep, cPathAtom, cConjunction, cView, cDelta, cRegistered, cRegistry] at hlen
 refine AW.sr ?_
 refine AWl.p (R_boxz U U U (.tm U) (ts := _) (by rfl)) U ?_
 refine AWl.ac ?_
 refine AWl.nil (AW.seq ?_)
 refine AW.sr ?_
 refine AWl.mv ?_
 refine AWl.nil ?_
 refine AW.cond (.tm U) (fun h5 => ?_) (fun h5 => ?_)
 · skip
   try simp at h5
   refine AW.sr ?_
   refine AWl.p (by exact R_fieldAddr U (.no U) U (.tm U) fl93_1) U ?_
   refine AWl.p (by exact R_load U (.no U) U (.tm U) ty3 U U) U ?_
   refine AWl.av ?_
   refine AWl.nil (AW.ret ?_)
   refine Res.v U U ?_
   simp [toOf, h5]
 · skip
   try simp at h5
   refine AW.skip ?_
   refine AW.sr ?_
   refine AWl.p (by exact R_fieldAddr U (.no U) U (.tm U) fl93_2) U ?_
   refine AWl.p (by exact R_load U (.no U) U (.tm U) ty3 U U) U ?_
   refine AWl.av ?_
   refine AWl.nil (AW.ret ?_)
   refine Res.v U U ?_
   simp [toOf, h5]
end Go.Proofs.Ytamnfkfjfelbbaa
