import Derived.Test.YtamnfkfjfelbbaaB66xw
import Derived.Test.YtamnfkfjfelbbaaB49xw
import Derived.Test.YtamnfkfjfelbbaaB56xw
set_option linter.unusedVariables false
set_option linter.unusedSimpArgs false
set_option maxHeartbeats 1000000
set_option maxRecDepth 100000
namespace Go.Q
open Go.D
def nvR (nx : Nat → List Int) (N p : Nat) (l : List Int) : List (List T) := (List.range N).map fun (i : Nat) => [T.sl 1 ((rowAt nx p l i).map cInt)]
theorem nvR_self {nx : Nat → List Int} {N p : Nat} (l : List Int) (h : p < N) : (nvR nx N p l)[p]? = some [T.sl 1 (l.map cInt)] := by
 unfold nvR
 rw [range_get _ h]
 unfold rowAt
 rw [if_neg (by omega), if_pos rfl]
theorem nvR_app {nx : Nat → List Int} {N p : Nat} (l : List Int) (y : Int) : (nvR nx N p l).set p [T.sl 1 (l.map cInt ++ [cInt y])] = nvR nx N p (l ++ [y]) := by
 have h := range_app 1 cInt (rowAt nx p l) y (n := N) (i := p)
 rw [show rowAt nx p l p = l by unfold rowAt; rw [if_neg (by omega), if_pos rfl]] at h
 unfold nvR
 rw [h]
 congr 1
 funext i
 rw [rowAt_app]
theorem nvR_zero (nx : Nat → List Int) (N : Nat) : List.replicate N [T.sl 1 []] = nvR nx N 0 [] := by
 unfold nvR rowAt
 apply List.ext_getElem <;> simp
theorem nvR_next (nx : Nat → List Int) (N p : Nat) : nvR nx N p (nx p) = nvR nx N (p + 1) [] := by
 unfold nvR
 congr 1
 funext i
 rw [rowAt_next]
theorem nvR_end (nx : Nat → List Int) {N p : Nat} (h : N ≤ p) : nvR nx N p [] = ((List.range N).map nx).map cIntS := by
 unfold nvR
 rw [List.map_map]
 apply List.map_congr_left
 intro i hi
 have := List.mem_range.1 hi
 unfold rowAt
 rw [if_pos (by omega)]
 rfl
theorem nxC_at (g : TGraph) (a : TAutomaton) (c : Int) {x s : Nat} (h : s < a.Accept.length) : nxC g a c (x * a.Accept.length + s) = (arcsC g c x).flatMap (vertN a s (valAt g x)) := by
 unfold nxC
 rw [(div_idx h).1, (div_idx h).2]
def arcsCV (g : TGraph) (c : Int) : List (List TArc) := (List.range g.Values.length).map fun (x : Nat) => arcsC g c x
theorem arcsC_len {g : TGraph} (hg : validG g = true) (c x : Int) : (arcsC g c x).length ≤ 24 := Nat.le_trans (List.length_filter_le _ _) (Nat.le_trans (arcsL_len _ _) (by have := validG_len hg; omega))
theorem nxC_len {g : TGraph} (a : TAutomaton) (hg : validG g = true) (c : Int) (p : Nat) : (nxC g a c p).length ≤ 1536 := Nat.le_trans (flatMap_len (b := 64) (fun y => by rw [vertN_len]; exact bits_len _) _) (Nat.mul_le_mul_right 64 (arcsC_len hg c _))
def acRows (g : TGraph) (c : Int) (x : Nat) : List (List T) := (List.range g.Values.length).map fun (i : Nat) => [T.sl 4 ((if i < x then arcsC g c i else arcsAt g i).map cArc)]
theorem acRows_self {g : TGraph} (c : Int) {x : Nat} (h : x < g.Values.length) : (acRows g c x)[x]? = some [T.sl 4 ((arcsAt g x).map cArc)] := by
 unfold acRows
 rw [range_get _ h, if_neg (by omega)]
theorem acRows_set (g : TGraph) (c : Int) (x : Nat) : (acRows g c x).set x [T.sl 4 ((arcsC g c x).map cArc)] = acRows g c (x + 1) := by
 unfold acRows
 rw [range_set]
 apply List.map_congr_left
 intro i _
 by_cases h : i = x
 · subst h; rw [if_pos rfl, if_pos (by omega)]
 · rw [if_neg h]
   by_cases h1 : i < x
   · rw [if_pos h1, if_pos (by omega)]
   · rw [if_neg h1, if_neg (by omega)]
theorem acRows_zero (g : TGraph) (c : Int) : (arcsV g).map cArcS = acRows g c 0 := by
 unfold arcsV acRows
 rw [List.map_map]
 apply List.map_congr_left
 intro i _
 rw [if_neg (by omega)]; rfl
theorem acRows_end (g : TGraph) (c : Int) {x : Nat} (h : g.Values.length ≤ x) : acRows g c x = (arcsCV g c).map cArcS := by
 unfold arcsCV acRows
 rw [List.map_map]
 apply List.map_congr_left
 intro i hi
 have := List.mem_range.1 hi
 rw [if_pos (by omega)]; rfl
end Go.Q
namespace Go.Proofs.Ytamnfkfjfelbbaa
open Go.RowKit Go.Q Go.D
theorem implConditionHolds (c v w : Int) : FnT Try.prog 60 [.one (.v (.int .i64 c)), .one (.v (.int .i64 v)), .one (.v (.int .i64 w))] (.a (.one (.v (.bool (condOk c v w))))) := by
 refine FnT.walk Try.func60 U (by kernel_rfl) Try.ntmps60 U fun hlen w0 => ?_
 try simp [cPair, cToken, cExpr, cEdge, cGraph, cStep, cWalk, cChange, cBatch, cHistory, cPositions, cAutomaton, cProductStep, cPathAtom, cConjunction, cView, cDelta, cRegistered, cRegistry] at hlen
 refine AW.sr ?_
 refine AWl.ac ?_
 refine AWl.nil (AW.seq ?_)
 refine AW.sr ?_
 refine AWl.mv ?_
 refine AWl.nil (AW.block ?_)
 refine AW.sr ?_
 refine AWl.p (R_eq U (.no U) U (.tm U) (.const U)) U ?_
 refine AWl.av ?_
 refine AWl.nil ?_
 refine AW.cond (.tm U) (fun h8 => ?_) (fun h8 => ?_)
 · skip
   try simp at h8
   refine AW.sr ?_
   refine AWl.ac ?_
   refine AWl.nil (AW.ret ?_)
   refine Res.v U U ?_
   (unfold condOk; simp_all)
 · skip
   try simp at h8
   refine AW.sr ?_
   refine AWl.p (R_eq U (.no U) U (.tm U) (.const U)) U ?_
   refine AWl.av ?_
   refine AWl.nil ?_
   refine AW.cond (.tm U) (fun h10 => ?_) (fun h10 => ?_)
   · skip
     try simp at h10
     refine AW.sr ?_
     refine AWl.mv ?_
     refine AWl.mv ?_
     refine AWl.p (R_eq U (.no U) U (.tm U) (.tm U)) U ?_
     refine AWl.av ?_
     refine AWl.nil (AW.ret ?_)
     refine Res.v U U ?_
     (unfold condOk; simp_all)
   · skip
     try simp at h10
     refine AW.sr ?_
     refine AWl.p (R_eq U (.no U) U (.tm U) (.const U)) U ?_
     refine AWl.av ?_
     refine AWl.nil ?_
     refine AW.cond (.tm U) (fun h15 => ?_) (fun h15 => ?_)
     · skip
       try simp at h15
       refine AW.seq ?_
       refine AW.le (σ' := ⟨_, [(0, _), (1, _), (2, _), (6, _), (7, _)], []⟩) (Le.sub0 U ⟨U, U, U, U, U, Y⟩ trivial) ?_
       refine AW.region ?_
       refine AWl.mv ?_
       refine AWl.mv ?_
       refine AWl.p (R_le U (.no U) U (.tm U) (.tm U)) U ?_
       refine AWl.av ?_
       refine AWl.nil (AW.ret ?_)
       refine Res.v U U ?_
       (unfold condOk; simp_all)
     · skip
       try simp at h15
       refine AW.seq ?_
       refine AW.le (σ' := ⟨_, [(0, _), (1, _), (2, _), (6, _), (7, _)], []⟩) (Le.sub0 U ⟨U, U, U, U, U, Y⟩ trivial) ?_
       refine AW.region ?_
       refine AWl.p (R_eq U (.no U) U (.tm U) (.const U)) U ?_
       refine AWl.av ?_
       refine AWl.nil ?_
       refine AW.cond (.tm U) (fun h20 => ?_) (fun h20 => ?_)
       · skip
         try simp at h20
         refine AW.sr ?_
         refine AWl.mv ?_
         refine AWl.mv ?_
         refine AWl.p (R_lt U (.no U) U (.tm U) (.tm U)) U ?_
         refine AWl.av ?_
         refine AWl.nil (AW.ret ?_)
         refine Res.v U U ?_
         (unfold condOk; simp_all)
       · skip
         try simp at h20
         refine AW.sr ?_
         refine AWl.p (R_eq U (.no U) U (.tm U) (.const U)) U ?_
         refine AWl.av ?_
         refine AWl.nil ?_
         refine AW.cond (.tm U) (fun h25 => ?_) (fun h25 => ?_)
         · skip
           try simp at h25
           refine AW.sr ?_
           refine AWl.mv ?_
           refine AWl.mv ?_
           refine AWl.p (R_ne U (.no U) U (.tm U) (.tm U)) U ?_
           refine AWl.av ?_
           refine AWl.nil (AW.ret ?_)
           refine Res.v U U ?_
           (unfold condOk; simp_all)
         · skip
           try simp at h25
           refine AW.skip ?_
           refine AW.sr ?_
           refine AWl.ac ?_
           refine AWl.nil (AW.ret ?_)
           refine Res.v U U ?_
           (unfold condOk; simp_all)
theorem specConditionHolds (c v w : Int) : FnT Try.prog 52 [.one (.v (.int .i64 c)), .one (.v (.int .i64 v)), .one (.v (.int .i64 w))] (.a (.one (.v (.bool (condOk c v w))))) := by
 refine FnT.walk Try.func52 U (by kernel_rfl) Try.ntmps52 U fun hlen w0 => ?_
 try simp [cPair, cToken, cExpr, cEdge, cGraph, cStep, cWalk, cChange, cBatch, cHistory, cPositions, cAutomaton, cProductStep, cPathAtom, cConjunction, cView, cDelta, cRegistered, cRegistry] at hlen
 refine AW.sr ?_
 refine AWl.ac ?_
 refine AWl.nil (AW.seq ?_)
 refine AW.sr ?_
 refine AWl.mv ?_
 refine AWl.nil (AW.block ?_)
 refine AW.sr ?_
 refine AWl.p (R_eq U (.no U) U (.tm U) (.const U)) U ?_
 refine AWl.av ?_
 refine AWl.nil ?_
 refine AW.cond (.tm U) (fun h8 => ?_) (fun h8 => ?_)
 · skip
   try simp at h8
   refine AW.sr ?_
   refine AWl.ac ?_
   refine AWl.nil (AW.ret ?_)
   refine Res.v U U ?_
   (unfold condOk; simp_all)
 · skip
   try simp at h8
   refine AW.sr ?_
   refine AWl.p (R_eq U (.no U) U (.tm U) (.const U)) U ?_
   refine AWl.av ?_
   refine AWl.nil ?_
   refine AW.cond (.tm U) (fun h10 => ?_) (fun h10 => ?_)
   · skip
     try simp at h10
     refine AW.sr ?_
     refine AWl.mv ?_
     refine AWl.mv ?_
     refine AWl.p (R_eq U (.no U) U (.tm U) (.tm U)) U ?_
     refine AWl.av ?_
     refine AWl.nil (AW.ret ?_)
     refine Res.v U U ?_
     (unfold condOk; simp_all)
   · skip
     try simp at h10
     refine AW.sr ?_
     refine AWl.p (R_eq U (.no U) U (.tm U) (.const U)) U ?_
     refine AWl.av ?_
     refine AWl.nil ?_
     refine AW.cond (.tm U) (fun h15 => ?_) (fun h15 => ?_)
     · skip
       try simp at h15
       refine AW.seq ?_
       refine AW.le (σ' := ⟨_, [(0, _), (1, _), (2, _), (6, _), (7, _)], []⟩) (Le.sub0 U ⟨U, U, U, U, U, Y⟩ trivial) ?_
       refine AW.region ?_
       refine AWl.mv ?_
       refine AWl.mv ?_
       refine AWl.p (R_le U (.no U) U (.tm U) (.tm U)) U ?_
       refine AWl.av ?_
       refine AWl.nil (AW.ret ?_)
       refine Res.v U U ?_
       (unfold condOk; simp_all)
     · skip
       try simp at h15
       refine AW.seq ?_
       refine AW.le (σ' := ⟨_, [(0, _), (1, _), (2, _), (6, _), (7, _)], []⟩) (Le.sub0 U ⟨U, U, U, U, U, Y⟩ trivial) ?_
       refine AW.region ?_
       refine AWl.p (R_eq U (.no U) U (.tm U) (.const U)) U ?_
       refine AWl.av ?_
       refine AWl.nil ?_
       refine AW.cond (.tm U) (fun h20 => ?_) (fun h20 => ?_)
       · skip
         try simp at h20
         refine AW.sr ?_
         refine AWl.mv ?_
         refine AWl.mv ?_
         refine AWl.p (R_lt U (.no U) U (.tm U) (.tm U)) U ?_
         refine AWl.av ?_
         refine AWl.nil (AW.ret ?_)
         refine Res.v U U ?_
         (unfold condOk; simp_all)
       · skip
         try simp at h20
         refine AW.sr ?_
         refine AWl.p (R_eq U (.no U) U (.tm U) (.const U)) U ?_
         refine AWl.av ?_
         refine AWl.nil ?_
         refine AW.cond (.tm U) (fun h25 => ?_) (fun h25 => ?_)
         · skip
           try simp at h25
           refine AW.sr ?_
           refine AWl.mv ?_
           refine AWl.mv ?_
           refine AWl.p (R_ne U (.no U) U (.tm U) (.tm U)) U ?_
           refine AWl.av ?_
           refine AWl.nil (AW.ret ?_)
           refine Res.v U U ?_
           (unfold condOk; simp_all)
         · skip
           try simp at h25
           refine AW.skip ?_
           refine AW.sr ?_
           refine AWl.ac ?_
           refine AWl.nil (AW.ret ?_)
           refine Res.v U U ?_
           (unfold condOk; simp_all)
set_option maxRecDepth 100000 in
theorem IndexFuncArc (l : List TArc) (f : FuncId) (caps : List T) (p : TArc → Bool) (hp : ∀ e ∈ l, FrT Try.prog f ([.agg (cArc e)] ++ caps.map .one) (.a (.one (.v (.bool (p e)))))) : FnT Try.prog 78 [.one (.sl 4 (l.map cArc)), .one (.fn (.func f) [] caps)] (.a (.one (.v (.int .i64 (findI p l 0))))) := by
 refine FnT.walk Try.func78 U (by kernel_rfl) Try.ntmps78 U fun hlen w0 => ?_
 try simp [cPair, cToken, cExpr, cEdge, cGraph, cStep, cWalk, cChange, cBatch, cHistory, cPositions, cAutomaton, cProductStep, cPathAtom, cConjunction, cView, cDelta, cRegistered, cRegistry] at hlen
 refine AW.sr ?_
 refine AWl.ac ?_
 refine AWl.nil (AW.seq ?_)
 refine AW.sr ?_
 refine AWl.mv ?_
 refine AWl.p (by exact R_lenm U (.no U) U (.tm U) (by exact .t) Try.underlying97) U ?_
 refine AWl.p (R_move U (.no U) U (.const U)) U ?_
 refine AWl.nil (AW.block ?_)
 refine AW.loop (β := Nat) (fun x => x ≤ (l).length ∧ ∀ j y, j < x → (l)[j]? = some y → (fun e => !p e) y = true) (fun x => ⟨_, [(8, (true, .a (.one (.t (.v (.int .i64 (x : Nat))))))), (0, _), (1, _), (7, _)], []⟩) (fun x => (l).length - x) (0) ⟨Nat.zero_le _, fun j y hj => absurd hj (Nat.not_lt_zero j)⟩ (Le.sub0 U ⟨U, U, U, U, Y⟩ trivial) ?_
 intro k hk
 refine AW.sr ?_
 refine AWl.p (R_lt U (.no U) U (.tm U) (.tm U)) U ?_
 refine AWl.nil (AW.seq ?_)
 refine AW.cond (.tm U) (fun hlt => ?_) (fun hlt => ?_)
 · skip
   try simp at hlt
   obtain ⟨x, hx⟩ : ∃ ξ, (l)[k]? = some ξ := ⟨_, List.getElem?_eq_getElem (by exact hlt)⟩
   refine AW.skip ?_
   refine AW.seq ?_
   refine AW.block ?_
   refine AW.sr ?_
   refine AWl.mv ?_
   refine AWl.av ?_
   refine AWl.nil (AW.sr ?_)
   refine AWl.mv ?_
   refine AWl.mv ?_
   refine AWl.mv ?_
   refine AWl.p ((by exact R_indexAddr U (.no U) U (.tm U) (.tm U) Try.underlying97 ty100 (fun _ => ⟨by omega, (by exact map_get (by assumption))⟩))) U ?_
   refine AWl.p (by exact R_load U (.no U) U (.tm U) ty100 U U) U ?_
   refine AWl.p (R_callv U (.no U) U (.tm U) (.cons (.tm U) U .nil) (hp x (List.mem_of_getElem? hx))) U ?_
   refine AWl.nil ?_
   refine AW.cond (.tm U) (fun h16 => ?_) (fun h16 => ?_)
   · skip
     try simp at h16
     refine AW.seq ?_
     refine AW.le (σ' := ⟨_, [(0, _), (1, _), (5, _), (7, _), (8, _)], []⟩) (Le.sub0 U ⟨U, U, U, U, U, Y⟩ trivial) ?_
     refine AW.region ?_
     refine AWl.mv ?_
     refine AWl.av ?_
     refine AWl.nil (AW.ret ?_)
     refine Res.v U U ?_
     rw [findI_at (k := k) hk.2 hx h16]; simp
   · skip
     try simp at h16
     refine AW.skip ?_
     refine AW.le (σ' := ⟨_, [(0, _), (1, _), (5, _), (7, _), (8, _)], []⟩) (Le.sub0 U ⟨U, U, U, U, U, Y⟩ trivial) ?_
     refine AW.region ?_
     refine AWl.p (R_add U (.no U) U (.tm U) (.const U) (fun _ => by omega)) U ?_
     refine AWl.mv ?_
     refine AWl.nil ?_
     refine Round.next (k + 1) ⟨by omega, each_succ hk.2 hx (by simp [h16])⟩ (by omega) (Le.sub0 rfl ⟨rfl, rfl, rfl, rfl, Y⟩ trivial)
 · skip
   try simp at hlt
   refine AW.exit ?_
   refine AW.sr ?_
   refine AWl.ac ?_
   refine AWl.nil (AW.ret ?_)
   refine Res.v U U ?_
   rw [findI_none hk.2 (by omega)]
theorem DeleteFuncArc (l : List TArc) (f : FuncId) (caps : List T) (p : TArc → Bool) (hp : ∀ e ∈ l, FrT Try.prog f ([.agg (cArc e)] ++ caps.map .one) (.a (.one (.v (.bool (p e)))))) (hz : l.length ≤ 1099511627776) : FnC Try.prog 58 [(true, .one (.sl 4 (l.map cArc))), (false, .one (.fn (.func f) [] caps))] (.a (.one (.sl 4 ((l.filter fun x => !p x).map cArc)))) := by
 refine FnC.walk Try.func58 rfl (by kernel_rfl) Try.ntmps58 rfl (by rfl) fun w0 => ?_
 refine AW.le (σ' := ⟨_, [(0, _), (1, _)], [(1000, _)]⟩) (Le.sub0 U ⟨U, U, Y⟩ ⟨U, Y⟩) ?_
 try simp [cPair, cToken, cExpr, cEdge, cGraph, cStep, cWalk, cChange, cBatch, cHistory, cPositions, cAutomaton, cProductStep, cPathAtom, cConjunction, cView, cDelta, cRegistered, cRegistry] at hlen
 have hfi := findI_spec p l 0
 have hfl := findI_lt (p := p) (l := l) (m := 0)
 refine AW.sr ?_
 refine AWl.ac ?_
 refine AWl.nilS (i := 4) 20001 4 U U ?_
 refine AWl.nil (AW.sr ?_)
 refine AWl.mv ?_
 refine AWl.mv ?_
 refine AWl.p (R_callz (FnT.fr (IndexFuncArc l f caps p hp)) U (.no U) U (.cons (.tm U) U (.cons (.tm U) U .nil))) U ?_
 refine AWl.av ?_
 refine AWl.nil (AW.seq ?_)
 refine AW.sr ?_
 refine AWl.mv ?_
 refine AWl.p (R_eq U (.no U) U (.tm U) (.const U)) U ?_
 refine AWl.nil ?_
 refine AW.cond (.tm U) (fun h12 => ?_) (fun h12 => ?_)
 · skip
   simp only [decide_eq_true_eq, decide_eq_false_iff_not] at h12
   have hno : ∀ x ∈ l, p x = false := by (rcases hfi with h | ⟨k, x, h1, h2, h3, h4⟩; exact h.2; omega)
   refine AW.sr ?_
   refine AWl.mv ?_
   refine AWl.av ?_
   refine AWl.nil (AW.ret ?_)
   refine Res.one U (.tmp U .nil) U ?_
   rw [filter_none hno]; rfl
 · skip
   simp only [decide_eq_true_eq, decide_eq_false_iff_not] at h12
   obtain ⟨i0, x0, h1, h2, h3, h4⟩ := hfi.resolve_left fun h => h12 h.1
   rw [Nat.zero_add] at h3
   rw [h3]
   have hi0 := (List.getElem?_eq_some_iff.1 h1).1
   have hs0 : l.take i0 = (l.take (i0 + 1)).filter fun x => !p x := by (rw [filter_take h1, filter_none h4, h2]; simp)
   refine AW.skip ?_
   refine AW.seq ?_
   refine AW.sr ?_
   refine AWl.mv ?_
   refine AWl.p (R_add U (.no U) U (.tm U) (.const U) (fun _ => by omega)) U ?_
   refine AWl.av ?_
   refine AWl.nil (AW.block ?_)
   refine AW.loop3 (fun (j : Nat) (i : Nat) (Rr : List TArc) => ((i + 1 ≤ j ∧ j ≤ l.length ∧ Rr.length = l.length)) ∧ Rr.drop j = l.drop j ∧ Rr.take i = (l.take j).filter fun x => !p x) (fun (j : Nat) (i : Nat) (Rr : List TArc) => ⟨_, [(6, (true, .a (.one (.t (.v (.int .i64 (j : Nat))))))), (5, (true, .a (.one (.t (.v (.int .i64 (i : Nat))))))), (0, _), (1, _), (4, _)], [(1000, .row 4 (Rr.map cArc))]⟩) (fun (j : Nat) (i : Nat) (Rr : List TArc) => l.length - j) (i0 + 1) (i0) (l) ⟨⟨Nat.le_refl _, by omega, U⟩, U, hs0⟩ (Le.sub0 U ⟨U, U, U, U, U, Y⟩ ⟨U, Y⟩) ?_
   rintro j i Rr ⟨hk, he⟩
   refine AW.seq ?_
   refine AW.sr ?_
   refine AWl.mv ?_
   refine AWl.mv ?_
   refine AWl.p (by exact R_lenm U (.no U) U (.tm U) (by exact .rf U) Try.underlying97) U ?_
   refine AWl.p (R_lt U (.no U) U (.tm U) (.tm U)) U ?_
   refine AWl.nil ?_
   refine AW.cond (.tm U) (fun h19 => ?_) (fun h19 => ?_)
   · skip
     try simp at h19
     obtain ⟨x, hx⟩ : ∃ ξ, l[j]? = some ξ := ⟨_, List.getElem?_eq_getElem (by omega)⟩
     have hxR : Rr[j]? = some x := by (rw [drop_get he.1 (by omega)]; exact hx)
     obtain ⟨r1, hr1⟩ : ∃ ξ, Rr[i]? = some ξ := ⟨_, List.getElem?_eq_getElem (by omega)⟩
     refine AW.skip ?_
     refine AW.seq ?_
     refine AW.block ?_
     refine AW.sr ?_
     refine AWl.mv ?_
     refine AWl.mv ?_
     refine AWl.p (by exact R_indexAddr_rf U (.no U) U (.tm U) U (.tm U) Try.underlying97 ty100 (fun _ => ⟨by omega, (map_get hxR)⟩)) U ?_
     refine AWl.p (by exact R_load_pr U (.no U) U (.tm U) U (map_get hxR) ty100 U U) U ?_
     refine AWl.add (R_alloc 7 U U U in100 U U U) U ?_
     refine AWl.chgb (R_store_pb U U U (.tm U) (.tm U) U ty100 U U U (by kernel_rfl) U) ?_
     refine AWl.nil (AW.seq ?_)
     refine AW.le (σ' := ⟨_, [(0, _), (1, _), (4, _), (5, _), (6, _), (7, _)], [(1000, _), (7, _)]⟩) (Le.sub0 U ⟨U, U, U, U, U, U, Y⟩ ⟨U, U, Y⟩) ?_
     refine AW.region ?_
     refine AWl.mv ?_
     refine AWl.p (by exact R_load_pp U (.no U) U (.tm U) U ty100 U U) U ?_
     refine AWl.p (R_callv U (.no U) U (.tm U) (.cons (.tm U) U .nil) (hp x (List.mem_of_getElem? hx))) U ?_
     refine AWl.p (R_not U (.no U) U (.tm U)) U ?_
     refine AWl.nil ?_
     refine AW.cond (.tm U) (fun h29 => ?_) (fun h29 => ?_)
     · skip
       try simp at h29
       refine AW.sr ?_
       refine AWl.mv ?_
       refine AWl.mv ?_
       refine AWl.p (by exact R_load_pp U (.no U) U (.tm U) U ty100 U U) U ?_
       refine AWl.p (by exact R_indexAddr_rf U (.no U) U (.tm U) U (.tm U) Try.underlying97 ty100 (fun _ => ⟨by omega, map_get hr1⟩)) U ?_
       refine AWl.absupd (R_store_pr U U U (.tm U) U (.tm U) U (map_get hr1) ty100 U U U U) ?_
       refine AWl.nil ?_
       refine AW.le (σ' := ⟨_, [(0, _), (1, _), (4, _), (5, _), (6, _), (7, _)], [(1000, _), (7, _)]⟩) (Le.sub0 U ⟨U, U, U, U, U, U, Y⟩ ⟨U, U, Y⟩) ?_
       refine AW.region ?_
       refine AWl.mv ?_
       refine AWl.p (R_add U (.no U) U (.tm U) (.const U) (fun _ => by omega)) U ?_
       refine AWl.av ?_
       refine AWl.nil (AW.region ?_)
       refine AWl.mv ?_
       refine AWl.p (R_add U (.no U) U (.tm U) (.const U) (fun _ => by omega)) U ?_
       refine AWl.av ?_
       refine AWl.nil ?_
       repeat (with_reducible refine BlockQ.nor ?_)
       refine Round3.next (j + 1) (i + 1) (Rr.set i x) ⟨⟨by omega, by omega, by simp; omega⟩, by rw [set_drop (by omega)]; exact drop_more he.1 (by omega), by rw [set_take (by omega), he.2, filter_take hx, h29]; rfl⟩ (by omega) (Le.sub0 rfl ⟨rfl, rfl, rfl, rfl, rfl, Y⟩ ⟨(by refine congrArg (fun r => some (R.row 4 r)) ?_; first | (rw [List.map_set]; rfl) | rfl | (simp; done)), Y⟩)
     · skip
       try simp at h29
       refine AW.skip ?_
       refine AW.region ?_
       refine AWl.mv ?_
       refine AWl.p (R_add U (.no U) U (.tm U) (.const U) (fun _ => by omega)) U ?_
       refine AWl.av ?_
       refine AWl.nil ?_
       repeat (with_reducible refine BlockQ.nor ?_)
       refine Round3.next (j + 1) (i) (Rr) ⟨⟨by omega, by omega, hk.2.2⟩, drop_more he.1 (by omega), by rw [he.2, filter_take hx, h29]; simp⟩ (by omega) (Le.sub0 rfl ⟨rfl, rfl, rfl, rfl, rfl, Y⟩ ⟨(by refine congrArg (fun r => some (R.row 4 r)) ?_; first | (rw [List.map_set]; rfl) | rfl | (simp; done)), Y⟩)
   · skip
     try simp at h19
     refine AW.exit ?_
     refine AW.sr ?_
     refine AWl.mv ?_
     refine AWl.mv ?_
     refine AWl.p ((by exact R_slice_rf (m := i) U (.no U) U (.tm U) U (.yes (.tm U) (fun _ => by first | rfl | omega | (simp <;> omega))) Try.underlying97 ty100 (fun _ => by simp; omega))) U ?_
     refine AWl.absupd (R_clear U U U (.tm U) U Try.underlying97 in100 U U) ?_
     refine AWl.nil (AW.seq ?_)
     refine AW.le (σ' := ⟨_, [(0, _), (1, _), (4, _), (5, _), (6, _)], [(1000, _)]⟩) (Le.sub0 U ⟨U, U, U, U, U, Y⟩ ⟨U, Y⟩) ?_
     refine AW.region ?_
     refine AWl.mv ?_
     refine AWl.mv ?_
     refine AWl.chgput (R_cut (m := i) U U U (.tm U) U (.yes (.tm U) (fun _ => by first | rfl | omega | (simp <;> omega))) Try.underlying97 ty100 (by simp; omega)) U ?_
     refine AWl.le (σ' := ⟨_, [(0, _), (1, _), (4, _), (5, _), (6, _), (41, _)], [(1000, _)]⟩) (Le.sub0 U ⟨U, U, U, U, U, U, Y⟩ ⟨U, Y⟩) ?_
     refine AWl.av ?_
     refine AWl.nil (AW.ret ?_)
     refine Res.one U (.tmp U .nil) U ?_
     refine congrArg (fun r => [V0.one (T.sl 4 r)]) ?_; exact cut_rows (by rw [he.2, List.take_of_length_le (by omega)]) (by omega)
theorem implallowedArcs1 (g : TGraph) (c x : Int) (e : TArc) (v w : Int) (h0 : 0 ≤ x) (hv : g.Values[x.toNat]? = some v) (h1 : 0 ≤ e.to) (hw : g.Values[e.to.toNat]? = some w) : FnT Try.prog 59 [.agg (cArc e), .one (.ad [.v (.int .i64 c)]), .one (.ad (cGraph g)), .one (.ad [.v (.int .i64 x)])] (.a (.one (.v (.bool (!condOk c v w))))) := by
 refine FnT.walk Try.func59 U (by kernel_rfl) Try.ntmps59 U fun hlen w0 => ?_
 try simp [cPair, cToken, cExpr, cEdge, cGraph, cStep, cWalk, cChange, cBatch, cHistory, cPositions, cAutomaton, cProductStep, cPathAtom, cConjunction, cView, cDelta, cRegistered, cRegistry] at hlen
 refine AW.sr ?_
 refine AWl.p (R_boxz U U U (.tm U) (ts := _) (by rfl)) U ?_
 refine AWl.ac ?_
 refine AWl.nil (AW.seq ?_)
 refine AW.drawn 15 (nthB [[], [], [1], [], [1, 2, 3], [1, 2, 3, 4], [], [6], [], [8], [6, 7, 8, 9], [6, 7, 8, 9, 10], [0, 1, 2, 3, 4, 5, 6, 7, 8, 9, 10, 11], [0, 1, 2, 3, 4, 5, 6, 7, 8, 9, 10, 11, 12], [0, 1, 2, 3, 4, 5, 6, 7, 8, 9, 10, 11, 12, 13]]) (by kernel_rfl) (by kernel_rfl) (by kernel_rfl) ?_
 refine DrawC.step U U U (Loc.of U fun σ' hs => (by exact R_load U (.no U) (hd_sup hs U) (.tm (hs.slots _ _ U)) ty3 U U)) ?_
 refine DrawC.step U U U (Loc.of U fun σ' hs => (by exact R_fieldAddr U (.no U) (hd_sup hs U) (.tm (hs.slots _ _ U)) fl39_0)) ?_
 refine DrawC.step U U U (Loc.of U fun σ' hs => (by exact R_load U (.no U) (hd_sup hs U) (.tm (hs.slots _ _ U)) ty22 U U)) ?_
 refine DrawC.step U U U (Loc.of U fun σ' hs => (by exact R_load U (.no U) (hd_sup hs U) (.tm (hs.slots _ _ U)) ty3 U U)) ?_
 refine DrawC.step U U U (Loc.of U fun σ' hs => (by exact R_indexAddr U (.no U) (hd_sup hs U) (.tm (hs.slots _ _ U)) (.tm (hs.slots _ _ U)) Try.underlying22 ty3 (fun _ => ⟨by omega, (by exact map_get hv)⟩))) ?_
 refine DrawC.step U U U (Loc.of U fun σ' hs => (by exact R_load U (.no U) (hd_sup hs U) (.tm (hs.slots _ _ U)) ty3 U U)) ?_
 refine DrawC.step U U U (Loc.of U fun σ' hs => (by exact R_fieldAddr U (.no U) (hd_sup hs U) (.tm (hs.slots _ _ U)) fl39_0)) ?_
 refine DrawC.step U U U (Loc.of U fun σ' hs => (by exact R_load U (.no U) (hd_sup hs U) (.tm (hs.slots _ _ U)) ty22 U U)) ?_
 refine DrawC.step U U U (Loc.of U fun σ' hs => (by exact R_fieldAddr U (.no U) (hd_sup hs U) (.tm (hs.slots _ _ U)) fl100_2)) ?_
 refine DrawC.step U U U (Loc.of U fun σ' hs => (by exact R_load U (.no U) (hd_sup hs U) (.tm (hs.slots _ _ U)) ty3 U U)) ?_
 refine DrawC.step U U U (Loc.of U fun σ' hs => (by exact R_indexAddr U (.no U) (hd_sup hs U) (.tm (hs.slots _ _ U)) (.tm (hs.slots _ _ U)) Try.underlying22 ty3 (fun _ => ⟨by omega, (by exact map_get hw)⟩))) ?_
 refine DrawC.step U U U (Loc.of U fun σ' hs => (by exact R_load U (.no U) (hd_sup hs U) (.tm (hs.slots _ _ U)) ty3 U U)) ?_
 refine DrawC.step U U U (Loc.of U fun σ' hs => R_callz (FnT.fr (implConditionHolds c v w)) U (.no U) (hd_sup hs U) (.cons (.tm (hs.slots _ _ U)) (readA_sup hs U) (.cons (.tm (hs.slots _ _ U)) (readA_sup hs U) (.cons (.tm (hs.slots _ _ U)) (readA_sup hs U) .nil)))) ?_
 refine DrawC.step U U U (Loc.of U fun σ' hs => R_not U (.no U) (hd_sup hs U) (.tm (hs.slots _ _ U))) ?_
 refine DrawC.step U U U (Loc.of U fun σ' hs => R_assign U (.no U) (hd_sup hs U) (.tm (hs.slots _ _ U))) ?_
 refine DrawC.fin U U ?_
 refine AWl.nil (AW.ret ?_)
 refine Res.v U U ?_
 rfl
theorem implallowedArcs (g : TGraph) (hg : validG g = true) (c : Int) : FnT Try.prog 32 [.agg (cGraph g), .one (.v (.int .i64 c))] (.a (.one (.sl 1 ((arcsCV g c).map cArcS)))) := by
 refine FnT.walk Try.func32 U (by kernel_rfl) Try.ntmps32 U fun hlen w0 => ?_
 try simp [cPair, cToken, cExpr, cEdge, cGraph, cStep, cWalk, cChange, cBatch, cHistory, cPositions, cAutomaton, cProductStep, cPathAtom, cConjunction, cView, cDelta, cRegistered, cRegistry] at hlen
 have hG := validG_len hg
 refine AW.sr ?_
 refine AWl.p (R_boxz U U U (.tm U) (ts := _) (by rfl)) U ?_
 refine AWl.p (R_boxz U U U (.tm U) (ts := _) (by exact cells_t1 _)) U ?_
 refine AWl.ac ?_
 refine AWl.nilS (i := 4) 20001 1 U U ?_
 refine AWl.nil (AW.sr ?_)
 refine AWl.p (by exact R_load U (.no U) U (.tm U) ty39 U U) U ?_
 refine AWl.adds (R_call 800 (implarcs g hg) U U U (.cons (.tm U) U .nil) U U) U ?_
 refine AWl.av ?_
 refine AWl.nil (AW.seq ?_)
 refine AW.sr ?_
 refine AWl.mv ?_
 refine AWl.p (by exact R_lenm U (.no U) U (.tm U) (by exact .rf U) Try.underlying68) U ?_
 refine AWl.p (R_move U (.no U) U (.const U)) U ?_
 refine AWl.nil (AW.block ?_)
 refine AW.loop1 (fun (x : Nat) => (x ≤ g.Values.length) ∧ True) (fun (x : Nat) => ⟨_, [(11, (true, .a (.one (.t (.v (.int .i64 (x : Nat))))))), (5, (true, .a (.one (.rf 800)))), (2, _), (3, _), (4, _), (10, _)], [(800, .row 1 (acRows g c x))]⟩) (fun (x : Nat) => g.Values.length - x) (0) ⟨Nat.zero_le _, Y⟩ (Le.sub0 U ⟨U, U, U, U, U, U, Y⟩ ⟨(by refine congrArg (fun r => some (R.row 1 r)) ?_; exact acRows_zero g c), Y⟩) ?_
 rintro x ⟨hk, he⟩
 refine AW.sr ?_
 refine AWl.p (R_lt U (.no U) U (.tm U) (.tm U)) U ?_
 refine AWl.nil (AW.seq ?_)
 refine AW.cond (.tm U) (fun h12 => ?_) (fun h12 => ?_)
 · skip
   try simp at h12
   have hxV : x < g.Values.length := by (first | omega | (simp [arcsV] at h12; omega) | (simp [acRows] at h12; omega))
   have hal : (arcsAt g x).length ≤ 24 := Nat.le_trans (arcsL_len _ _) (by omega)
   have hvx := valAt_ok hg (x := (x : Int)) (by omega)
   refine AW.skip ?_
   refine AW.seq ?_
   refine AW.block ?_
   refine AW.sr ?_
   refine AWl.mv ?_
   refine AWl.add (R_alloc 6 U U U in3 U U U) U ?_
   refine AWl.chgb (R_store_pb U U U (.tm U) (.tm U) U ty3 U U U (by kernel_rfl) U) ?_
   refine AWl.nil ?_
   refine AW.le (Le.frz 6 6 (xs := [.v (.int .i64 (x : Int))]) U U U) ?_
   refine AW.takeR (id := 800) (i := x) (p := 0) 721 722 U (acRows_self c hxV) U (fun _ => rfl) (fun _ => rfl) fun c721 => ?_
   refine AW.dagn 10 53 [[], [0], [1], [2], [3], [6], [0, 1], [0, 2], [0, 3], [0, 6], [1, 2], [1, 3], [1, 6], [2, 3], [2, 6], [3, 6], [0, 1, 2], [0, 1, 3], [0, 1, 6], [0, 2, 3], [0, 2, 6], [0, 3, 6], [1, 2, 3], [1, 2, 6], [1, 3, 6], [2, 3, 4], [2, 3, 6], [0, 1, 2, 3], [0, 1, 2, 6], [0, 1, 3, 6], [0, 2, 3, 4], [0, 2, 3, 6], [1, 2, 3, 4], [1, 2, 3, 6], [2, 3, 4, 5], [2, 3, 4, 6], [0, 1, 2, 3, 4], [0, 1, 2, 3, 6], [0, 2, 3, 4, 5], [0, 2, 3, 4, 6], [1, 2, 3, 4, 5], [1, 2, 3, 4, 6], [2, 3, 4, 5, 6], [0, 1, 2, 3, 4, 5], [0, 1, 2, 3, 4, 6], [0, 2, 3, 4, 5, 6], [1, 2, 3, 4, 5, 6], [2, 3, 4, 5, 6, 7], [0, 1, 2, 3, 4, 5, 6], [0, 2, 3, 4, 5, 6, 7], [1, 2, 3, 4, 5, 6, 7], [0, 1, 2, 3, 4, 5, 6, 7], [0, 1, 2, 3, 4, 5, 6, 7, 8], [0, 1, 2, 3, 4, 5, 6, 7, 8, 9]] [(0, 0, 1), (0, 1, 2), (0, 2, 3), (0, 3, 4), (0, 6, 5), (1, 1, 6), (2, 0, 6), (1, 2, 7), (3, 0, 7), (1, 3, 8), (4, 0, 8), (1, 6, 9), (5, 0, 9), (2, 2, 10), (3, 1, 10), (2, 3, 11), (4, 1, 11), (2, 6, 12), (5, 1, 12), (3, 3, 13), (4, 2, 13), (3, 6, 14), (5, 2, 14), (4, 6, 15), (5, 3, 15), (6, 2, 16), (10, 0, 16), (7, 1, 16), (6, 3, 17), (11, 0, 17), (8, 1, 17), (6, 6, 18), (12, 0, 18), (9, 1, 18), (7, 3, 19), (13, 0, 19), (8, 2, 19), (7, 6, 20), (14, 0, 20), (9, 2, 20), (8, 6, 21), (15, 0, 21), (9, 3, 21), (10, 3, 22), (13, 1, 22), (11, 2, 22), (10, 6, 23), (14, 1, 23), (12, 2, 23), (11, 6, 24), (15, 1, 24), (12, 3, 24), (13, 4, 25), (13, 6, 26), (15, 2, 26), (14, 3, 26), (16, 3, 27), (22, 0, 27), (19, 1, 27), (17, 2, 27), (16, 6, 28), (23, 0, 28), (20, 1, 28), (18, 2, 28), (17, 6, 29), (24, 0, 29), (21, 1, 29), (18, 3, 29), (19, 4, 30), (25, 0, 30), (19, 6, 31), (26, 0, 31), (21, 2, 31), (20, 3, 31), (22, 4, 32), (25, 1, 32), (22, 6, 33), (26, 1, 33), (24, 2, 33), (23, 3, 33), (25, 5, 34), (25, 6, 35), (26, 4, 35), (27, 4, 36), (32, 0, 36), (30, 1, 36), (27, 6, 37), (33, 0, 37), (31, 1, 37), (29, 2, 37), (28, 3, 37), (30, 5, 38), (34, 0, 38), (30, 6, 39), (35, 0, 39), (31, 4, 39), (32, 5, 40), (34, 1, 40), (32, 6, 41), (35, 1, 41), (33, 4, 41), (34, 6, 42), (35, 5, 42), (36, 5, 43), (40, 0, 43), (38, 1, 43), (36, 6, 44), (41, 0, 44), (39, 1, 44), (37, 4, 44), (38, 6, 45), (42, 0, 45), (39, 5, 45), (40, 6, 46), (42, 1, 46), (41, 5, 46), (42, 7, 47), (43, 6, 48), (46, 0, 48), (45, 1, 48), (44, 5, 48), (45, 7, 49), (47, 0, 49), (46, 7, 50), (47, 1, 50), (48, 7, 51), (50, 0, 51), (49, 1, 51), (51, 8, 52), (52, 9, 53)] (by kernel_rfl) (by kernel_rfl) (by kernel_rfl) ?_
   apply Dag.new (i := 0)
   case ha | ho | hb => rfl
   case hE =>
    intro w9
    refine AWl.mv ?_
    exact AWl.nil (Le.sub0 (σ' := ⟨_, [(2, _), (3, _), (4, _), (5, _), (6, _), (10, _), (11, _), (12, _), (14, _)], [(800, _), (6, _), (721, _), (722, _)]⟩) U ⟨U, U, U, U, U, U, U, U, U, Y⟩ ⟨U, U, U, U, Y⟩)
   apply Dag.new (i := 1)
   case ha | ho | hb => rfl
   case hE =>
    intro w9
    refine AWl.p (by exact R_load U (.no U) U (.tm U) ty3 U U) U ?_
    exact AWl.nil (Le.sub0 (σ' := ⟨_, [(2, _), (3, _), (4, _), (5, _), (6, _), (10, _), (11, _), (12, _), (15, _)], [(800, _), (6, _), (721, _), (722, _)]⟩) U ⟨U, U, U, U, U, U, U, U, U, Y⟩ ⟨U, U, U, U, Y⟩)
   apply Dag.new (i := 2)
   case ha | ho | hb => rfl
   case hE =>
    intro w9
    refine AWl.mv ?_
    exact AWl.nil (Le.sub0 (σ' := ⟨_, [(2, _), (3, _), (4, _), (5, _), (6, _), (10, _), (11, _), (12, _), (16, _)], [(800, _), (6, _), (721, _), (722, _)]⟩) U ⟨U, U, U, U, U, U, U, U, U, Y⟩ ⟨U, U, U, U, Y⟩)
   apply Dag.new (i := 3)
   case ha | ho | hb => rfl
   case hE =>
    intro w9
    refine AWl.p (by exact R_load U (.no U) U (.tm U) ty3 U U) U ?_
    exact AWl.nil (Le.sub0 (σ' := ⟨_, [(2, _), (3, _), (4, _), (5, _), (6, _), (10, _), (11, _), (12, _), (17, _)], [(800, _), (6, _), (721, _), (722, _)]⟩) U ⟨U, U, U, U, U, U, U, U, U, Y⟩ ⟨U, U, U, U, Y⟩)
   apply Dag.new (i := 6)
   case ha | ho | hb => rfl
   case hE =>
    intro w9
    refine AWl.p (R_makeFunc U (.no U) U (.cons (.tm U) (.cons (.tm U) (.cons (.tm U) .nil)))) U ?_
    exact AWl.nil (Le.sub0 (σ' := ⟨_, [(2, _), (3, _), (4, _), (5, _), (6, _), (10, _), (11, _), (12, _), (20, _)], [(800, _), (6, _), (721, _), (722, _)]⟩) U ⟨U, U, U, U, U, U, U, U, U, Y⟩ ⟨U, U, U, U, Y⟩)
   apply Dag.new (i := 1)
   case ha | ho | hb => rfl
   case hE =>
    intro w9
    refine AWl.p (by exact R_load U (.no U) U (.tm U) ty3 U U) U ?_
    exact AWl.nil (Le.sub0 (σ' := ⟨_, [(2, _), (3, _), (4, _), (5, _), (6, _), (10, _), (11, _), (12, _), (14, _), (15, _)], [(800, _), (6, _), (721, _), (722, _)]⟩) U ⟨U, U, U, U, U, U, U, U, U, U, Y⟩ ⟨U, U, U, U, Y⟩)
   apply Dag.old (i := 0)
   case ha | ho | hb => rfl
   case hE =>
    intro w9
    refine AWl.mv ?_
    exact AWl.nil (Le.sub0 U ⟨U, U, U, U, U, U, U, U, U, U, Y⟩ ⟨U, U, U, U, Y⟩)
   apply Dag.new (i := 2)
   case ha | ho | hb => rfl
   case hE =>
    intro w9
    refine AWl.mv ?_
    exact AWl.nil (Le.sub0 (σ' := ⟨_, [(2, _), (3, _), (4, _), (5, _), (6, _), (10, _), (11, _), (12, _), (14, _), (16, _)], [(800, _), (6, _), (721, _), (722, _)]⟩) U ⟨U, U, U, U, U, U, U, U, U, U, Y⟩ ⟨U, U, U, U, Y⟩)
   apply Dag.old (i := 0)
   case ha | ho | hb => rfl
   case hE =>
    intro w9
    refine AWl.mv ?_
    exact AWl.nil (Le.sub0 U ⟨U, U, U, U, U, U, U, U, U, U, Y⟩ ⟨U, U, U, U, Y⟩)
   apply Dag.new (i := 3)
   case ha | ho | hb => rfl
   case hE =>
    intro w9
    refine AWl.p (by exact R_load U (.no U) U (.tm U) ty3 U U) U ?_
    exact AWl.nil (Le.sub0 (σ' := ⟨_, [(2, _), (3, _), (4, _), (5, _), (6, _), (10, _), (11, _), (12, _), (14, _), (17, _)], [(800, _), (6, _), (721, _), (722, _)]⟩) U ⟨U, U, U, U, U, U, U, U, U, U, Y⟩ ⟨U, U, U, U, Y⟩)
   apply Dag.old (i := 0)
   case ha | ho | hb => rfl
   case hE =>
    intro w9
    refine AWl.mv ?_
    exact AWl.nil (Le.sub0 U ⟨U, U, U, U, U, U, U, U, U, U, Y⟩ ⟨U, U, U, U, Y⟩)
   apply Dag.new (i := 6)
   case ha | ho | hb => rfl
   case hE =>
    intro w9
    refine AWl.p (R_makeFunc U (.no U) U (.cons (.tm U) (.cons (.tm U) (.cons (.tm U) .nil)))) U ?_
    exact AWl.nil (Le.sub0 (σ' := ⟨_, [(2, _), (3, _), (4, _), (5, _), (6, _), (10, _), (11, _), (12, _), (14, _), (20, _)], [(800, _), (6, _), (721, _), (722, _)]⟩) U ⟨U, U, U, U, U, U, U, U, U, U, Y⟩ ⟨U, U, U, U, Y⟩)
   apply Dag.old (i := 0)
   case ha | ho | hb => rfl
   case hE =>
    intro w9
    refine AWl.mv ?_
    exact AWl.nil (Le.sub0 U ⟨U, U, U, U, U, U, U, U, U, U, Y⟩ ⟨U, U, U, U, Y⟩)
   apply Dag.new (i := 2)
   case ha | ho | hb => rfl
   case hE =>
    intro w9
    refine AWl.mv ?_
    exact AWl.nil (Le.sub0 (σ' := ⟨_, [(2, _), (3, _), (4, _), (5, _), (6, _), (10, _), (11, _), (12, _), (15, _), (16, _)], [(800, _), (6, _), (721, _), (722, _)]⟩) U ⟨U, U, U, U, U, U, U, U, U, U, Y⟩ ⟨U, U, U, U, Y⟩)
   apply Dag.old (i := 1)
   case ha | ho | hb => rfl
   case hE =>
    intro w9
    refine AWl.p (by exact R_load U (.no U) U (.tm U) ty3 U U) U ?_
    exact AWl.nil (Le.sub0 U ⟨U, U, U, U, U, U, U, U, U, U, Y⟩ ⟨U, U, U, U, Y⟩)
   apply Dag.new (i := 3)
   case ha | ho | hb => rfl
   case hE =>
    intro w9
    refine AWl.p (by exact R_load U (.no U) U (.tm U) ty3 U U) U ?_
    exact AWl.nil (Le.sub0 (σ' := ⟨_, [(2, _), (3, _), (4, _), (5, _), (6, _), (10, _), (11, _), (12, _), (15, _), (17, _)], [(800, _), (6, _), (721, _), (722, _)]⟩) U ⟨U, U, U, U, U, U, U, U, U, U, Y⟩ ⟨U, U, U, U, Y⟩)
   apply Dag.old (i := 1)
   case ha | ho | hb => rfl
   case hE =>
    intro w9
    refine AWl.p (by exact R_load U (.no U) U (.tm U) ty3 U U) U ?_
    exact AWl.nil (Le.sub0 U ⟨U, U, U, U, U, U, U, U, U, U, Y⟩ ⟨U, U, U, U, Y⟩)
   apply Dag.new (i := 6)
   case ha | ho | hb => rfl
   case hE =>
    intro w9
    refine AWl.p (R_makeFunc U (.no U) U (.cons (.tm U) (.cons (.tm U) (.cons (.tm U) .nil)))) U ?_
    exact AWl.nil (Le.sub0 (σ' := ⟨_, [(2, _), (3, _), (4, _), (5, _), (6, _), (10, _), (11, _), (12, _), (15, _), (20, _)], [(800, _), (6, _), (721, _), (722, _)]⟩) U ⟨U, U, U, U, U, U, U, U, U, U, Y⟩ ⟨U, U, U, U, Y⟩)
   apply Dag.old (i := 1)
   case ha | ho | hb => rfl
   case hE =>
    intro w9
    refine AWl.p (by exact R_load U (.no U) U (.tm U) ty3 U U) U ?_
    exact AWl.nil (Le.sub0 U ⟨U, U, U, U, U, U, U, U, U, U, Y⟩ ⟨U, U, U, U, Y⟩)
   apply Dag.new (i := 3)
   case ha | ho | hb => rfl
   case hE =>
    intro w9
    refine AWl.p (by exact R_load U (.no U) U (.tm U) ty3 U U) U ?_
    exact AWl.nil (Le.sub0 (σ' := ⟨_, [(2, _), (3, _), (4, _), (5, _), (6, _), (10, _), (11, _), (12, _), (16, _), (17, _)], [(800, _), (6, _), (721, _), (722, _)]⟩) U ⟨U, U, U, U, U, U, U, U, U, U, Y⟩ ⟨U, U, U, U, Y⟩)
   apply Dag.old (i := 2)
   case ha | ho | hb => rfl
   case hE =>
    intro w9
    refine AWl.mv ?_
    exact AWl.nil (Le.sub0 U ⟨U, U, U, U, U, U, U, U, U, U, Y⟩ ⟨U, U, U, U, Y⟩)
   apply Dag.new (i := 6)
   case ha | ho | hb => rfl
   case hE =>
    intro w9
    refine AWl.p (R_makeFunc U (.no U) U (.cons (.tm U) (.cons (.tm U) (.cons (.tm U) .nil)))) U ?_
    exact AWl.nil (Le.sub0 (σ' := ⟨_, [(2, _), (3, _), (4, _), (5, _), (6, _), (10, _), (11, _), (12, _), (16, _), (20, _)], [(800, _), (6, _), (721, _), (722, _)]⟩) U ⟨U, U, U, U, U, U, U, U, U, U, Y⟩ ⟨U, U, U, U, Y⟩)
   apply Dag.old (i := 2)
   case ha | ho | hb => rfl
   case hE =>
    intro w9
    refine AWl.mv ?_
    exact AWl.nil (Le.sub0 U ⟨U, U, U, U, U, U, U, U, U, U, Y⟩ ⟨U, U, U, U, Y⟩)
   apply Dag.new (i := 6)
   case ha | ho | hb => rfl
   case hE =>
    intro w9
    refine AWl.p (R_makeFunc U (.no U) U (.cons (.tm U) (.cons (.tm U) (.cons (.tm U) .nil)))) U ?_
    exact AWl.nil (Le.sub0 (σ' := ⟨_, [(2, _), (3, _), (4, _), (5, _), (6, _), (10, _), (11, _), (12, _), (17, _), (20, _)], [(800, _), (6, _), (721, _), (722, _)]⟩) U ⟨U, U, U, U, U, U, U, U, U, U, Y⟩ ⟨U, U, U, U, Y⟩)
   apply Dag.old (i := 3)
   case ha | ho | hb => rfl
   case hE =>
    intro w9
    refine AWl.p (by exact R_load U (.no U) U (.tm U) ty3 U U) U ?_
    exact AWl.nil (Le.sub0 U ⟨U, U, U, U, U, U, U, U, U, U, Y⟩ ⟨U, U, U, U, Y⟩)
   apply Dag.new (i := 2)
   case ha | ho | hb => rfl
   case hE =>
    intro w9
    refine AWl.mv ?_
    exact AWl.nil (Le.sub0 (σ' := ⟨_, [(2, _), (3, _), (4, _), (5, _), (6, _), (10, _), (11, _), (12, _), (14, _), (15, _), (16, _)], [(800, _), (6, _), (721, _), (722, _)]⟩) U ⟨U, U, U, U, U, U, U, U, U, U, U, Y⟩ ⟨U, U, U, U, Y⟩)
   apply Dag.old (i := 0)
   case ha | ho | hb => rfl
   case hE =>
    intro w9
    refine AWl.mv ?_
    exact AWl.nil (Le.sub0 U ⟨U, U, U, U, U, U, U, U, U, U, U, Y⟩ ⟨U, U, U, U, Y⟩)
   apply Dag.old (i := 1)
   case ha | ho | hb => rfl
   case hE =>
    intro w9
    refine AWl.p (by exact R_load U (.no U) U (.tm U) ty3 U U) U ?_
    exact AWl.nil (Le.sub0 U ⟨U, U, U, U, U, U, U, U, U, U, U, Y⟩ ⟨U, U, U, U, Y⟩)
   apply Dag.new (i := 3)
   case ha | ho | hb => rfl
   case hE =>
    intro w9
    refine AWl.p (by exact R_load U (.no U) U (.tm U) ty3 U U) U ?_
    exact AWl.nil (Le.sub0 (σ' := ⟨_, [(2, _), (3, _), (4, _), (5, _), (6, _), (10, _), (11, _), (12, _), (14, _), (15, _), (17, _)], [(800, _), (6, _), (721, _), (722, _)]⟩) U ⟨U, U, U, U, U, U, U, U, U, U, U, Y⟩ ⟨U, U, U, U, Y⟩)
   apply Dag.old (i := 0)
   case ha | ho | hb => rfl
   case hE =>
    intro w9
    refine AWl.mv ?_
    exact AWl.nil (Le.sub0 U ⟨U, U, U, U, U, U, U, U, U, U, U, Y⟩ ⟨U, U, U, U, Y⟩)
   apply Dag.old (i := 1)
   case ha | ho | hb => rfl
   case hE =>
    intro w9
    refine AWl.p (by exact R_load U (.no U) U (.tm U) ty3 U U) U ?_
    exact AWl.nil (Le.sub0 U ⟨U, U, U, U, U, U, U, U, U, U, U, Y⟩ ⟨U, U, U, U, Y⟩)
   apply Dag.new (i := 6)
   case ha | ho | hb => rfl
   case hE =>
    intro w9
    refine AWl.p (R_makeFunc U (.no U) U (.cons (.tm U) (.cons (.tm U) (.cons (.tm U) .nil)))) U ?_
    exact AWl.nil (Le.sub0 (σ' := ⟨_, [(2, _), (3, _), (4, _), (5, _), (6, _), (10, _), (11, _), (12, _), (14, _), (15, _), (20, _)], [(800, _), (6, _), (721, _), (722, _)]⟩) U ⟨U, U, U, U, U, U, U, U, U, U, U, Y⟩ ⟨U, U, U, U, Y⟩)
   apply Dag.old (i := 0)
   case ha | ho | hb => rfl
   case hE =>
    intro w9
    refine AWl.mv ?_
    exact AWl.nil (Le.sub0 U ⟨U, U, U, U, U, U, U, U, U, U, U, Y⟩ ⟨U, U, U, U, Y⟩)
   apply Dag.old (i := 1)
   case ha | ho | hb => rfl
   case hE =>
    intro w9
    refine AWl.p (by exact R_load U (.no U) U (.tm U) ty3 U U) U ?_
    exact AWl.nil (Le.sub0 U ⟨U, U, U, U, U, U, U, U, U, U, U, Y⟩ ⟨U, U, U, U, Y⟩)
   apply Dag.new (i := 3)
   case ha | ho | hb => rfl
   case hE =>
    intro w9
    refine AWl.p (by exact R_load U (.no U) U (.tm U) ty3 U U) U ?_
    exact AWl.nil (Le.sub0 (σ' := ⟨_, [(2, _), (3, _), (4, _), (5, _), (6, _), (10, _), (11, _), (12, _), (14, _), (16, _), (17, _)], [(800, _), (6, _), (721, _), (722, _)]⟩) U ⟨U, U, U, U, U, U, U, U, U, U, U, Y⟩ ⟨U, U, U, U, Y⟩)
   apply Dag.old (i := 0)
   case ha | ho | hb => rfl
   case hE =>
    intro w9
    refine AWl.mv ?_
    exact AWl.nil (Le.sub0 U ⟨U, U, U, U, U, U, U, U, U, U, U, Y⟩ ⟨U, U, U, U, Y⟩)
   apply Dag.old (i := 2)
   case ha | ho | hb => rfl
   case hE =>
    intro w9
    refine AWl.mv ?_
    exact AWl.nil (Le.sub0 U ⟨U, U, U, U, U, U, U, U, U, U, U, Y⟩ ⟨U, U, U, U, Y⟩)
   apply Dag.new (i := 6)
   case ha | ho | hb => rfl
   case hE =>
    intro w9
    refine AWl.p (R_makeFunc U (.no U) U (.cons (.tm U) (.cons (.tm U) (.cons (.tm U) .nil)))) U ?_
    exact AWl.nil (Le.sub0 (σ' := ⟨_, [(2, _), (3, _), (4, _), (5, _), (6, _), (10, _), (11, _), (12, _), (14, _), (16, _), (20, _)], [(800, _), (6, _), (721, _), (722, _)]⟩) U ⟨U, U, U, U, U, U, U, U, U, U, U, Y⟩ ⟨U, U, U, U, Y⟩)
   apply Dag.old (i := 0)
   case ha | ho | hb => rfl
   case hE =>
    intro w9
    refine AWl.mv ?_
    exact AWl.nil (Le.sub0 U ⟨U, U, U, U, U, U, U, U, U, U, U, Y⟩ ⟨U, U, U, U, Y⟩)
   apply Dag.old (i := 2)
   case ha | ho | hb => rfl
   case hE =>
    intro w9
    refine AWl.mv ?_
    exact AWl.nil (Le.sub0 U ⟨U, U, U, U, U, U, U, U, U, U, U, Y⟩ ⟨U, U, U, U, Y⟩)
   apply Dag.new (i := 6)
   case ha | ho | hb => rfl
   case hE =>
    intro w9
    refine AWl.p (R_makeFunc U (.no U) U (.cons (.tm U) (.cons (.tm U) (.cons (.tm U) .nil)))) U ?_
    exact AWl.nil (Le.sub0 (σ' := ⟨_, [(2, _), (3, _), (4, _), (5, _), (6, _), (10, _), (11, _), (12, _), (14, _), (17, _), (20, _)], [(800, _), (6, _), (721, _), (722, _)]⟩) U ⟨U, U, U, U, U, U, U, U, U, U, U, Y⟩ ⟨U, U, U, U, Y⟩)
   apply Dag.old (i := 0)
   case ha | ho | hb => rfl
   case hE =>
    intro w9
    refine AWl.mv ?_
    exact AWl.nil (Le.sub0 U ⟨U, U, U, U, U, U, U, U, U, U, U, Y⟩ ⟨U, U, U, U, Y⟩)
   apply Dag.old (i := 3)
   case ha | ho | hb => rfl
   case hE =>
    intro w9
    refine AWl.p (by exact R_load U (.no U) U (.tm U) ty3 U U) U ?_
    exact AWl.nil (Le.sub0 U ⟨U, U, U, U, U, U, U, U, U, U, U, Y⟩ ⟨U, U, U, U, Y⟩)
   apply Dag.new (i := 3)
   case ha | ho | hb => rfl
   case hE =>
    intro w9
    refine AWl.p (by exact R_load U (.no U) U (.tm U) ty3 U U) U ?_
    exact AWl.nil (Le.sub0 (σ' := ⟨_, [(2, _), (3, _), (4, _), (5, _), (6, _), (10, _), (11, _), (12, _), (15, _), (16, _), (17, _)], [(800, _), (6, _), (721, _), (722, _)]⟩) U ⟨U, U, U, U, U, U, U, U, U, U, U, Y⟩ ⟨U, U, U, U, Y⟩)
   apply Dag.old (i := 1)
   case ha | ho | hb => rfl
   case hE =>
    intro w9
    refine AWl.p (by exact R_load U (.no U) U (.tm U) ty3 U U) U ?_
    exact AWl.nil (Le.sub0 U ⟨U, U, U, U, U, U, U, U, U, U, U, Y⟩ ⟨U, U, U, U, Y⟩)
   apply Dag.old (i := 2)
   case ha | ho | hb => rfl
   case hE =>
    intro w9
    refine AWl.mv ?_
    exact AWl.nil (Le.sub0 U ⟨U, U, U, U, U, U, U, U, U, U, U, Y⟩ ⟨U, U, U, U, Y⟩)
   apply Dag.new (i := 6)
   case ha | ho | hb => rfl
   case hE =>
    intro w9
    refine AWl.p (R_makeFunc U (.no U) U (.cons (.tm U) (.cons (.tm U) (.cons (.tm U) .nil)))) U ?_
    exact AWl.nil (Le.sub0 (σ' := ⟨_, [(2, _), (3, _), (4, _), (5, _), (6, _), (10, _), (11, _), (12, _), (15, _), (16, _), (20, _)], [(800, _), (6, _), (721, _), (722, _)]⟩) U ⟨U, U, U, U, U, U, U, U, U, U, U, Y⟩ ⟨U, U, U, U, Y⟩)
   apply Dag.old (i := 1)
   case ha | ho | hb => rfl
   case hE =>
    intro w9
    refine AWl.p (by exact R_load U (.no U) U (.tm U) ty3 U U) U ?_
    exact AWl.nil (Le.sub0 U ⟨U, U, U, U, U, U, U, U, U, U, U, Y⟩ ⟨U, U, U, U, Y⟩)
   apply Dag.old (i := 2)
   case ha | ho | hb => rfl
   case hE =>
    intro w9
    refine AWl.mv ?_
    exact AWl.nil (Le.sub0 U ⟨U, U, U, U, U, U, U, U, U, U, U, Y⟩ ⟨U, U, U, U, Y⟩)
   apply Dag.new (i := 6)
   case ha | ho | hb => rfl
   case hE =>
    intro w9
    refine AWl.p (R_makeFunc U (.no U) U (.cons (.tm U) (.cons (.tm U) (.cons (.tm U) .nil)))) U ?_
    exact AWl.nil (Le.sub0 (σ' := ⟨_, [(2, _), (3, _), (4, _), (5, _), (6, _), (10, _), (11, _), (12, _), (15, _), (17, _), (20, _)], [(800, _), (6, _), (721, _), (722, _)]⟩) U ⟨U, U, U, U, U, U, U, U, U, U, U, Y⟩ ⟨U, U, U, U, Y⟩)
   apply Dag.old (i := 1)
   case ha | ho | hb => rfl
   case hE =>
    intro w9
    refine AWl.p (by exact R_load U (.no U) U (.tm U) ty3 U U) U ?_
    exact AWl.nil (Le.sub0 U ⟨U, U, U, U, U, U, U, U, U, U, U, Y⟩ ⟨U, U, U, U, Y⟩)
   apply Dag.old (i := 3)
   case ha | ho | hb => rfl
   case hE =>
    intro w9
    refine AWl.p (by exact R_load U (.no U) U (.tm U) ty3 U U) U ?_
    exact AWl.nil (Le.sub0 U ⟨U, U, U, U, U, U, U, U, U, U, U, Y⟩ ⟨U, U, U, U, Y⟩)
   apply Dag.new (i := 4)
   case ha | ho | hb => rfl
   case hE =>
    intro w9
    refine AWl.p (by exact R_indexAddr_rf U (.no U) U (.tm U) U (.tm U) Try.underlying68 ty97 (fun _ => ⟨by omega, set_at _ (acRows_self c hxV)⟩)) U ?_
    exact AWl.nil (Le.sub0 (σ' := ⟨_, [(2, _), (3, _), (4, _), (5, _), (6, _), (10, _), (11, _), (12, _), (18, _)], [(800, _), (6, _), (721, _), (722, _)]⟩) U ⟨U, U, U, U, U, U, U, U, U, Y⟩ ⟨U, U, U, U, Y⟩)
   apply Dag.new (i := 6)
   case ha | ho | hb => rfl
   case hE =>
    intro w9
    refine AWl.p (R_makeFunc U (.no U) U (.cons (.tm U) (.cons (.tm U) (.cons (.tm U) .nil)))) U ?_
    exact AWl.nil (Le.sub0 (σ' := ⟨_, [(2, _), (3, _), (4, _), (5, _), (6, _), (10, _), (11, _), (12, _), (16, _), (17, _), (20, _)], [(800, _), (6, _), (721, _), (722, _)]⟩) U ⟨U, U, U, U, U, U, U, U, U, U, U, Y⟩ ⟨U, U, U, U, Y⟩)
   apply Dag.old (i := 2)
   case ha | ho | hb => rfl
   case hE =>
    intro w9
    refine AWl.mv ?_
    exact AWl.nil (Le.sub0 U ⟨U, U, U, U, U, U, U, U, U, U, U, Y⟩ ⟨U, U, U, U, Y⟩)
   apply Dag.old (i := 3)
   case ha | ho | hb => rfl
   case hE =>
    intro w9
    refine AWl.p (by exact R_load U (.no U) U (.tm U) ty3 U U) U ?_
    exact AWl.nil (Le.sub0 U ⟨U, U, U, U, U, U, U, U, U, U, U, Y⟩ ⟨U, U, U, U, Y⟩)
   apply Dag.new (i := 3)
   case ha | ho | hb => rfl
   case hE =>
    intro w9
    refine AWl.p (by exact R_load U (.no U) U (.tm U) ty3 U U) U ?_
    exact AWl.nil (Le.sub0 (σ' := ⟨_, [(2, _), (3, _), (4, _), (5, _), (6, _), (10, _), (11, _), (12, _), (14, _), (15, _), (16, _), (17, _)], [(800, _), (6, _), (721, _), (722, _)]⟩) U ⟨U, U, U, U, U, U, U, U, U, U, U, U, Y⟩ ⟨U, U, U, U, Y⟩)
   apply Dag.old (i := 0)
   case ha | ho | hb => rfl
   case hE =>
    intro w9
    refine AWl.mv ?_
    exact AWl.nil (Le.sub0 U ⟨U, U, U, U, U, U, U, U, U, U, U, U, Y⟩ ⟨U, U, U, U, Y⟩)
   apply Dag.old (i := 1)
   case ha | ho | hb => rfl
   case hE =>
    intro w9
    refine AWl.p (by exact R_load U (.no U) U (.tm U) ty3 U U) U ?_
    exact AWl.nil (Le.sub0 U ⟨U, U, U, U, U, U, U, U, U, U, U, U, Y⟩ ⟨U, U, U, U, Y⟩)
   apply Dag.old (i := 2)
   case ha | ho | hb => rfl
   case hE =>
    intro w9
    refine AWl.mv ?_
    exact AWl.nil (Le.sub0 U ⟨U, U, U, U, U, U, U, U, U, U, U, U, Y⟩ ⟨U, U, U, U, Y⟩)
   apply Dag.new (i := 6)
   case ha | ho | hb => rfl
   case hE =>
    intro w9
    refine AWl.p (R_makeFunc U (.no U) U (.cons (.tm U) (.cons (.tm U) (.cons (.tm U) .nil)))) U ?_
    exact AWl.nil (Le.sub0 (σ' := ⟨_, [(2, _), (3, _), (4, _), (5, _), (6, _), (10, _), (11, _), (12, _), (14, _), (15, _), (16, _), (20, _)], [(800, _), (6, _), (721, _), (722, _)]⟩) U ⟨U, U, U, U, U, U, U, U, U, U, U, U, Y⟩ ⟨U, U, U, U, Y⟩)
   apply Dag.old (i := 0)
   case ha | ho | hb => rfl
   case hE =>
    intro w9
    refine AWl.mv ?_
    exact AWl.nil (Le.sub0 U ⟨U, U, U, U, U, U, U, U, U, U, U, U, Y⟩ ⟨U, U, U, U, Y⟩)
   apply Dag.old (i := 1)
   case ha | ho | hb => rfl
   case hE =>
    intro w9
    refine AWl.p (by exact R_load U (.no U) U (.tm U) ty3 U U) U ?_
    exact AWl.nil (Le.sub0 U ⟨U, U, U, U, U, U, U, U, U, U, U, U, Y⟩ ⟨U, U, U, U, Y⟩)
   apply Dag.old (i := 2)
   case ha | ho | hb => rfl
   case hE =>
    intro w9
    refine AWl.mv ?_
    exact AWl.nil (Le.sub0 U ⟨U, U, U, U, U, U, U, U, U, U, U, U, Y⟩ ⟨U, U, U, U, Y⟩)
   apply Dag.new (i := 6)
   case ha | ho | hb => rfl
   case hE =>
    intro w9
    refine AWl.p (R_makeFunc U (.no U) U (.cons (.tm U) (.cons (.tm U) (.cons (.tm U) .nil)))) U ?_
    exact AWl.nil (Le.sub0 (σ' := ⟨_, [(2, _), (3, _), (4, _), (5, _), (6, _), (10, _), (11, _), (12, _), (14, _), (15, _), (17, _), (20, _)], [(800, _), (6, _), (721, _), (722, _)]⟩) U ⟨U, U, U, U, U, U, U, U, U, U, U, U, Y⟩ ⟨U, U, U, U, Y⟩)
   apply Dag.old (i := 0)
   case ha | ho | hb => rfl
   case hE =>
    intro w9
    refine AWl.mv ?_
    exact AWl.nil (Le.sub0 U ⟨U, U, U, U, U, U, U, U, U, U, U, U, Y⟩ ⟨U, U, U, U, Y⟩)
   apply Dag.old (i := 1)
   case ha | ho | hb => rfl
   case hE =>
    intro w9
    refine AWl.p (by exact R_load U (.no U) U (.tm U) ty3 U U) U ?_
    exact AWl.nil (Le.sub0 U ⟨U, U, U, U, U, U, U, U, U, U, U, U, Y⟩ ⟨U, U, U, U, Y⟩)
   apply Dag.old (i := 3)
   case ha | ho | hb => rfl
   case hE =>
    intro w9
    refine AWl.p (by exact R_load U (.no U) U (.tm U) ty3 U U) U ?_
    exact AWl.nil (Le.sub0 U ⟨U, U, U, U, U, U, U, U, U, U, U, U, Y⟩ ⟨U, U, U, U, Y⟩)
   apply Dag.new (i := 4)
   case ha | ho | hb => rfl
   case hE =>
    intro w9
    refine AWl.p (by exact R_indexAddr_rf U (.no U) U (.tm U) U (.tm U) Try.underlying68 ty97 (fun _ => ⟨by omega, set_at _ (acRows_self c hxV)⟩)) U ?_
    exact AWl.nil (Le.sub0 (σ' := ⟨_, [(2, _), (3, _), (4, _), (5, _), (6, _), (10, _), (11, _), (12, _), (14, _), (18, _)], [(800, _), (6, _), (721, _), (722, _)]⟩) U ⟨U, U, U, U, U, U, U, U, U, U, Y⟩ ⟨U, U, U, U, Y⟩)
   apply Dag.old (i := 0)
   case ha | ho | hb => rfl
   case hE =>
    intro w9
    refine AWl.mv ?_
    exact AWl.nil (Le.sub0 U ⟨U, U, U, U, U, U, U, U, U, U, Y⟩ ⟨U, U, U, U, Y⟩)
   apply Dag.new (i := 6)
   case ha | ho | hb => rfl
   case hE =>
    intro w9
    refine AWl.p (R_makeFunc U (.no U) U (.cons (.tm U) (.cons (.tm U) (.cons (.tm U) .nil)))) U ?_
    exact AWl.nil (Le.sub0 (σ' := ⟨_, [(2, _), (3, _), (4, _), (5, _), (6, _), (10, _), (11, _), (12, _), (14, _), (16, _), (17, _), (20, _)], [(800, _), (6, _), (721, _), (722, _)]⟩) U ⟨U, U, U, U, U, U, U, U, U, U, U, U, Y⟩ ⟨U, U, U, U, Y⟩)
   apply Dag.old (i := 0)
   case ha | ho | hb => rfl
   case hE =>
    intro w9
    refine AWl.mv ?_
    exact AWl.nil (Le.sub0 U ⟨U, U, U, U, U, U, U, U, U, U, U, U, Y⟩ ⟨U, U, U, U, Y⟩)
   apply Dag.old (i := 2)
   case ha | ho | hb => rfl
   case hE =>
    intro w9
    refine AWl.mv ?_
    exact AWl.nil (Le.sub0 U ⟨U, U, U, U, U, U, U, U, U, U, U, U, Y⟩ ⟨U, U, U, U, Y⟩)
   apply Dag.old (i := 3)
   case ha | ho | hb => rfl
   case hE =>
    intro w9
    refine AWl.p (by exact R_load U (.no U) U (.tm U) ty3 U U) U ?_
    exact AWl.nil (Le.sub0 U ⟨U, U, U, U, U, U, U, U, U, U, U, U, Y⟩ ⟨U, U, U, U, Y⟩)
   apply Dag.new (i := 4)
   case ha | ho | hb => rfl
   case hE =>
    intro w9
    refine AWl.p (by exact R_indexAddr_rf U (.no U) U (.tm U) U (.tm U) Try.underlying68 ty97 (fun _ => ⟨by omega, set_at _ (acRows_self c hxV)⟩)) U ?_
    exact AWl.nil (Le.sub0 (σ' := ⟨_, [(2, _), (3, _), (4, _), (5, _), (6, _), (10, _), (11, _), (12, _), (15, _), (18, _)], [(800, _), (6, _), (721, _), (722, _)]⟩) U ⟨U, U, U, U, U, U, U, U, U, U, Y⟩ ⟨U, U, U, U, Y⟩)
   apply Dag.old (i := 1)
   case ha | ho | hb => rfl
   case hE =>
    intro w9
    refine AWl.p (by exact R_load U (.no U) U (.tm U) ty3 U U) U ?_
    exact AWl.nil (Le.sub0 U ⟨U, U, U, U, U, U, U, U, U, U, Y⟩ ⟨U, U, U, U, Y⟩)
   apply Dag.new (i := 6)
   case ha | ho | hb => rfl
   case hE =>
    intro w9
    refine AWl.p (R_makeFunc U (.no U) U (.cons (.tm U) (.cons (.tm U) (.cons (.tm U) .nil)))) U ?_
    exact AWl.nil (Le.sub0 (σ' := ⟨_, [(2, _), (3, _), (4, _), (5, _), (6, _), (10, _), (11, _), (12, _), (15, _), (16, _), (17, _), (20, _)], [(800, _), (6, _), (721, _), (722, _)]⟩) U ⟨U, U, U, U, U, U, U, U, U, U, U, U, Y⟩ ⟨U, U, U, U, Y⟩)
   apply Dag.old (i := 1)
   case ha | ho | hb => rfl
   case hE =>
    intro w9
    refine AWl.p (by exact R_load U (.no U) U (.tm U) ty3 U U) U ?_
    exact AWl.nil (Le.sub0 U ⟨U, U, U, U, U, U, U, U, U, U, U, U, Y⟩ ⟨U, U, U, U, Y⟩)
   apply Dag.old (i := 2)
   case ha | ho | hb => rfl
   case hE =>
    intro w9
    refine AWl.mv ?_
    exact AWl.nil (Le.sub0 U ⟨U, U, U, U, U, U, U, U, U, U, U, U, Y⟩ ⟨U, U, U, U, Y⟩)
   apply Dag.old (i := 3)
   case ha | ho | hb => rfl
   case hE =>
    intro w9
    refine AWl.p (by exact R_load U (.no U) U (.tm U) ty3 U U) U ?_
    exact AWl.nil (Le.sub0 U ⟨U, U, U, U, U, U, U, U, U, U, U, U, Y⟩ ⟨U, U, U, U, Y⟩)
   apply Dag.new (i := 5)
   case ha | ho | hb => rfl
   case hE =>
    intro w9
    refine AWl.p (R_load_hdr (nid := 721) (hid := 722) U (.no U) U (.tm U) U (set_at _ (acRows_self c hxV)) ty97 U U U U U U) U ?_
    exact AWl.nil (Le.sub0 (σ' := ⟨_, [(2, _), (3, _), (4, _), (5, _), (6, _), (10, _), (11, _), (12, _), (19, _)], [(800, _), (6, _), (721, _), (722, _)]⟩) U ⟨U, U, U, U, U, U, U, U, U, Y⟩ ⟨U, U, U, U, Y⟩)
   apply Dag.new (i := 6)
   case ha | ho | hb => rfl
   case hE =>
    intro w9
    refine AWl.p (R_makeFunc U (.no U) U (.cons (.tm U) (.cons (.tm U) (.cons (.tm U) .nil)))) U ?_
    exact AWl.nil (Le.sub0 (σ' := ⟨_, [(2, _), (3, _), (4, _), (5, _), (6, _), (10, _), (11, _), (12, _), (18, _), (20, _)], [(800, _), (6, _), (721, _), (722, _)]⟩) U ⟨U, U, U, U, U, U, U, U, U, U, Y⟩ ⟨U, U, U, U, Y⟩)
   apply Dag.old (i := 4)
   case ha | ho | hb => rfl
   case hE =>
    intro w9
    refine AWl.p (by exact R_indexAddr_rf U (.no U) U (.tm U) U (.tm U) Try.underlying68 ty97 (fun _ => ⟨by omega, set_at _ (acRows_self c hxV)⟩)) U ?_
    exact AWl.nil (Le.sub0 U ⟨U, U, U, U, U, U, U, U, U, U, Y⟩ ⟨U, U, U, U, Y⟩)
   apply Dag.new (i := 4)
   case ha | ho | hb => rfl
   case hE =>
    intro w9
    refine AWl.p (by exact R_indexAddr_rf U (.no U) U (.tm U) U (.tm U) Try.underlying68 ty97 (fun _ => ⟨by omega, set_at _ (acRows_self c hxV)⟩)) U ?_
    exact AWl.nil (Le.sub0 (σ' := ⟨_, [(2, _), (3, _), (4, _), (5, _), (6, _), (10, _), (11, _), (12, _), (14, _), (15, _), (18, _)], [(800, _), (6, _), (721, _), (722, _)]⟩) U ⟨U, U, U, U, U, U, U, U, U, U, U, Y⟩ ⟨U, U, U, U, Y⟩)
   apply Dag.old (i := 0)
   case ha | ho | hb => rfl
   case hE =>
    intro w9
    refine AWl.mv ?_
    exact AWl.nil (Le.sub0 U ⟨U, U, U, U, U, U, U, U, U, U, U, Y⟩ ⟨U, U, U, U, Y⟩)
   apply Dag.old (i := 1)
   case ha | ho | hb => rfl
   case hE =>
    intro w9
    refine AWl.p (by exact R_load U (.no U) U (.tm U) ty3 U U) U ?_
    exact AWl.nil (Le.sub0 U ⟨U, U, U, U, U, U, U, U, U, U, U, Y⟩ ⟨U, U, U, U, Y⟩)
   apply Dag.new (i := 6)
   case ha | ho | hb => rfl
   case hE =>
    intro w9
    refine AWl.p (R_makeFunc U (.no U) U (.cons (.tm U) (.cons (.tm U) (.cons (.tm U) .nil)))) U ?_
    exact AWl.nil (Le.sub0 (σ' := ⟨_, [(2, _), (3, _), (4, _), (5, _), (6, _), (10, _), (11, _), (12, _), (14, _), (15, _), (16, _), (17, _), (20, _)], [(800, _), (6, _), (721, _), (722, _)]⟩) U ⟨U, U, U, U, U, U, U, U, U, U, U, U, U, Y⟩ ⟨U, U, U, U, Y⟩)
   apply Dag.old (i := 0)
   case ha | ho | hb => rfl
   case hE =>
    intro w9
    refine AWl.mv ?_
    exact AWl.nil (Le.sub0 U ⟨U, U, U, U, U, U, U, U, U, U, U, U, U, Y⟩ ⟨U, U, U, U, Y⟩)
   apply Dag.old (i := 1)
   case ha | ho | hb => rfl
   case hE =>
    intro w9
    refine AWl.p (by exact R_load U (.no U) U (.tm U) ty3 U U) U ?_
    exact AWl.nil (Le.sub0 U ⟨U, U, U, U, U, U, U, U, U, U, U, U, U, Y⟩ ⟨U, U, U, U, Y⟩)
   apply Dag.old (i := 2)
   case ha | ho | hb => rfl
   case hE =>
    intro w9
    refine AWl.mv ?_
    exact AWl.nil (Le.sub0 U ⟨U, U, U, U, U, U, U, U, U, U, U, U, U, Y⟩ ⟨U, U, U, U, Y⟩)
   apply Dag.old (i := 3)
   case ha | ho | hb => rfl
   case hE =>
    intro w9
    refine AWl.p (by exact R_load U (.no U) U (.tm U) ty3 U U) U ?_
    exact AWl.nil (Le.sub0 U ⟨U, U, U, U, U, U, U, U, U, U, U, U, U, Y⟩ ⟨U, U, U, U, Y⟩)
   apply Dag.new (i := 5)
   case ha | ho | hb => rfl
   case hE =>
    intro w9
    refine AWl.p (R_load_hdr (nid := 721) (hid := 722) U (.no U) U (.tm U) U (set_at _ (acRows_self c hxV)) ty97 U U U U U U) U ?_
    exact AWl.nil (Le.sub0 (σ' := ⟨_, [(2, _), (3, _), (4, _), (5, _), (6, _), (10, _), (11, _), (12, _), (14, _), (19, _)], [(800, _), (6, _), (721, _), (722, _)]⟩) U ⟨U, U, U, U, U, U, U, U, U, U, Y⟩ ⟨U, U, U, U, Y⟩)
   apply Dag.old (i := 0)
   case ha | ho | hb => rfl
   case hE =>
    intro w9
    refine AWl.mv ?_
    exact AWl.nil (Le.sub0 U ⟨U, U, U, U, U, U, U, U, U, U, Y⟩ ⟨U, U, U, U, Y⟩)
   apply Dag.new (i := 6)
   case ha | ho | hb => rfl
   case hE =>
    intro w9
    refine AWl.p (R_makeFunc U (.no U) U (.cons (.tm U) (.cons (.tm U) (.cons (.tm U) .nil)))) U ?_
    exact AWl.nil (Le.sub0 (σ' := ⟨_, [(2, _), (3, _), (4, _), (5, _), (6, _), (10, _), (11, _), (12, _), (14, _), (18, _), (20, _)], [(800, _), (6, _), (721, _), (722, _)]⟩) U ⟨U, U, U, U, U, U, U, U, U, U, U, Y⟩ ⟨U, U, U, U, Y⟩)
   apply Dag.old (i := 0)
   case ha | ho | hb => rfl
   case hE =>
    intro w9
    refine AWl.mv ?_
    exact AWl.nil (Le.sub0 U ⟨U, U, U, U, U, U, U, U, U, U, U, Y⟩ ⟨U, U, U, U, Y⟩)
   apply Dag.old (i := 4)
   case ha | ho | hb => rfl
   case hE =>
    intro w9
    refine AWl.p (by exact R_indexAddr_rf U (.no U) U (.tm U) U (.tm U) Try.underlying68 ty97 (fun _ => ⟨by omega, set_at _ (acRows_self c hxV)⟩)) U ?_
    exact AWl.nil (Le.sub0 U ⟨U, U, U, U, U, U, U, U, U, U, U, Y⟩ ⟨U, U, U, U, Y⟩)
   apply Dag.new (i := 5)
   case ha | ho | hb => rfl
   case hE =>
    intro w9
    refine AWl.p (R_load_hdr (nid := 721) (hid := 722) U (.no U) U (.tm U) U (set_at _ (acRows_self c hxV)) ty97 U U U U U U) U ?_
    exact AWl.nil (Le.sub0 (σ' := ⟨_, [(2, _), (3, _), (4, _), (5, _), (6, _), (10, _), (11, _), (12, _), (15, _), (19, _)], [(800, _), (6, _), (721, _), (722, _)]⟩) U ⟨U, U, U, U, U, U, U, U, U, U, Y⟩ ⟨U, U, U, U, Y⟩)
   apply Dag.old (i := 1)
   case ha | ho | hb => rfl
   case hE =>
    intro w9
    refine AWl.p (by exact R_load U (.no U) U (.tm U) ty3 U U) U ?_
    exact AWl.nil (Le.sub0 U ⟨U, U, U, U, U, U, U, U, U, U, Y⟩ ⟨U, U, U, U, Y⟩)
   apply Dag.new (i := 6)
   case ha | ho | hb => rfl
   case hE =>
    intro w9
    refine AWl.p (R_makeFunc U (.no U) U (.cons (.tm U) (.cons (.tm U) (.cons (.tm U) .nil)))) U ?_
    exact AWl.nil (Le.sub0 (σ' := ⟨_, [(2, _), (3, _), (4, _), (5, _), (6, _), (10, _), (11, _), (12, _), (15, _), (18, _), (20, _)], [(800, _), (6, _), (721, _), (722, _)]⟩) U ⟨U, U, U, U, U, U, U, U, U, U, U, Y⟩ ⟨U, U, U, U, Y⟩)
   apply Dag.old (i := 1)
   case ha | ho | hb => rfl
   case hE =>
    intro w9
    refine AWl.p (by exact R_load U (.no U) U (.tm U) ty3 U U) U ?_
    exact AWl.nil (Le.sub0 U ⟨U, U, U, U, U, U, U, U, U, U, U, Y⟩ ⟨U, U, U, U, Y⟩)
   apply Dag.old (i := 4)
   case ha | ho | hb => rfl
   case hE =>
    intro w9
    refine AWl.p (by exact R_indexAddr_rf U (.no U) U (.tm U) U (.tm U) Try.underlying68 ty97 (fun _ => ⟨by omega, set_at _ (acRows_self c hxV)⟩)) U ?_
    exact AWl.nil (Le.sub0 U ⟨U, U, U, U, U, U, U, U, U, U, U, Y⟩ ⟨U, U, U, U, Y⟩)
   apply Dag.new (i := 6)
   case ha | ho | hb => rfl
   case hE =>
    intro w9
    refine AWl.p (R_makeFunc U (.no U) U (.cons (.tm U) (.cons (.tm U) (.cons (.tm U) .nil)))) U ?_
    exact AWl.nil (Le.sub0 (σ' := ⟨_, [(2, _), (3, _), (4, _), (5, _), (6, _), (10, _), (11, _), (12, _), (19, _), (20, _)], [(800, _), (6, _), (721, _), (722, _)]⟩) U ⟨U, U, U, U, U, U, U, U, U, U, Y⟩ ⟨U, U, U, U, Y⟩)
   apply Dag.old (i := 5)
   case ha | ho | hb => rfl
   case hE =>
    intro w9
    refine AWl.p (R_load_hdr (nid := 721) (hid := 722) U (.no U) U (.tm U) U (set_at _ (acRows_self c hxV)) ty97 U U U U U U) U ?_
    exact AWl.nil (Le.sub0 U ⟨U, U, U, U, U, U, U, U, U, U, Y⟩ ⟨U, U, U, U, Y⟩)
   apply Dag.new (i := 5)
   case ha | ho | hb => rfl
   case hE =>
    intro w9
    refine AWl.p (R_load_hdr (nid := 721) (hid := 722) U (.no U) U (.tm U) U (set_at _ (acRows_self c hxV)) ty97 U U U U U U) U ?_
    exact AWl.nil (Le.sub0 (σ' := ⟨_, [(2, _), (3, _), (4, _), (5, _), (6, _), (10, _), (11, _), (12, _), (14, _), (15, _), (19, _)], [(800, _), (6, _), (721, _), (722, _)]⟩) U ⟨U, U, U, U, U, U, U, U, U, U, U, Y⟩ ⟨U, U, U, U, Y⟩)
   apply Dag.old (i := 0)
   case ha | ho | hb => rfl
   case hE =>
    intro w9
    refine AWl.mv ?_
    exact AWl.nil (Le.sub0 U ⟨U, U, U, U, U, U, U, U, U, U, U, Y⟩ ⟨U, U, U, U, Y⟩)
   apply Dag.old (i := 1)
   case ha | ho | hb => rfl
   case hE =>
    intro w9
    refine AWl.p (by exact R_load U (.no U) U (.tm U) ty3 U U) U ?_
    exact AWl.nil (Le.sub0 U ⟨U, U, U, U, U, U, U, U, U, U, U, Y⟩ ⟨U, U, U, U, Y⟩)
   apply Dag.new (i := 6)
   case ha | ho | hb => rfl
   case hE =>
    intro w9
    refine AWl.p (R_makeFunc U (.no U) U (.cons (.tm U) (.cons (.tm U) (.cons (.tm U) .nil)))) U ?_
    exact AWl.nil (Le.sub0 (σ' := ⟨_, [(2, _), (3, _), (4, _), (5, _), (6, _), (10, _), (11, _), (12, _), (14, _), (15, _), (18, _), (20, _)], [(800, _), (6, _), (721, _), (722, _)]⟩) U ⟨U, U, U, U, U, U, U, U, U, U, U, U, Y⟩ ⟨U, U, U, U, Y⟩)
   apply Dag.old (i := 0)
   case ha | ho | hb => rfl
   case hE =>
    intro w9
    refine AWl.mv ?_
    exact AWl.nil (Le.sub0 U ⟨U, U, U, U, U, U, U, U, U, U, U, U, Y⟩ ⟨U, U, U, U, Y⟩)
   apply Dag.old (i := 1)
   case ha | ho | hb => rfl
   case hE =>
    intro w9
    refine AWl.p (by exact R_load U (.no U) U (.tm U) ty3 U U) U ?_
    exact AWl.nil (Le.sub0 U ⟨U, U, U, U, U, U, U, U, U, U, U, U, Y⟩ ⟨U, U, U, U, Y⟩)
   apply Dag.old (i := 4)
   case ha | ho | hb => rfl
   case hE =>
    intro w9
    refine AWl.p (by exact R_indexAddr_rf U (.no U) U (.tm U) U (.tm U) Try.underlying68 ty97 (fun _ => ⟨by omega, set_at _ (acRows_self c hxV)⟩)) U ?_
    exact AWl.nil (Le.sub0 U ⟨U, U, U, U, U, U, U, U, U, U, U, U, Y⟩ ⟨U, U, U, U, Y⟩)
   apply Dag.new (i := 6)
   case ha | ho | hb => rfl
   case hE =>
    intro w9
    refine AWl.p (R_makeFunc U (.no U) U (.cons (.tm U) (.cons (.tm U) (.cons (.tm U) .nil)))) U ?_
    exact AWl.nil (Le.sub0 (σ' := ⟨_, [(2, _), (3, _), (4, _), (5, _), (6, _), (10, _), (11, _), (12, _), (14, _), (19, _), (20, _)], [(800, _), (6, _), (721, _), (722, _)]⟩) U ⟨U, U, U, U, U, U, U, U, U, U, U, Y⟩ ⟨U, U, U, U, Y⟩)
   apply Dag.old (i := 0)
   case ha | ho | hb => rfl
   case hE =>
    intro w9
    refine AWl.mv ?_
    exact AWl.nil (Le.sub0 U ⟨U, U, U, U, U, U, U, U, U, U, U, Y⟩ ⟨U, U, U, U, Y⟩)
   apply Dag.old (i := 5)
   case ha | ho | hb => rfl
   case hE =>
    intro w9
    refine AWl.p (R_load_hdr (nid := 721) (hid := 722) U (.no U) U (.tm U) U (set_at _ (acRows_self c hxV)) ty97 U U U U U U) U ?_
    exact AWl.nil (Le.sub0 U ⟨U, U, U, U, U, U, U, U, U, U, U, Y⟩ ⟨U, U, U, U, Y⟩)
   apply Dag.new (i := 6)
   case ha | ho | hb => rfl
   case hE =>
    intro w9
    refine AWl.p (R_makeFunc U (.no U) U (.cons (.tm U) (.cons (.tm U) (.cons (.tm U) .nil)))) U ?_
    exact AWl.nil (Le.sub0 (σ' := ⟨_, [(2, _), (3, _), (4, _), (5, _), (6, _), (10, _), (11, _), (12, _), (15, _), (19, _), (20, _)], [(800, _), (6, _), (721, _), (722, _)]⟩) U ⟨U, U, U, U, U, U, U, U, U, U, U, Y⟩ ⟨U, U, U, U, Y⟩)
   apply Dag.old (i := 1)
   case ha | ho | hb => rfl
   case hE =>
    intro w9
    refine AWl.p (by exact R_load U (.no U) U (.tm U) ty3 U U) U ?_
    exact AWl.nil (Le.sub0 U ⟨U, U, U, U, U, U, U, U, U, U, U, Y⟩ ⟨U, U, U, U, Y⟩)
   apply Dag.old (i := 5)
   case ha | ho | hb => rfl
   case hE =>
    intro w9
    refine AWl.p (R_load_hdr (nid := 721) (hid := 722) U (.no U) U (.tm U) U (set_at _ (acRows_self c hxV)) ty97 U U U U U U) U ?_
    exact AWl.nil (Le.sub0 U ⟨U, U, U, U, U, U, U, U, U, U, U, Y⟩ ⟨U, U, U, U, Y⟩)
   apply Dag.new (i := 7)
   case ha | ho | hb => rfl
   case hE =>
    intro w9
    apply AWl.consume
    case ho =>
     apply R_consume (xo := .tmp 19) 721 (DeleteFuncArc (arcsAt g x) 59 [.ad [.v (.int .i64 c)], .ad (cGraph g), .ad [.v (.int .i64 (x : Int))]] (fun y => !condOk c (valAt g x) (valAt g y.to)) (fun e he => (implallowedArcs1 g c x e _ _ (by omega) hvx.1 (arc_mem hg he).2.2.1 (valAt_ok hg (arc_mem hg he).2.2).1).fr) (by omega)) rfl rfl rfl (.tm rfl)
     case ha => rfl
     case hargs => exact (ArgC.own (ArgRd.one (.tm rfl) .nil))
     all_goals rfl
    case hd => rfl
    exact AWl.nil (Le.sub0 (σ' := ⟨_, [(2, _), (3, _), (4, _), (5, _), (6, _), (10, _), (11, _), (12, _), (21, _)], [(800, _), (6, _), (722, _), (721, _)]⟩) U ⟨U, U, U, U, U, U, U, U, U, Y⟩ ⟨U, U, U, U, Y⟩)
   apply Dag.new (i := 6)
   case ha | ho | hb => rfl
   case hE =>
    intro w9
    refine AWl.p (R_makeFunc U (.no U) U (.cons (.tm U) (.cons (.tm U) (.cons (.tm U) .nil)))) U ?_
    exact AWl.nil (Le.sub0 (σ' := ⟨_, [(2, _), (3, _), (4, _), (5, _), (6, _), (10, _), (11, _), (12, _), (14, _), (15, _), (19, _), (20, _)], [(800, _), (6, _), (721, _), (722, _)]⟩) U ⟨U, U, U, U, U, U, U, U, U, U, U, U, Y⟩ ⟨U, U, U, U, Y⟩)
   apply Dag.old (i := 0)
   case ha | ho | hb => rfl
   case hE =>
    intro w9
    refine AWl.mv ?_
    exact AWl.nil (Le.sub0 U ⟨U, U, U, U, U, U, U, U, U, U, U, U, Y⟩ ⟨U, U, U, U, Y⟩)
   apply Dag.old (i := 1)
   case ha | ho | hb => rfl
   case hE =>
    intro w9
    refine AWl.p (by exact R_load U (.no U) U (.tm U) ty3 U U) U ?_
    exact AWl.nil (Le.sub0 U ⟨U, U, U, U, U, U, U, U, U, U, U, U, Y⟩ ⟨U, U, U, U, Y⟩)
   apply Dag.old (i := 5)
   case ha | ho | hb => rfl
   case hE =>
    intro w9
    refine AWl.p (R_load_hdr (nid := 721) (hid := 722) U (.no U) U (.tm U) U (set_at _ (acRows_self c hxV)) ty97 U U U U U U) U ?_
    exact AWl.nil (Le.sub0 U ⟨U, U, U, U, U, U, U, U, U, U, U, U, Y⟩ ⟨U, U, U, U, Y⟩)
   apply Dag.new (i := 7)
   case ha | ho | hb => rfl
   case hE =>
    intro w9
    apply AWl.consume
    case ho =>
     apply R_consume (xo := .tmp 19) 721 (DeleteFuncArc (arcsAt g x) 59 [.ad [.v (.int .i64 c)], .ad (cGraph g), .ad [.v (.int .i64 (x : Int))]] (fun y => !condOk c (valAt g x) (valAt g y.to)) (fun e he => (implallowedArcs1 g c x e _ _ (by omega) hvx.1 (arc_mem hg he).2.2.1 (valAt_ok hg (arc_mem hg he).2.2).1).fr) (by omega)) rfl rfl rfl (.tm rfl)
     case ha => rfl
     case hargs => exact (ArgC.own (ArgRd.one (.tm rfl) .nil))
     all_goals rfl
    case hd => rfl
    exact AWl.nil (Le.sub0 (σ' := ⟨_, [(2, _), (3, _), (4, _), (5, _), (6, _), (10, _), (11, _), (12, _), (14, _), (21, _)], [(800, _), (6, _), (722, _), (721, _)]⟩) U ⟨U, U, U, U, U, U, U, U, U, U, Y⟩ ⟨U, U, U, U, Y⟩)
   apply Dag.old (i := 0)
   case ha | ho | hb => rfl
   case hE =>
    intro w9
    refine AWl.mv ?_
    exact AWl.nil (Le.sub0 U ⟨U, U, U, U, U, U, U, U, U, U, Y⟩ ⟨U, U, U, U, Y⟩)
   apply Dag.new (i := 7)
   case ha | ho | hb => rfl
   case hE =>
    intro w9
    apply AWl.consume
    case ho =>
     apply R_consume (xo := .tmp 19) 721 (DeleteFuncArc (arcsAt g x) 59 [.ad [.v (.int .i64 c)], .ad (cGraph g), .ad [.v (.int .i64 (x : Int))]] (fun y => !condOk c (valAt g x) (valAt g y.to)) (fun e he => (implallowedArcs1 g c x e _ _ (by omega) hvx.1 (arc_mem hg he).2.2.1 (valAt_ok hg (arc_mem hg he).2.2).1).fr) (by omega)) rfl rfl rfl (.tm rfl)
     case ha => rfl
     case hargs => exact (ArgC.own (ArgRd.one (.tm rfl) .nil))
     all_goals rfl
    case hd => rfl
    exact AWl.nil (Le.sub0 (σ' := ⟨_, [(2, _), (3, _), (4, _), (5, _), (6, _), (10, _), (11, _), (12, _), (15, _), (21, _)], [(800, _), (6, _), (722, _), (721, _)]⟩) U ⟨U, U, U, U, U, U, U, U, U, U, Y⟩ ⟨U, U, U, U, Y⟩)
   apply Dag.old (i := 1)
   case ha | ho | hb => rfl
   case hE =>
    intro w9
    refine AWl.p (by exact R_load U (.no U) U (.tm U) ty3 U U) U ?_
    exact AWl.nil (Le.sub0 U ⟨U, U, U, U, U, U, U, U, U, U, Y⟩ ⟨U, U, U, U, Y⟩)
   apply Dag.new (i := 7)
   case ha | ho | hb => rfl
   case hE =>
    intro w9
    apply AWl.consume
    case ho =>
     apply R_consume (xo := .tmp 19) 721 (DeleteFuncArc (arcsAt g x) 59 [.ad [.v (.int .i64 c)], .ad (cGraph g), .ad [.v (.int .i64 (x : Int))]] (fun y => !condOk c (valAt g x) (valAt g y.to)) (fun e he => (implallowedArcs1 g c x e _ _ (by omega) hvx.1 (arc_mem hg he).2.2.1 (valAt_ok hg (arc_mem hg he).2.2).1).fr) (by omega)) rfl rfl rfl (.tm rfl)
     case ha => rfl
     case hargs => exact (ArgC.own (ArgRd.one (.tm rfl) .nil))
     all_goals rfl
    case hd => rfl
    exact AWl.nil (Le.sub0 (σ' := ⟨_, [(2, _), (3, _), (4, _), (5, _), (6, _), (10, _), (11, _), (12, _), (14, _), (15, _), (21, _)], [(800, _), (6, _), (722, _), (721, _)]⟩) U ⟨U, U, U, U, U, U, U, U, U, U, U, Y⟩ ⟨U, U, U, U, Y⟩)
   apply Dag.old (i := 0)
   case ha | ho | hb => rfl
   case hE =>
    intro w9
    refine AWl.mv ?_
    exact AWl.nil (Le.sub0 U ⟨U, U, U, U, U, U, U, U, U, U, U, Y⟩ ⟨U, U, U, U, Y⟩)
   apply Dag.old (i := 1)
   case ha | ho | hb => rfl
   case hE =>
    intro w9
    refine AWl.p (by exact R_load U (.no U) U (.tm U) ty3 U U) U ?_
    exact AWl.nil (Le.sub0 U ⟨U, U, U, U, U, U, U, U, U, U, U, Y⟩ ⟨U, U, U, U, Y⟩)
   apply Dag.new (i := 8)
   case ha | ho | hb => rfl
   case hE =>
    intro w9
    refine AWl.p (by exact R_indexAddr_rf U (.no U) U (.tm U) U (.tm U) Try.underlying68 ty97 (fun _ => ⟨by omega, set_at _ (acRows_self c hxV)⟩)) U ?_
    exact AWl.nil (Le.sub0 (σ' := ⟨_, [(2, _), (3, _), (4, _), (5, _), (6, _), (10, _), (11, _), (12, _), (21, _), (22, _)], [(800, _), (6, _), (722, _), (721, _)]⟩) U ⟨U, U, U, U, U, U, U, U, U, U, Y⟩ ⟨U, U, U, U, Y⟩)
   apply Dag.new (i := 9)
   case ha | ho | hb => rfl
   case hE =>
    intro w9
    refine AWl.absupd (R_store_pr U U U (.tm U) U (.tm U) U (set_at _ (acRows_self c hxV)) ty97 U U U U) ?_
    exact AWl.nil (Le.sub0 (σ' := ⟨_, [(2, _), (3, _), (4, _), (5, _), (6, _), (10, _), (11, _), (12, _)], [(800, _), (6, _), (722, _)]⟩) U ⟨U, U, U, U, U, U, U, U, Y⟩ ⟨U, U, U, Y⟩)
   refine Dag.fin (k := 53) U ?_
   refine AWl.nil (AW.region ?_)
   refine AWl.p (R_add U (.no U) U (.tm U) (.const U) (fun _ => by omega)) U ?_
   refine AWl.mv ?_
   refine AWl.nil ?_
   repeat (with_reducible refine BlockQ.nor ?_)
   refine Round1.next (x + 1) ⟨by omega, Y⟩ (by omega) (Le.sub0 rfl ⟨rfl, rfl, rfl, rfl, rfl, rfl, Y⟩ ⟨(by refine congrArg (fun r => some (R.row 1 r)) ?_; first | (simp; exact acRows_set g c x) | (simp; done)), Y⟩)
 · skip
   try simp at h12
   refine AW.exit ?_
   refine AW.sr ?_
   refine AWl.mv ?_
   refine AWl.av ?_
   refine AWl.nil (AW.ret ?_)
   refine Res.one U (.tmp U .nil) U ?_
   rw [acRows_end g c (by (simp [arcsV] at h12; omega))]; rfl
theorem implallowedLength (g : TGraph) (a : TAutomaton) (ha : validA a = true) (hg : validG g = true) (c xx y : Int) (hxx : 0 ≤ xx ∧ xx < g.Values.length) (hy : 0 ≤ y ∧ y < g.Values.length) : FnT Try.prog 33 [.agg (cGraph g), .agg (cAutomaton a), .one (.sl 1 ((arcsCV g c).map cArcS)), .one (.v (.int .i64 xx)), .one (.v (.int .i64 y))] (.a (.one (.v (.int .i64 (atI (distC g a c y (valAt g y)) (xx * (a.Accept.length : Int) + a.Start)))))) := by
 refine FnT.walk Try.func33 U (by kernel_rfl) Try.ntmps33 U fun hlen w0 => ?_
 try simp [cPair, cToken, cExpr, cEdge, cGraph, cStep, cWalk, cChange, cBatch, cHistory, cPositions, cAutomaton, cProductStep, cPathAtom, cConjunction, cView, cDelta, cRegistered, cRegistry] at hlen
 have hA := validA_len ha
 have hP := pow_le_12 ha
 have hG := validG_len hg
 have hN : 1 ≤ NP g a ∧ NP g a ≤ 60 := prod_le ha hg
 have hNP : NP g a = a.Accept.length * g.Values.length := rfl
 have hnv : (a.Accept.length : Int) * (g.Values.length : Int) ≤ 60 ∧ 0 ≤ (a.Accept.length : Int) * (g.Values.length : Int) := ⟨Int.le_trans (Int.mul_le_mul (show (a.Accept.length : Int) ≤ 12 by omega) (show (g.Values.length : Int) ≤ 5 by omega) (by omega) (by omega)) (by omega), Int.mul_nonneg (by omega) (by omega)⟩
 have hav : (arcsCV g c).length = g.Values.length := by simp [arcsCV]
 have hvy := valAt_ok hg hy
 have hnl : (nextC g a c).length = NP g a := nextC_len g a c
 have htl : (turnedL (nextC g a c)).length = NP g a := by rw [turnedL_len, hnl]
 have hnz : ∀ p, p < (nextC g a c).length → (nxL (nextC g a c) p).length ≤ 1536 := fun p hp => by rw [nextC_len] at hp; rw [nextC_at hp]; exact nxC_len a hg c p
 have hgz : (goalsL a y (valAt g y)).length ≤ 12 := by unfold goalsL; rw [List.length_map]; exact Nat.le_trans (List.length_filter_le _ _) (by simp; omega)
 have htz : ∀ p, p < (turnedL (nextC g a c)).length → (nxL (turnedL (nextC g a c)) p).length ≤ 131072 := fun p hp => by rw [turnedL_len] at hp; rw [turnedL_at hp]; have := turnAt_len (nx := nxL (nextC g a c)) (b := 1536) (N := (nextC g a c).length) hnz p (nextC g a c).length (Nat.le_refl _); omega
 have hss := start_ok (g := g) ha hxx
 have hdl := (toC_ok ha hg c hy hvy.1).1
 have hgi := atI_get (out := distC g a c y (valAt g y)) (k := xx * (a.Accept.length : Int) + a.Start) (by omega)
 refine AW.sr ?_
 refine AWl.p (R_boxz U U U (.tm U) (ts := _) (by rfl)) U ?_
 refine AWl.p (R_boxz U U U (.tm U) (ts := _) (by rfl)) U ?_
 refine AWl.ac ?_
 refine AWl.nil (AW.sr ?_)
 refine AWl.p (by exact R_fieldAddr U (.no U) U (.tm U) fl41_1) U ?_
 refine AWl.p (by exact R_load U (.no U) U (.tm U) ty26 U U) U ?_
 refine AWl.p (by exact R_lenm U (.no U) U (.tm U) (by exact .t) Try.underlying26) U ?_
 refine AWl.av ?_
 refine AWl.nil (AW.sr ?_)
 refine AWl.mv ?_
 refine AWl.p (by exact R_fieldAddr U (.no U) U (.tm U) fl39_0) U ?_
 refine AWl.p (by exact R_load U (.no U) U (.tm U) ty22 U U) U ?_
 refine AWl.p (by exact R_lenm U (.no U) U (.tm U) (by exact .t) Try.underlying22) U ?_
 refine AWl.p (R_mul U (.no U) U (.tm U) (.tm U) (fun _ => by omega)) U ?_
 refine AWl.add (R_makeSlice 28 U U U (.tm U) Try.underlying27 in22 U U U U (by omega)) U ?_
 refine AWl.le (Le.nilRow (id := 28) 1 U) ?_
 refine AWl.av ?_
 refine AWl.nil (AW.seq ?_)
 refine AW.seq ?_
 refine AW.le (σ' := ⟨_, [(0, _), (1, _), (2, _), (3, _), (4, _), (5, _), (6, _), (10, _), (11, _), (12, _)], [(28, _)]⟩) (Le.sub0 U ⟨U, U, U, U, U, U, U, U, U, U, Y⟩ ⟨U, Y⟩) ?_
 refine AW.region ?_
 refine AWl.mv ?_
 refine AWl.p (by exact R_lenm U (.no U) U (.tm U) (by exact .t) Try.underlying68) U ?_
 refine AWl.p (R_move U (.no U) U (.const U)) U ?_
 refine AWl.nil (AW.block ?_)
 refine AW.loop1 (fun (x : Nat) => (x ≤ g.Values.length) ∧ True) (fun (x : Nat) => ⟨_, [(31, (true, .a (.one (.t (.v (.int .i64 (x : Nat))))))), (12, (true, .a (.one (.rf 28)))), (3, _), (4, _), (5, _), (6, _), (10, _), (11, _), (29, _), (30, _)], [(28, .row 1 (nvR (nxC g a c) (NP g a) (x * a.Accept.length) []))]⟩) (fun (x : Nat) => g.Values.length - x) (0) ⟨Nat.zero_le _, Y⟩ (Le.sub0 U ⟨U, U, U, U, U, U, U, U, U, U, Y⟩ ⟨(by (refine congrArg (fun r => some (R.row 1 r)) ?_; first | (rw [← Int.natCast_mul, Int.toNat_natCast, Nat.zero_mul]; exact nvR_zero _ _) | (simp; done))), Y⟩) ?_
 rintro x ⟨hk, he⟩
 refine AW.sr ?_
 refine AWl.p (R_lt U (.no U) U (.tm U) (.tm U)) U ?_
 refine AWl.nil (AW.seq ?_)
 refine AW.cond (.tm U) (fun h32 => ?_) (fun h32 => ?_)
 · skip
   try simp at h32
   have hxV : x < g.Values.length := by (first | omega | (simp at h32; omega))
   have hvx := valAt_ok hg (x := (x : Int)) (by omega)
   have hx1 : (arcsCV g c)[x]? = some (arcsC g c x) := by (unfold arcsCV; exact range_get _ (by omega))
   have hal := arcsC_len hg c x
   refine AW.skip ?_
   refine AW.seq ?_
   refine AW.block ?_
   refine AW.sr ?_
   refine AWl.mv ?_
   refine AWl.p (by exact R_indexAddr U (.no U) U (.tm U) (.tm U) Try.underlying68 ty97 (fun _ => ⟨by omega, (by exact map_get hx1)⟩)) U ?_
   refine AWl.p (by exact R_load U (.no U) U (.tm U) ty97 U U) U ?_
   refine AWl.av ?_
   refine AWl.av ?_
   refine AWl.nil (AW.sr ?_)
   refine AWl.ac ?_
   refine AWl.nil (AW.block ?_)
   refine AW.loop1 (fun (s : Nat) => (s ≤ a.Accept.length) ∧ True) (fun (s : Nat) => ⟨_, [(15, (true, .a (.one (.t (.v (.int .i64 (s : Nat))))))), (12, (true, .a (.one (.rf 28)))), (3, _), (4, _), (5, _), (6, _), (10, _), (11, _), (13, _), (14, _), (29, _), (30, _), (31, _)], [(28, .row 1 (nvR (nxC g a c) (NP g a) (x * a.Accept.length + s) []))]⟩) (fun (s : Nat) => a.Accept.length - s) (0) ⟨Nat.zero_le _, Y⟩ (Le.sub0 U ⟨U, U, U, U, U, U, U, U, U, U, U, U, U, Y⟩ ⟨(by rfl), Y⟩) ?_
   rintro s ⟨hk1, he1⟩
   refine AW.seq ?_
   refine AW.sr ?_
   refine AWl.mv ?_
   refine AWl.mv ?_
   refine AWl.p (R_lt U (.no U) U (.tm U) (.tm U)) U ?_
   refine AWl.nil ?_
   refine AW.cond (.tm U) (fun h38 => ?_) (fun h38 => ?_)
   · skip
     try simp at h38
     have hpi : ((x : Int) * (a.Accept.length : Int) + (s : Int)).toNat = x * a.Accept.length + s := by (rw [← Int.natCast_mul]; omega)
     have hpl : x * a.Accept.length + s < NP g a := idx_lt (x := x) (s := s) (n := a.Accept.length) (V := g.Values.length) (by omega) (by omega)
     have hpb : (x : Int) * (a.Accept.length : Int) ≤ 60 ∧ 0 ≤ (x : Int) * (a.Accept.length : Int) := ⟨Int.le_trans (Int.mul_le_mul (show (x : Int) ≤ 5 by omega) (show (a.Accept.length : Int) ≤ 12 by omega) (by omega) (by omega)) (by omega), Int.mul_nonneg (by omega) (by omega)⟩
     have hsp := pow_12 ha (x := s) (by omega)
     have hnx : nxC g a c (x * a.Accept.length + s) = (arcsC g c x).flatMap (vertN a s (valAt g x)) := nxC_at g a c (by omega)
     refine AW.skip ?_
     refine AW.seq ?_
     refine AW.block ?_
     refine AW.sr ?_
     refine AWl.mv ?_
     refine AWl.p (by exact R_lenm U (.no U) U (.tm U) (by exact .t) Try.underlying97) U ?_
     refine AWl.p (R_move U (.no U) U (.const U)) U ?_
     refine AWl.nil (AW.block ?_)
     refine AW.loop1 (fun (j : Nat) => (j ≤ (arcsC g c x).length) ∧ True) (fun (j : Nat) => ⟨_, [(43, (true, .a (.one (.t (.v (.int .i64 (j : Nat))))))), (12, (true, .a (.one (.rf 28)))), (3, _), (4, _), (5, _), (6, _), (10, _), (11, _), (13, _), (14, _), (15, _), (29, _), (30, _), (31, _), (41, _), (42, _)], [(28, .row 1 (nvR (nxC g a c) (NP g a) (x * a.Accept.length + s) (((arcsC g c x).take j).flatMap (vertN a s (valAt g x)))))]⟩) (fun (j : Nat) => (arcsC g c x).length - j) (0) ⟨Nat.zero_le _, Y⟩ (Le.sub0 U ⟨U, U, U, U, U, U, U, U, U, U, U, U, U, U, U, U, Y⟩ ⟨(by rfl), Y⟩) ?_
     rintro j ⟨hk2, he2⟩
     refine AW.sr ?_
     refine AWl.p (R_lt U (.no U) U (.tm U) (.tm U)) U ?_
     refine AWl.nil (AW.seq ?_)
     refine AW.cond (.tm U) (fun h44 => ?_) (fun h44 => ?_)
     · skip
       try simp at h44
       obtain ⟨y', hy'⟩ : ∃ ξ, (arcsC g c x)[j]? = some ξ := ⟨_, List.getElem?_eq_getElem (by omega)⟩
       have hyo := arc_mem hg (List.mem_filter.1 (List.mem_of_getElem? hy')).1
       have haft : FnT Try.prog 62 [.agg (cAutomaton a), .one (.v (.int .i64 ((2 ^ s : Nat) : Int))), .one (.v (.int .i64 (valAt g x))), .one (.v (.int .i64 y'.letter))] (.a (.one (.v (.int .i64 (aft1 a s (valAt g x) y'.letter : Nat))))) := by (have := implafter a ha (2 ^ s) (Nat.pow_lt_pow_right (by omega) (by omega)) (valAt g x) y'.letter hvx.2 (by omega); rwa [aftS_pow a (valAt g x) y'.letter (by omega)] at this)
       have hafl := aft1_lt ha (s := (s : Int)) (v := valAt g x) (k := y'.letter) hvx.2 (by omega) (by omega)
       have hbl := bitsI_le (aft1 a s (valAt g x) y'.letter)
       have hbe := bitsI_len (aft1 a s (valAt g x) y'.letter)
       have hyb : y'.to * (a.Accept.length : Int) ≤ 60 ∧ 0 ≤ y'.to * (a.Accept.length : Int) := ⟨Int.le_trans (Int.mul_le_mul (show y'.to ≤ 5 by omega) (show (a.Accept.length : Int) ≤ 12 by omega) (by omega) (by omega)) (by omega), Int.mul_nonneg (by omega) (by omega)⟩
       have hfl : (((arcsC g c x).take j).flatMap (vertN a s (valAt g x))).length ≤ 24 * 64 := Nat.le_trans (flatMap_len (b := 64) (fun y => by rw [vertN_len]; exact bits_len _) _) (Nat.mul_le_mul_right _ (by simp; omega))
       refine AW.skip ?_
       refine AW.seq ?_
       refine AW.block ?_
       refine AW.sr ?_
       refine AWl.p (by exact R_indexAddr U (.no U) U (.tm U) (.tm U) Try.underlying97 ty100 (fun _ => ⟨by omega, (by exact map_get hy')⟩)) U ?_
       refine AWl.p (by exact R_load U (.no U) U (.tm U) ty100 U U) U ?_
       refine AWl.add (R_alloc 17 U U U in100 U U U) U ?_
       refine AWl.chgb (R_store_pb U U U (.tm U) (.tm U) U ty100 U U U (by kernel_rfl) U) ?_
       refine AWl.nil (AW.seq ?_)
       refine AW.drawn 14 (nthB [[], [], [1], [], [3], [], [3, 4, 5], [3, 4, 5, 6], [], [8], [0, 1, 2, 3, 4, 5, 6, 7, 8, 9], [0, 1, 2, 3, 4, 5, 6, 7, 8, 9, 10], [0, 1, 2, 3, 4, 5, 6, 7, 8, 9, 10, 11], []]) (by kernel_rfl) (by kernel_rfl) (by kernel_rfl) ?_
       refine DrawC.step U U U (Loc.of U fun σ' hs => (by exact R_load U (.no U) (hd_sup hs U) (.tm (hs.slots _ _ U)) ty41 U U)) ?_
       refine DrawC.step U U U (Loc.of U fun σ' hs => R_move U (.no U) (hd_sup hs U) (.tm (hs.slots _ _ U))) ?_
       refine DrawC.step U U U (Loc.of U fun σ' hs => R_shlN U (.no U) (hd_sup hs U) (.const U) (.tm (hs.slots _ _ U)) (fun _ => by omega)) ?_
       refine DrawC.step U U U (Loc.of U fun σ' hs => (by exact R_fieldAddr U (.no U) (hd_sup hs U) (.tm (hs.slots _ _ U)) fl39_0)) ?_
       refine DrawC.step U U U (Loc.of U fun σ' hs => (by exact R_load U (.no U) (hd_sup hs U) (.tm (hs.slots _ _ U)) ty22 U U)) ?_
       refine DrawC.step U U U (Loc.of U fun σ' hs => R_move U (.no U) (hd_sup hs U) (.tm (hs.slots _ _ U))) ?_
       refine DrawC.step U U U (Loc.of U fun σ' hs => (by exact R_indexAddr U (.no U) (hd_sup hs U) (.tm (hs.slots _ _ U)) (.tm (hs.slots _ _ U)) Try.underlying22 ty3 (fun _ => ⟨by omega, (by exact map_get hvx.1)⟩))) ?_
       refine DrawC.step U U U (Loc.of U fun σ' hs => (by exact R_load U (.no U) (hd_sup hs U) (.tm (hs.slots _ _ U)) ty3 U U)) ?_
       refine DrawC.step U U U (Loc.of U fun σ' hs => (by exact R_fieldAddr_pp U (.no U) (hd_sup hs U) (.tm (hs.slots _ _ U)) fl100_1)) ?_
       refine DrawC.step U U U (Loc.of U fun σ' hs => (by exact R_load_pp U (.no U) (hd_sup hs U) (.tm (hs.slots _ _ U)) (hs.res _ _ U) ty3 U U)) ?_
       refine DrawC.step U U U (Loc.of U fun σ' hs => R_callz (FnT.fr (haft)) U (.no U) (hd_sup hs U) (.cons (.tm (hs.slots _ _ U)) (readA_sup hs U) (.cons (.tm (hs.slots _ _ U)) (readA_sup hs U) (.cons (.tm (hs.slots _ _ U)) (readA_sup hs U) (.cons (.tm (hs.slots _ _ U)) (readA_sup hs U) .nil))))) ?_
       refine DrawC.step U U U (Loc.of U fun σ' hs => R_callz (FnT.fr (implmembers (aft1 a s (valAt g x) y'.letter) (by omega))) U (.no U) (hd_sup hs U) (.cons (.tm (hs.slots _ _ U)) (readA_sup hs U) .nil)) ?_
       refine DrawC.step U U U (Loc.of U fun σ' hs => (by exact R_lenm U (.no U) (hd_sup hs U) (.tm (hs.slots _ _ U)) (by exact .t) Try.underlying22)) ?_
       refine DrawC.step U U U (Loc.of U fun σ' hs => R_move U (.no U) (hd_sup hs U) (.const U)) ?_
       refine DrawC.fin U U ?_
       refine AWl.nil (AW.block ?_)
       refine AW.loop1 (fun (u : Nat) => (u ≤ (bitsI (aft1 a s (valAt g x) y'.letter)).length) ∧ True) (fun (u : Nat) => ⟨_, [(60, (true, .a (.one (.t (.v (.int .i64 (u : Nat))))))), (12, (true, .a (.one (.rf 28)))), (3, _), (4, _), (5, _), (6, _), (10, _), (11, _), (13, _), (14, _), (15, _), (17, _), (29, _), (30, _), (31, _), (41, _), (42, _), (43, _), (58, _), (59, _)], [(28, .row 1 (nvR (nxC g a c) (NP g a) (x * a.Accept.length + s) (((arcsC g c x).take j).flatMap (vertN a s (valAt g x)) ++ (vertN a s (valAt g x) y').take u))), (17, .box [.t (.v (.int .i64 y'.step.Edge)), .t (.v (.bool y'.step.Inverse)), .t (.v (.int .i64 y'.letter)), .t (.v (.int .i64 y'.to))])]⟩) (fun (u : Nat) => (bitsI (aft1 a s (valAt g x) y'.letter)).length - u) (0) ⟨Nat.zero_le _, Y⟩ (Le.sub0 U ⟨U, U, U, U, U, U, U, U, U, U, U, U, U, U, U, U, U, U, U, U, Y⟩ ⟨(by (refine congrArg (fun r => some (R.row 1 r)) ?_; first | (rw [← Int.natCast_mul, Int.toNat_natCast, Nat.zero_mul]; exact nvR_zero _ _) | (simp; done))), U, Y⟩) ?_
       rintro u ⟨hk3, he3⟩
       refine AW.sr ?_
       refine AWl.p (R_lt U (.no U) U (.tm U) (.tm U)) U ?_
       refine AWl.nil (AW.seq ?_)
       refine AW.cond (.tm U) (fun h61 => ?_) (fun h61 => ?_)
       · skip
         try simp at h61
         obtain ⟨z, hz⟩ : ∃ ξ, (bitsI (aft1 a s (valAt g x) y'.letter))[u]? = some ξ := ⟨_, List.getElem?_eq_getElem (by omega)⟩
         obtain ⟨t, rfl, ht⟩ := bitsI_at hz
         have htn := bits_lt hafl (List.mem_of_getElem? ht)
         have hvn := vertN_at (s := (s : Int)) (v := valAt g x) ht
         have hll3 : ((vertN a s (valAt g x) y').take u).length ≤ 64 := by (have := vertN_len a s (valAt g x) y'; rw [List.length_take]; omega)
         have hll : (((arcsC g c x).take j).flatMap (vertN a s (valAt g x)) ++ (vertN a s (valAt g x) y').take u).length ≤ 2000 := by (have := vertN_len a s (valAt g x) y'; rw [List.length_append, List.length_take]; omega)
         refine AW.skip ?_
         refine AW.seq ?_
         refine AW.block ?_
         refine AW.sr ?_
         refine AWl.p (by exact R_indexAddr U (.no U) U (.tm U) (.tm U) Try.underlying22 ty3 (fun _ => ⟨by omega, (by exact map_get hz)⟩)) U ?_
         refine AWl.p (by exact R_load U (.no U) U (.tm U) ty3 U U) U ?_
         refine AWl.av ?_
         refine AWl.nil ?_
         refine AW.le (σ' := ⟨_, [(3, _), (4, _), (5, _), (6, _), (10, _), (11, _), (12, _), (13, _), (14, _), (15, _), (17, _), (19, _), (29, _), (30, _), (31, _), (41, _), (42, _), (43, _), (58, _), (59, _), (60, _)], [(28, .row 1 (nvR (nxC g a c) (NP g a) (x * a.Accept.length + s) (((arcsC g c x).take j).flatMap (vertN a s (valAt g x)) ++ (vertN a s (valAt g x) y').take u))), (17, .box [.t (.v (.int .i64 y'.step.Edge)), .t (.v (.bool y'.step.Inverse)), .t (.v (.int .i64 y'.letter)), .t (.v (.int .i64 y'.to))])]⟩) (Le.sub0 U ⟨U, U, U, U, U, U, U, U, U, U, U, U, U, U, U, U, U, U, U, U, U, Y⟩ ⟨U, U, Y⟩) ?_
         refine AW.takeR (id := 28) (i := ((x : Int) * (a.Accept.length : Int) + (s : Int)).toNat) (p := 0) 721 722 U (by rw [hpi]; exact nvR_self _ hpl) U (fun _ => rfl) (fun _ => rfl) fun c77 => ?_
         refine AW.drawA 21 (nthB [[], [], [], [1, 2], [], [1, 2, 3, 4], [], [], [], [7, 8], [], [7, 8, 9, 10], [6, 7, 8, 9, 10, 11], [6, 7, 8, 9, 10, 11, 12], [], [14], [], [14, 15, 16], [], [14, 15, 16, 17, 18], [14, 15, 16, 17, 18, 19], [6, 7, 8, 9, 10, 11, 12, 13, 14, 15, 16, 17, 18, 19, 20]]) 721 85 (.row 1 ((((arcsC g c x).take j).flatMap (vertN a s (valAt g x)) ++ (vertN a s (valAt g x) y').take u).map cInt ++ [cInt (y'.to * (a.Accept.length : Int) + (t : Int))])) (true, .a (.one (.rf 721))) ⟨_, [(3, _), (4, _), (5, _), (6, _), (10, _), (11, _), (12, _), (13, _), (14, _), (15, _), (17, _), (19, _), (29, _), (30, _), (31, _), (41, _), (42, _), (43, _), (58, _), (59, _), (60, _)], [(28, _), (17, _)]⟩ (by kernel_rfl) (by kernel_rfl) (by kernel_rfl) (Sup.sub0 U ⟨U, U, U, U, U, U, U, U, U, U, U, U, U, U, U, U, U, U, U, U, U, Y⟩ ⟨U, U, Y⟩) (Sup.sub0 U ⟨U, U, U, U, U, U, U, U, U, U, U, U, U, U, U, U, U, U, U, U, U, Y⟩ ⟨U, U, Y⟩) U U ?_
         refine DrawG.step U U (Loc.of U fun σ' hs => R_move U (.no U) (hd_sup hs U) (.tm (hs.slots _ _ U))) ?_
         refine DrawG.step U U (Loc.of U fun σ' hs => R_move U (.no U) (hd_sup hs U) (.tm (hs.slots _ _ U))) ?_
         refine DrawG.step U U (Loc.of U fun σ' hs => R_move U (.no U) (hd_sup hs U) (.tm (hs.slots _ _ U))) ?_
         refine DrawG.step U U (Loc.of U fun σ' hs => R_mul U (.no U) (hd_sup hs U) (.tm (hs.slots _ _ U)) (.tm (hs.slots _ _ U)) (fun _ => by omega)) ?_
         refine DrawG.step U U (Loc.of U fun σ' hs => R_move U (.no U) (hd_sup hs U) (.tm (hs.slots _ _ U))) ?_
         refine DrawG.step U U (Loc.of U fun σ' hs => R_add U (.no U) (hd_sup hs U) (.tm (hs.slots _ _ U)) (.tm (hs.slots _ _ U)) (fun _ => by omega)) ?_
         refine DrawG.step U U (Loc.of U fun σ' hs => R_move U (.no U) (hd_sup hs U) (.tm (hs.slots _ _ U))) ?_
         refine DrawG.step U U (Loc.of U fun σ' hs => R_move U (.no U) (hd_sup hs U) (.tm (hs.slots _ _ U))) ?_
         refine DrawG.step U U (Loc.of U fun σ' hs => R_move U (.no U) (hd_sup hs U) (.tm (hs.slots _ _ U))) ?_
         refine DrawG.step U U (Loc.of U fun σ' hs => R_mul U (.no U) (hd_sup hs U) (.tm (hs.slots _ _ U)) (.tm (hs.slots _ _ U)) (fun _ => by omega)) ?_
         refine DrawG.step U U (Loc.of U fun σ' hs => R_move U (.no U) (hd_sup hs U) (.tm (hs.slots _ _ U))) ?_
         refine DrawG.step U U (Loc.of U fun σ' hs => R_add U (.no U) (hd_sup hs U) (.tm (hs.slots _ _ U)) (.tm (hs.slots _ _ U)) (fun _ => by omega)) ?_
         refine DrawG.step U U (Loc.of U fun σ' hs => (by exact R_indexAddr_rf U (.no U) (hd_sup hs U) (.tm (hs.slots _ _ U)) (hs.res _ _ U) (.tm (hs.slots _ _ U)) Try.underlying27 ty22 (fun _ => ⟨by omega, set_at _ (by rw [hpi]; exact nvR_self _ hpl)⟩))) ?_
         refine DrawG.step U U (Loc.of U fun σ' hs => (by exact R_load_pr U (.no U) (hd_sup hs U) (.tm (hs.slots _ _ U)) (hs.res _ _ U) (set_at _ (by rw [hpi]; exact nvR_self _ hpl)) ty22 U U)) ?_
         refine DrawG.step U U (Loc.of U fun σ' hs => (by exact R_fieldAddr_pp U (.no U) (hd_sup hs U) (.tm (hs.slots _ _ U)) fl100_2)) ?_
         refine DrawG.step U U (Loc.of U fun σ' hs => (by exact R_load_pp U (.no U) (hd_sup hs U) (.tm (hs.slots _ _ U)) (hs.res _ _ U) ty3 U U)) ?_
         refine DrawG.step U U (Loc.of U fun σ' hs => R_move U (.no U) (hd_sup hs U) (.tm (hs.slots _ _ U))) ?_
         refine DrawG.step U U (Loc.of U fun σ' hs => R_mul U (.no U) (hd_sup hs U) (.tm (hs.slots _ _ U)) (.tm (hs.slots _ _ U)) (fun _ => by omega)) ?_
         refine DrawG.step U U (Loc.of U fun σ' hs => R_move U (.no U) (hd_sup hs U) (.tm (hs.slots _ _ U))) ?_
         refine DrawG.step U U (Loc.of U fun σ' hs => R_add U (.no U) (hd_sup hs U) (.tm (hs.slots _ _ U)) (.tm (hs.slots _ _ U)) (fun _ => by omega)) ?_
         refine DrawG.step U U (Loc.of U fun σ' hs => R_listz (xs := [.tmp 83]) (rows := [cInt (y'.to * (a.Accept.length : Int) + (t : Int))]) U U (hd_sup hs U) (.cons (.tm (hs.slots _ _ U)) U U .nil) Try.underlying22 in3 U U (U)) ?_
         refine DrawG.fin U (FinA.mk U U (fun σ' hs => R_append_hd (id := 721) (hid := 722) U U (hd_sup hs U) (.tm (hs.slots _ _ U)) (hs.res _ _ U) (hs.res _ _ U) (.tm (hs.slots _ _ U)) (by exact .t) (by rfl) Try.underlying22 in3 U (by (simp only [List.length_map, List.length_append, List.length_cons, List.length_nil, chunk]; omega)) (by (unfold maxLen; simp only [List.length_map, List.length_append, List.length_cons, List.length_nil, chunk]; omega))) U ?_)
         refine AWl.le (σ' := ⟨_, [(3, _), (4, _), (5, _), (6, _), (10, _), (11, _), (12, _), (13, _), (14, _), (15, _), (17, _), (19, _), (29, _), (30, _), (31, _), (41, _), (42, _), (43, _), (58, _), (59, _), (60, _), (64, _), (69, _), (85, _)], [(28, _), (17, _), (721, _)]⟩) (Le.sub0 U ⟨U, U, U, U, U, U, U, U, U, U, U, U, U, U, U, U, U, U, U, U, U, U, U, U, Y⟩ ⟨U, U, U, Y⟩) ?_
         refine AWl.p (by exact R_indexAddr_rf U (.no U) U (.tm U) U (.tm U) Try.underlying27 ty22 (fun _ => ⟨by omega, set_at _ (by rw [hpi]; exact nvR_self _ hpl)⟩)) U ?_
         refine AWl.absupd (R_store_pr U U U (.tm U) U (.tm U) U (set_at _ (by rw [hpi]; exact nvR_self _ hpl)) ty22 U U U U) ?_
         refine AWl.nil (AW.region ?_)
         refine AWl.p (R_add U (.no U) U (.tm U) (.const U) (fun _ => by omega)) U ?_
         refine AWl.mv ?_
         refine AWl.nil ?_
         repeat (with_reducible refine BlockQ.nor ?_)
         refine Round1.next (u + 1) ⟨by omega, Y⟩ (by omega) (Le.sub0 rfl ⟨rfl, rfl, rfl, rfl, rfl, rfl, rfl, rfl, rfl, rfl, rfl, rfl, rfl, rfl, rfl, rfl, rfl, rfl, rfl, rfl, Y⟩ ⟨(by refine congrArg (fun r => some (R.row 1 r)) ?_; first | (simp only [List.set_set]; rw [hpi]; refine (nvR_app _ _).trans ?_; rw [take_at hvn, List.append_assoc]; done) | (rw [flatMap_at _ hy', List.take_of_length_le (l := vertN a s (valAt g x) y') (by rw [vertN_len]; omega)]; done) | (rw [List.take_of_length_le (by omega), ← hnx]; exact nvR_next _ _ _) | (rw [Nat.succ_mul, show s = a.Accept.length by omega]; done)), (by rfl), Y⟩)
       · skip
         try simp at h61
         refine AW.exit ?_
         refine AW.region ?_
         refine AWl.p (R_add U (.no U) U (.tm U) (.const U) (fun _ => by omega)) U ?_
         refine AWl.mv ?_
         refine AWl.nil ?_
         repeat (with_reducible refine BlockQ.nor ?_)
         refine Round1.next (j + 1) ⟨by omega, Y⟩ (by omega) (Le.sub0 rfl ⟨rfl, rfl, rfl, rfl, rfl, rfl, rfl, rfl, rfl, rfl, rfl, rfl, rfl, rfl, rfl, rfl, Y⟩ ⟨(by refine congrArg (fun r => some (R.row 1 r)) ?_; first | (simp only [List.set_set]; rw [hpi]; refine (nvR_app _ _).trans ?_; rw [take_at hvn, List.append_assoc]; done) | (rw [flatMap_at _ hy', List.take_of_length_le (l := vertN a s (valAt g x) y') (by rw [vertN_len]; omega)]; done) | (rw [List.take_of_length_le (by omega), ← hnx]; exact nvR_next _ _ _) | (rw [Nat.succ_mul, show s = a.Accept.length by omega]; done)), Y⟩)
     · skip
       try simp at h44
       refine AW.exit ?_
       refine AW.region ?_
       refine AWl.mv ?_
       refine AWl.p (R_add U (.no U) U (.tm U) (.const U) (fun _ => by omega)) U ?_
       refine AWl.av ?_
       refine AWl.nil ?_
       repeat (with_reducible refine BlockQ.nor ?_)
       refine Round1.next (s + 1) ⟨by omega, Y⟩ (by omega) (Le.sub0 rfl ⟨rfl, rfl, rfl, rfl, rfl, rfl, rfl, rfl, rfl, rfl, rfl, rfl, rfl, Y⟩ ⟨(by refine congrArg (fun r => some (R.row 1 r)) ?_; first | (simp only [List.set_set]; rw [hpi]; refine (nvR_app _ _).trans ?_; rw [take_at hvn, List.append_assoc]; done) | (rw [flatMap_at _ hy', List.take_of_length_le (l := vertN a s (valAt g x) y') (by rw [vertN_len]; omega)]; done) | (rw [List.take_of_length_le (by omega), ← hnx]; exact nvR_next _ _ _) | (rw [Nat.succ_mul, show s = a.Accept.length by omega]; done)), Y⟩)
   · skip
     try simp at h38
     refine AW.exit ?_
     refine AW.region ?_
     refine AWl.p (R_add U (.no U) U (.tm U) (.const U) (fun _ => by omega)) U ?_
     refine AWl.mv ?_
     refine AWl.nil ?_
     repeat (with_reducible refine BlockQ.nor ?_)
     refine Round1.next (x + 1) ⟨by omega, Y⟩ (by omega) (Le.sub0 rfl ⟨rfl, rfl, rfl, rfl, rfl, rfl, rfl, rfl, rfl, rfl, Y⟩ ⟨(by refine congrArg (fun r => some (R.row 1 r)) ?_; first | (simp only [List.set_set]; rw [hpi]; refine (nvR_app _ _).trans ?_; rw [take_at hvn, List.append_assoc]; done) | (rw [flatMap_at _ hy', List.take_of_length_le (l := vertN a s (valAt g x) y') (by rw [vertN_len]; omega)]; done) | (rw [List.take_of_length_le (by omega), ← hnx]; exact nvR_next _ _ _) | (rw [Nat.succ_mul, show s = a.Accept.length by omega]; done)), Y⟩)
 · skip
   try simp at h32
   refine AW.exit ?_
   refine AW.seq ?_
   refine AW.le (σ' := ⟨_, [(3, _), (4, _), (5, _), (6, _), (10, _), (11, _), (12, _), (29, _), (30, _), (31, _)], [(28, .row 1 ((nextC g a c).map cIntS))]⟩) (Le.sub0 U ⟨U, U, U, U, U, U, U, U, U, U, Y⟩ ⟨by rw [nvR_end (nxC g a c) (by rw [hNP, Nat.mul_comm]; exact Nat.mul_le_mul_right _ (by omega))]; rfl, Y⟩) ?_
   refine AW.drawn 16 (nthB [[], [0], [], [], [], [0, 1, 2, 3, 4], [0, 1, 2, 3, 4, 5], [], [], [7, 8], [], [10], [7, 8, 9, 10, 11], [0, 1, 2, 3, 4, 5, 6, 7, 8, 9, 10, 11, 12], [0, 1, 2, 3, 4, 5, 6, 7, 8, 9, 10, 11, 12, 13], [0, 1, 2, 3, 4, 5, 6, 7, 8, 9, 10, 11, 12, 13, 14]]) (by kernel_rfl) (by kernel_rfl) (by kernel_rfl) ?_
   refine DrawC.step U U U (Loc.of U fun σ' hs => R_move U (.no U) (hd_sup hs U) (.tm (hs.slots _ _ U))) ?_
   refine DrawC.step U U U (Loc.of U fun σ' hs => R_callz (FnT.fr (implturned (nextC g a c) (by omega) (nextC_ok ha hg c) (fun p hp => Nat.le_trans (hnz p hp) (by omega)))) U (.no U) (hd_sup hs U) (.cons (.tm (hs.slots _ _ U)) (readA_sup hs U) .nil)) ?_
   refine DrawC.step U U U (Loc.of U fun σ' hs => (by exact R_load U (.no U) (hd_sup hs U) (.tm (hs.slots _ _ U)) ty39 U U)) ?_
   refine DrawC.step U U U (Loc.of U fun σ' hs => (by exact R_load U (.no U) (hd_sup hs U) (.tm (hs.slots _ _ U)) ty41 U U)) ?_
   refine DrawC.step U U U (Loc.of U fun σ' hs => R_move U (.no U) (hd_sup hs U) (.tm (hs.slots _ _ U))) ?_
   refine DrawC.step U U U (Loc.of U fun σ' hs => R_callz (FnT.fr (implgoals g a ha hg y (valAt g y) hy.1 hvy.1)) U (.no U) (hd_sup hs U) (.cons (.tm (hs.slots _ _ U)) (readA_sup hs U) (.cons (.tm (hs.slots _ _ U)) (readA_sup hs U) (.cons (.tm (hs.slots _ _ U)) (readA_sup hs U) .nil)))) ?_
   refine DrawC.step U U U (Loc.of U fun σ' hs => R_callz (FnT.fr (implspread (turnedL (nextC g a c)) (goalsL a y (valAt g y)) (by omega) (fun p hp k hk => by rw [turnedL_len] at hp ⊢; exact turnedL_ok p hp k hk) htz (by rw [htl]; exact goals_rng ha hy) (by omega))) U (.no U) (hd_sup hs U) (.cons (.tm (hs.slots _ _ U)) (readA_sup hs U) (.cons (.tm (hs.slots _ _ U)) (readA_sup hs U) .nil))) ?_
   refine DrawC.step U U U (Loc.of U fun σ' hs => R_move U (.no U) (hd_sup hs U) (.tm (hs.slots _ _ U))) ?_
   refine DrawC.step U U U (Loc.of U fun σ' hs => R_move U (.no U) (hd_sup hs U) (.tm (hs.slots _ _ U))) ?_
   refine DrawC.step U U U (Loc.of U fun σ' hs => R_mul U (.no U) (hd_sup hs U) (.tm (hs.slots _ _ U)) (.tm (hs.slots _ _ U)) (fun _ => by omega)) ?_
   refine DrawC.step U U U (Loc.of U fun σ' hs => (by exact R_fieldAddr U (.no U) (hd_sup hs U) (.tm (hs.slots _ _ U)) fl41_0)) ?_
   refine DrawC.step U U U (Loc.of U fun σ' hs => (by exact R_load U (.no U) (hd_sup hs U) (.tm (hs.slots _ _ U)) ty3 U U)) ?_
   refine DrawC.step U U U (Loc.of U fun σ' hs => R_add U (.no U) (hd_sup hs U) (.tm (hs.slots _ _ U)) (.tm (hs.slots _ _ U)) (fun _ => by omega)) ?_
   refine DrawC.step U U U (Loc.of U fun σ' hs => (by exact R_indexAddr U (.no U) (hd_sup hs U) (.tm (hs.slots _ _ U)) (.tm (hs.slots _ _ U)) Try.underlying22 ty3 (fun _ => ⟨by omega, (by exact map_get hgi)⟩))) ?_
   refine DrawC.step U U U (Loc.of U fun σ' hs => (by exact R_load U (.no U) (hd_sup hs U) (.tm (hs.slots _ _ U)) ty3 U U)) ?_
   refine DrawC.step U U U (Loc.of U fun σ' hs => R_assign U (.no U) (hd_sup hs U) (.tm (hs.slots _ _ U))) ?_
   refine DrawC.fin U U ?_
   refine AWl.nil (AW.ret ?_)
   refine Res.one U (.tmp U .nil) U ?_
   rfl
end Go.Proofs.Ytamnfkfjfelbbaa
