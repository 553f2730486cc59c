import Derived.Test.YtamnfkfjfelbbaaSort1xw
set_option linter.unusedVariables false
set_option linter.unusedSimpArgs false
namespace Go.Q
open Go.D
def dE : TEdge := ⟨0, 0, 0, 0⟩
def edgeOk (e : TEdge) (n : Int) : Bool := inB e.ID 1 99 && inB e.From 0 (n - 1) && inB e.To 0 (n - 1) && inB e.Label 0 2
def edgeAt (l : List TEdge) (n : Int) (k : Nat) : Bool := match l[k]? with
 | some e => edgeOk e n && !(decide (0 < k) && decide (e.ID ≤ (l[k - 1]?.getD dE).ID))
 | none => true
def validG (g : TGraph) : Bool := (g.Values.all fun v => inB v 0 2) && ((List.range g.Edges.length).all fun k => edgeAt g.Edges g.Values.length k) && (inB g.Values.length 1 5 && decide (g.Edges.length ≤ 12))
def edgeIndex (g : TGraph) (id : Int) : Int := findI (fun e => decide (e.ID = id)) g.Edges 0
def stepEdge (g : TGraph) (s : TStep) : TEdge × Bool := if validG g then (match g.Edges[(edgeIndex g s.Edge).toNat]? with | some e => if 0 ≤ edgeIndex g s.Edge then (e, true) else (dE, false) | none => (dE, false)) else (dE, false)
theorem range_all {p : Nat → Bool} {n k : Nat} (h : ∀ j, j < k → p j = true) (hk : n ≤ k) : (List.range n).all p = true := by
 rw [List.all_eq_true]
 intro j hj
 exact h j (by have := List.mem_range.1 hj; omega)
theorem range_not {p : Nat → Bool} {n k : Nat} (hk : k < n) (hp : p k = false) : (List.range n).all p = false := by
 rw [List.all_eq_false]
 exact ⟨k, List.mem_range.2 hk, by rw [hp]; simp⟩
theorem range_succ {p : Nat → Bool} {k : Nat} (h : ∀ j, j < k → p j = true) (hp : p k = true) : ∀ j, j < k + 1 → p j = true := fun j hj => by
 rcases Nat.lt_or_eq_of_le (Nat.le_of_lt_succ hj) with h1 | rfl
 · exact h j h1
 · exact hp
theorem getD_pred {α : Type} {d : α} {l : List α} {k : Nat} (h : 0 < k) (hk : k ≤ l.length) : l[((k : Int) - 1).toNat]? = some (l[k - 1]?.getD d) := by
 have e : ((k : Int) - 1).toNat = k - 1 := by omega
 rw [e]; exact getD_at (by omega)
end Go.Q
namespace Go.Proofs.Ytamnfkfjfelbbaa
open Go.RowKit Go.Q Go.D
set_option maxRecDepth 100000 in
theorem specl3Edge (g : TGraph) (e : TEdge) : FnT Try.prog 70 [.agg (cGraph g), .agg (cEdge e)] (.a (.one (.v (.bool (edgeOk e g.Values.length))))) := by
 refine FnT.walk Try.func70 U (by kernel_rfl) Try.ntmps70 U fun hlen w0 => ?_
 try simp [cPair, cToken, cExpr, cEdge, cGraph, cStep, cWalk, cChange, cBatch, cHistory, cPositions, cAutomaton, cProductStep, cPathAtom, cConjunction, cView, cDelta, cRegistered, cRegistry] at hlen
 skip
 refine AW.sr ?_
 refine AWl.p (R_boxz U U U (.tm U) (ts := _) (by rfl)) U ?_
 refine AWl.p (R_boxz U U U (.tm U) (ts := _) (by rfl)) U ?_
 refine AWl.ac ?_
 refine AWl.nil (AW.sr ?_)
 refine AWl.p (by exact R_fieldAddr U (.no U) U (.tm U) fl39_0) U ?_
 refine AWl.p (by exact R_load U (.no U) U (.tm U) ty22 U U) U ?_
 refine AWl.p (by exact R_lenm U (.no U) U (.tm U) (by exact .t) Try.underlying22) U ?_
 refine AWl.p (R_sub U (.no U) U (.tm U) (.const U) (fun _ => by omega)) U ?_
 refine AWl.av ?_
 refine AWl.nil (AW.sr ?_)
 refine AWl.p (by exact R_fieldAddr U (.no U) U (.tm U) fl93_0) U ?_
 refine AWl.p (by exact R_load U (.no U) U (.tm U) ty3 U U) U ?_
 refine AWl.p (R_callz (FnT.fr (specl1In _ _ _)) U (.no U) U (.cons (.tm U) U (.cons (.const U) U (.cons (.const U) U .nil)))) U ?_
 refine AWl.mv ?_
 refine AWl.p (by exact R_fieldAddr U (by exact .yes1 U U U U) U (.tmp U (by exact fun _ => rfl)) fl93_1) U ?_
 refine AWl.p (by exact R_load U (by exact .yes1 U U U U) U (.tmp U (by exact id)) ty3 U U) U ?_
 refine AWl.p (R_move U (by exact .yes1 U U U U) U (.tmp U (by exact fun _ => rfl))) U ?_
 refine AWl.p (R_callz (FnT.fr (specl1In _ _ _)) U (by exact .yes1 U U U U) U (.cons (.tmp U (by exact id)) U (.cons (.const U) U (.cons (.tmp U (by exact id)) U .nil)))) U ?_
 refine AWl.p (R_and U (.no U) U (.tm U) (.tmp U (by exact id))) U ?_
 refine AWl.mv ?_
 refine AWl.p (by exact R_fieldAddr U (by exact .yes1 U U U U) U (.tmp U (by exact fun _ => rfl)) fl93_2) U ?_
 refine AWl.p (by exact R_load U (by exact .yes1 U U U U) U (.tmp U (by exact id)) ty3 U U) U ?_
 refine AWl.p (R_move U (by exact .yes1 U U U U) U (.tmp U (by exact fun _ => rfl))) U ?_
 refine AWl.p (R_callz (FnT.fr (specl1In _ _ _)) U (by exact .yes1 U U U U) U (.cons (.tmp U (by exact id)) U (.cons (.const U) U (.cons (.tmp U (by exact id)) U .nil)))) U ?_
 refine AWl.p (R_and U (.no U) U (.tm U) (.tmp U (by exact id))) U ?_
 refine AWl.mv ?_
 refine AWl.p (by exact R_fieldAddr U (by exact .yes1 U U U U) U (.tmp U (by exact fun _ => rfl)) fl93_3) U ?_
 refine AWl.p (by exact R_load U (by exact .yes1 U U U U) U (.tmp U (by exact id)) ty3 U U) U ?_
 refine AWl.p (R_callz (FnT.fr (specl1In _ _ _)) U (by exact .yes1 U U U U) U (.cons (.tmp U (by exact id)) U (.cons (.const U) U (.cons (.const U) U .nil)))) U ?_
 refine AWl.p (R_and U (.no U) U (.tm U) (.tmp U (by exact id))) U ?_
 refine AWl.av ?_
 refine AWl.nil (AW.ret ?_)
 refine Res.v U U ?_
 rfl
set_option maxRecDepth 100000 in
theorem impledgeOk (e : TEdge) (n : Int) (hn : -1000 ≤ n) (hn' : n ≤ 9223372036854775807) : FnT Try.prog 76 [.agg (cEdge e), .one (.v (.int .i64 n))] (.a (.one (.v (.bool (edgeOk e n))))) := by
 refine FnT.walk Try.func76 U (by kernel_rfl) Try.ntmps76 U fun hlen w0 => ?_
 try simp [cPair, cToken, cExpr, cEdge, cGraph, cStep, cWalk, cChange, cBatch, cHistory, cPositions, cAutomaton, cProductStep, cPathAtom, cConjunction, cView, cDelta, cRegistered, cRegistry] at hlen
 refine AW.sr ?_
 refine AWl.p (R_boxz U U U (.tm U) (ts := _) (by rfl)) U ?_
 refine AWl.ac ?_
 refine AWl.nil (AW.sr ?_)
 refine AWl.p (by exact R_fieldAddr U (.no U) U (.tm U) fl93_0) U ?_
 refine AWl.p (by exact R_load U (.no U) U (.tm U) ty3 U U) U ?_
 refine AWl.p (R_callz (FnT.fr (implwithin _ _ _)) U (.no U) U (.cons (.tm U) U (.cons (.const U) U (.cons (.const U) U .nil)))) U ?_
 refine AWl.mv ?_
 refine AWl.p (by exact R_fieldAddr U (by exact .yes1 U U U U) U (.tmp U (by exact fun _ => rfl)) fl93_1) U ?_
 refine AWl.p (by exact R_load U (by exact .yes1 U U U U) U (.tmp U (by exact id)) ty3 U U) U ?_
 refine AWl.p (R_move U (by exact .yes1 U U U U) U (.tmp U (by exact fun _ => rfl))) U ?_
 refine AWl.p (R_sub U (by exact .yes1 U U U U) U (.tmp U (by exact id)) (.const U) fun _ => by omega) U ?_
 refine AWl.p (R_callz (FnT.fr (implwithin _ _ _)) U (by exact .yes1 U U U U) U (.cons (.tmp U (by exact id)) U (.cons (.const U) U (.cons (.tmp U (by exact id)) U .nil)))) U ?_
 refine AWl.p (R_and U (.no U) U (.tm U) (.tmp U (by exact id))) U ?_
 refine AWl.mv ?_
 refine AWl.p (by exact R_fieldAddr U (by exact .yes1 U U U U) U (.tmp U (by exact fun _ => rfl)) fl93_2) U ?_
 refine AWl.p (by exact R_load U (by exact .yes1 U U U U) U (.tmp U (by exact id)) ty3 U U) U ?_
 refine AWl.p (R_move U (by exact .yes1 U U U U) U (.tmp U (by exact fun _ => rfl))) U ?_
 refine AWl.p (R_sub U (by exact .yes1 U U U U) U (.tmp U (by exact id)) (.const U) fun _ => by omega) U ?_
 refine AWl.p (R_callz (FnT.fr (implwithin _ _ _)) U (by exact .yes1 U U U U) U (.cons (.tmp U (by exact id)) U (.cons (.const U) U (.cons (.tmp U (by exact id)) U .nil)))) U ?_
 refine AWl.p (R_and U (.no U) U (.tm U) (.tmp U (by exact id))) U ?_
 refine AWl.mv ?_
 refine AWl.p (by exact R_fieldAddr U (by exact .yes1 U U U U) U (.tmp U (by exact fun _ => rfl)) fl93_3) U ?_
 refine AWl.p (by exact R_load U (by exact .yes1 U U U U) U (.tmp U (by exact id)) ty3 U U) U ?_
 refine AWl.p (R_callz (FnT.fr (implwithin _ _ _)) U (by exact .yes1 U U U U) U (.cons (.tmp U (by exact id)) U (.cons (.const U) U (.cons (.const U) U .nil)))) U ?_
 refine AWl.p (R_and U (.no U) U (.tm U) (.tmp U (by exact id))) U ?_
 refine AWl.av ?_
 refine AWl.nil (AW.ret ?_)
 refine Res.v U U ?_
 rfl
set_option maxRecDepth 100000 in
theorem specEdgeIndex (g : TGraph) (id : Int) : FnT Try.prog 72 [.agg (cGraph g), .one (.v (.int .i64 id))] (.a (.one (.v (.int .i64 (edgeIndex g id))))) := by
 refine FnT.walk Try.func72 U (by kernel_rfl) Try.ntmps72 U fun hlen w0 => ?_
 try simp [cPair, cToken, cExpr, cEdge, cGraph, cStep, cWalk, cChange, cBatch, cHistory, cPositions, cAutomaton, cProductStep, cPathAtom, cConjunction, cView, cDelta, cRegistered, cRegistry] at hlen
 skip
 refine AW.sr ?_
 refine AWl.p (R_boxz U U U (.tm U) (ts := _) (by rfl)) U ?_
 refine AWl.ac ?_
 refine AWl.nil (AW.seq ?_)
 refine AW.sr ?_
 refine AWl.ac ?_
 refine AWl.nil (AW.block ?_)
 refine AW.loop (β := Nat) (fun x => x ≤ (g.Edges).length ∧ ∀ j y, j < x → (g.Edges)[j]? = some y → (fun e => !decide (e.ID = id)) y = true) (fun x => ⟨_, [(5, (true, .a (.one (.t (.v (.int .i64 (x : Nat))))))), (1, _), (2, _)], []⟩) (fun x => (g.Edges).length - x) (0) ⟨Nat.zero_le _, fun j y hj => absurd hj (Nat.not_lt_zero j)⟩ (Le.sub0 U ⟨U, U, U, Y⟩ trivial) ?_
 intro k hk
 refine AW.seq ?_
 refine AW.sr ?_
 refine AWl.mv ?_
 refine AWl.p (by exact R_fieldAddr U (.no U) U (.tm U) fl39_1) U ?_
 refine AWl.p (by exact R_load U (.no U) U (.tm U) ty37 U U) U ?_
 refine AWl.p (by exact R_lenm U (.no U) U (.tm U) (by exact .t) Try.underlying37) U ?_
 refine AWl.p (R_lt U (.no U) U (.tm U) (.tm U)) U ?_
 refine AWl.nil ?_
 refine AW.cond (.tm U) (fun hlt => ?_) (fun hlt => ?_)
 · skip
   try simp at hlt
   obtain ⟨x, hx⟩ : ∃ ξ, (g.Edges)[k]? = some ξ := ⟨_, List.getElem?_eq_getElem (by exact hlt)⟩
   refine AW.skip ?_
   refine AW.seq ?_
   refine AW.block ?_
   refine AW.sr ?_
   refine AWl.p (by exact R_fieldAddr U (.no U) U (.tm U) fl39_1) U ?_
   refine AWl.p (by exact R_load U (.no U) U (.tm U) ty37 U U) U ?_
   refine AWl.mv ?_
   refine AWl.p ((by exact R_indexAddr U (.no U) U (.tm U) (.tm U) Try.underlying37 ty93 (fun _ => ⟨by omega, (by exact map_get (by assumption))⟩))) U ?_
   refine AWl.p (by exact R_fieldAddr U (.no U) U (.tm U) fl93_0) U ?_
   refine AWl.p (by exact R_load U (.no U) U (.tm U) ty3 U U) U ?_
   refine AWl.mv ?_
   refine AWl.p (R_eq U (.no U) U (.tm U) (.tm U)) U ?_
   refine AWl.nil ?_
   refine AW.cond (.tm U) (fun h20 => ?_) (fun h20 => ?_)
   · skip
     try simp at h20
     refine AW.seq ?_
     refine AW.le (σ' := ⟨_, [(1, _), (2, _), (5, _)], []⟩) (Le.sub0 U ⟨U, U, U, Y⟩ trivial) ?_
     refine AW.region ?_
     refine AWl.mv ?_
     refine AWl.av ?_
     refine AWl.nil (AW.ret ?_)
     refine Res.v U U ?_
     unfold edgeIndex; rw [findI_at (k := k) hk.2 hx (by simp [h20])]; simp
   · skip
     try simp at h20
     refine AW.skip ?_
     refine AW.le (σ' := ⟨_, [(1, _), (2, _), (5, _)], []⟩) (Le.sub0 U ⟨U, U, U, Y⟩ trivial) ?_
     refine AW.region ?_
     refine AWl.mv ?_
     refine AWl.p (R_add U (.no U) U (.tm U) (.const U) (fun _ => by omega)) U ?_
     refine AWl.av ?_
     refine AWl.nil ?_
     refine Round.next (k + 1) ⟨by omega, each_succ hk.2 hx (by simp [h20])⟩ (by omega) (Le.sub0 rfl ⟨rfl, rfl, rfl, Y⟩ trivial)
 · skip
   try simp at hlt
   refine AW.exit ?_
   refine AW.sr ?_
   refine AWl.ac ?_
   refine AWl.nil (AW.ret ?_)
   refine Res.v U U ?_
   unfold edgeIndex; rw [findI_none hk.2 (by omega)]
set_option maxRecDepth 100000 in
theorem specIsValidGraph (g : TGraph) : FnT Try.prog 48 [.agg (cGraph g)] (.a (.one (.v (.bool (validG g))))) := by
 refine FnT.walk Try.func48 U (by kernel_rfl) Try.ntmps48 U fun hlen w0 => ?_
 try simp [cPair, cToken, cExpr, cEdge, cGraph, cStep, cWalk, cChange, cBatch, cHistory, cPositions, cAutomaton, cProductStep, cPathAtom, cConjunction, cView, cDelta, cRegistered, cRegistry] at hlen
 skip
 refine AW.sr ?_
 refine AWl.p (R_boxz U U U (.tm U) (ts := _) (by rfl)) U ?_
 refine AWl.ac ?_
 refine AWl.nil (AW.seq ?_)
 refine AW.sr ?_
 refine AWl.ac ?_
 refine AWl.nil (AW.block ?_)
 refine AW.loop (β := Nat) (fun x => x ≤ (g.Values).length ∧ ∀ j y, j < x → (g.Values)[j]? = some y → (fun v => inB v 0 2) y = true) (fun x => ⟨_, [(3, (true, .a (.one (.t (.v (.int .i64 (x : Nat))))))), (1, _)], []⟩) (fun x => (g.Values).length - x) (0) ⟨Nat.zero_le _, fun j y hj => absurd hj (Nat.not_lt_zero j)⟩ (Le.sub0 U ⟨U, U, Y⟩ trivial) ?_
 intro k hk
 refine AW.seq ?_
 refine AW.sr ?_
 refine AWl.mv ?_
 refine AWl.p (by exact R_fieldAddr U (.no U) U (.tm U) fl39_0) U ?_
 refine AWl.p (by exact R_load U (.no U) U (.tm U) ty22 U U) U ?_
 refine AWl.p (by exact R_lenm U (.no U) U (.tm U) (by exact .t) Try.underlying22) U ?_
 refine AWl.p (R_lt U (.no U) U (.tm U) (.tm U)) U ?_
 refine AWl.nil ?_
 refine AW.cond (.tm U) (fun hlt => ?_) (fun hlt => ?_)
 · skip
   try simp at hlt
   obtain ⟨x, hx⟩ : ∃ ξ, (g.Values)[k]? = some ξ := ⟨_, List.getElem?_eq_getElem (by exact hlt)⟩
   refine AW.skip ?_
   refine AW.seq ?_
   refine AW.block ?_
   refine AW.sr ?_
   refine AWl.p (by exact R_fieldAddr U (.no U) U (.tm U) fl39_0) U ?_
   refine AWl.p (by exact R_load U (.no U) U (.tm U) ty22 U U) U ?_
   refine AWl.mv ?_
   refine AWl.p ((by exact R_indexAddr U (.no U) U (.tm U) (.tm U) Try.underlying22 ty3 (fun _ => ⟨by omega, (by exact map_get (by assumption))⟩))) U ?_
   refine AWl.p (by exact R_load U (.no U) U (.tm U) ty3 U U) U ?_
   refine AWl.p (R_callz (FnT.fr (specl1In _ _ _)) U (.no U) U (.cons (.tm U) U (.cons (.const U) U (.cons (.const U) U .nil)))) U ?_
   refine AWl.p (R_not U (.no U) U (.tm U)) U ?_
   refine AWl.nil ?_
   refine AW.cond (.tm U) (fun h18 => ?_) (fun h18 => ?_)
   · skip
     try simp at h18
     refine AW.seq ?_
     refine AW.le (σ' := ⟨_, [(1, _), (3, _)], []⟩) (Le.sub0 U ⟨U, U, Y⟩ trivial) ?_
     refine AW.region ?_
     refine AWl.ac ?_
     refine AWl.nil (AW.ret ?_)
     refine Res.v U U ?_
     unfold validG; rw [not_all hx h18]; rfl
   · skip
     try simp at h18
     refine AW.skip ?_
     refine AW.le (σ' := ⟨_, [(1, _), (3, _)], []⟩) (Le.sub0 U ⟨U, U, Y⟩ trivial) ?_
     refine AW.region ?_
     refine AWl.mv ?_
     refine AWl.p (R_add U (.no U) U (.tm U) (.const U) (fun _ => by omega)) U ?_
     refine AWl.av ?_
     refine AWl.nil ?_
     refine Round.next (k + 1) ⟨by omega, each_succ hk.2 hx (h18)⟩ (by omega) (Le.sub0 rfl ⟨rfl, rfl, Y⟩ trivial)
 · skip
   try simp at hlt
   refine AW.exit ?_
   refine AW.seq ?_
   refine AW.sr ?_
   refine AWl.ac ?_
   refine AWl.nil (AW.block ?_)
   refine AW.loop (β := Nat) (fun x => x ≤ g.Edges.length ∧ ∀ j, j < x → edgeAt g.Edges g.Values.length j = true) (fun x => ⟨_, [(4, (true, .a (.one (.t (.v (.int .i64 (x : Nat))))))), (1, _)], []⟩) (fun x => g.Edges.length - x) (0) ⟨Nat.zero_le _, fun j hj => absurd hj (Nat.not_lt_zero j)⟩ (Le.sub0 U ⟨U, U, Y⟩ trivial) ?_
   intro k1 hk1
   refine AW.seq ?_
   refine AW.sr ?_
   refine AWl.mv ?_
   refine AWl.p (by exact R_fieldAddr U (.no U) U (.tm U) fl39_1) U ?_
   refine AWl.p (by exact R_load U (.no U) U (.tm U) ty37 U U) U ?_
   refine AWl.p (by exact R_lenm U (.no U) U (.tm U) (by exact .t) Try.underlying37) U ?_
   refine AWl.p (R_lt U (.no U) U (.tm U) (.tm U)) U ?_
   refine AWl.nil ?_
   refine AW.cond (.tm U) (fun hlt1 => ?_) (fun hlt1 => ?_)
   · skip
     try simp at hlt1
     obtain ⟨x1, hx1⟩ : ∃ x1, g.Edges[k1]? = some x1 := ⟨_, List.getElem?_eq_getElem hlt1⟩
     refine AW.skip ?_
     refine AW.seq ?_
     refine AW.block ?_
     refine AW.seq ?_
     refine AW.drawn 28 (nthB [[], [], [1], [], [1, 2, 3], [1, 2, 3, 4], [0, 1, 2, 3, 4, 5], [0, 1, 2, 3, 4, 5, 6], [0, 1, 2, 3, 4, 5, 6, 7], [0, 1, 2, 3, 4, 5, 6, 7, 8], [0, 1, 2, 3, 4, 5, 6, 7, 8, 9], [0, 1, 2, 3, 4, 5, 6, 7, 8, 9, 10], [0, 1, 2, 3, 4, 5, 6, 7, 8, 9, 10, 11], [0, 1, 2, 3, 4, 5, 6, 7, 8, 9, 10, 11, 12], [0, 1, 2, 3, 4, 5, 6, 7, 8, 9, 10, 11], [0, 1, 2, 3, 4, 5, 6, 7, 8, 9, 10, 11, 14], [0, 1, 2, 3, 4, 5, 6, 7, 8, 9, 10, 11, 12, 13, 14, 15], [0, 1, 2, 3, 4, 5, 6, 7, 8, 9, 10, 11, 12, 13, 14, 15, 16], [0, 1, 2, 3, 4, 5, 6, 7, 8, 9, 10, 11, 12, 13, 14, 15, 16, 17], [0, 1, 2, 3, 4, 5, 6, 7, 8, 9, 10, 11], [0, 1, 2, 3, 4, 5, 6, 7, 8, 9, 10, 11, 19], [0, 1, 2, 3, 4, 5, 6, 7, 8, 9, 10, 11], [0, 1, 2, 3, 4, 5, 6, 7, 8, 9, 10, 11, 19, 20, 21], [0, 1, 2, 3, 4, 5, 6, 7, 8, 9, 10, 11, 19, 20, 21, 22], [0, 1, 2, 3, 4, 5, 6, 7, 8, 9, 10, 11, 19, 20, 21, 22, 23], [0, 1, 2, 3, 4, 5, 6, 7, 8, 9, 10, 11, 12, 13, 14, 15, 16, 17, 18, 19, 20, 21, 22, 23, 24], [0, 1, 2, 3, 4, 5, 6, 7, 8, 9, 10, 11, 12, 13, 14, 15, 16, 17, 18, 19, 20, 21, 22, 23, 24, 25], [0, 1, 2, 3, 4, 5, 6, 7, 8, 9, 10, 11, 12, 13, 14, 15, 16, 17, 18, 19, 20, 21, 22, 23, 24, 25, 26]]) (by kernel_rfl) (by kernel_rfl) (by kernel_rfl) ?_
     refine DrawC.step U U U (Loc.of U fun σ' hs => (by exact R_load U (.no U) (hd_sup hs U) (.tm (hs.slots _ _ U)) ty39 U U)) ?_
     refine DrawC.step U U U (Loc.of U fun σ' hs => (by exact R_fieldAddr U (.no U) (hd_sup hs U) (.tm (hs.slots _ _ U)) fl39_1)) ?_
     refine DrawC.step U U U (Loc.of U fun σ' hs => (by exact R_load U (.no U) (hd_sup hs U) (.tm (hs.slots _ _ U)) ty37 U U)) ?_
     refine DrawC.step U U U (Loc.of U fun σ' hs => R_move U (.no U) (hd_sup hs U) (.tm (hs.slots _ _ U))) ?_
     refine DrawC.step U U U (Loc.of U fun σ' hs => (by exact R_indexAddr U (.no U) (hd_sup hs U) (.tm (hs.slots _ _ U)) (.tm (hs.slots _ _ U)) Try.underlying37 ty93 (fun _ => ⟨by omega, (by exact map_get (by assumption))⟩))) ?_
     refine DrawC.step U U U (Loc.of U fun σ' hs => (by exact R_load U (.no U) (hd_sup hs U) (.tm (hs.slots _ _ U)) ty93 U U)) ?_
     refine DrawC.step U U U (Loc.of U fun σ' hs => R_callz (FnT.fr (specl3Edge _ _)) U (.no U) (hd_sup hs U) (.cons (.tm (hs.slots _ _ U)) (readA_sup hs U) (.cons (.tm (hs.slots _ _ U)) (readA_sup hs U) .nil))) ?_
     refine DrawC.step U U U (Loc.of U fun σ' hs => R_not U (.no U) (hd_sup hs U) (.tm (hs.slots _ _ U))) ?_
     refine DrawC.step U U U (Loc.of U fun σ' hs => R_move U (.no U) (hd_sup hs U) (.tm (hs.slots _ _ U))) ?_
     refine DrawC.step U U U (Loc.of U fun σ' hs => R_move U (by exact .not1 U U (hs.slots _ _ U) (by rw [hs.n]; rfl)) (hd_sup hs U) (.tmp (hs.slots _ _ U) (by exact fun _ => rfl))) ?_
     refine DrawC.step U U U (Loc.of U fun σ' hs => R_gt U (by exact .not1 U U (hs.slots _ _ U) (by rw [hs.n]; rfl)) (hd_sup hs U) (.tmp (hs.slots _ _ U) (by exact id)) (.const U)) ?_
     refine DrawC.step U U U (Loc.of U fun σ' hs => R_move U (by exact .not1 U U (hs.slots _ _ U) (by rw [hs.n]; rfl)) (hd_sup hs U) (.tmp (hs.slots _ _ U) (by exact id))) ?_
     refine DrawC.step U U U (Loc.of U fun σ' hs => (by exact R_fieldAddr U (by exact .yes U U (hs.slots _ _ U) (by rw [hs.n]; rfl)) (hd_sup hs U) (.tmp (hs.slots _ _ U) (by exact fun _ => rfl)) fl39_1)) ?_
     refine DrawC.step U U U (Loc.of U fun σ' hs => (by exact R_load U (by exact .yes U U (hs.slots _ _ U) (by rw [hs.n]; rfl)) (hd_sup hs U) (.tmp (hs.slots _ _ U) (by exact id)) ty37 U U)) ?_
     refine DrawC.step U U U (Loc.of U fun σ' hs => R_move U (by exact .yes U U (hs.slots _ _ U) (by rw [hs.n]; rfl)) (hd_sup hs U) (.tmp (hs.slots _ _ U) (by exact fun _ => rfl))) ?_
     refine DrawC.step U U U (Loc.of U fun σ' hs => R_sub U (by exact .yes U U (hs.slots _ _ U) (by rw [hs.n]; rfl)) (hd_sup hs U) (.tmp (hs.slots _ _ U) (by exact id)) (.const U) (fun hq => by first | omega | (simp at hq; omega))) ?_
     refine DrawC.step U U U (Loc.of U fun σ' hs => (by exact R_indexAddr U (by exact .yes U U (hs.slots _ _ U) (by rw [hs.n]; rfl)) (hd_sup hs U) (.tmp (hs.slots _ _ U) (by exact id)) (.tmp (hs.slots _ _ U) (by exact id)) Try.underlying37 ty93 (fun hq => by simp at hq; exact ⟨by omega, map_get (getD_pred (l := g.Edges) (d := dE) (by omega) (by omega))⟩))) ?_
     refine DrawC.step U U U (Loc.of U fun σ' hs => (by exact R_fieldAddr U (by exact .yes U U (hs.slots _ _ U) (by rw [hs.n]; rfl)) (hd_sup hs U) (.tmp (hs.slots _ _ U) (by exact id)) fl93_0)) ?_
     refine DrawC.step U U U (Loc.of U fun σ' hs => (by exact R_load U (by exact .yes U U (hs.slots _ _ U) (by rw [hs.n]; rfl)) (hd_sup hs U) (.tmp (hs.slots _ _ U) (by exact id)) ty3 U U)) ?_
     refine DrawC.step U U U (Loc.of U fun σ' hs => (by exact R_fieldAddr U (by exact .yes U U (hs.slots _ _ U) (by rw [hs.n]; rfl)) (hd_sup hs U) (.tmp (hs.slots _ _ U) (by exact fun _ => rfl)) fl39_1)) ?_
     refine DrawC.step U U U (Loc.of U fun σ' hs => (by exact R_load U (by exact .yes U U (hs.slots _ _ U) (by rw [hs.n]; rfl)) (hd_sup hs U) (.tmp (hs.slots _ _ U) (by exact id)) ty37 U U)) ?_
     refine DrawC.step U U U (Loc.of U fun σ' hs => R_move U (by exact .yes U U (hs.slots _ _ U) (by rw [hs.n]; rfl)) (hd_sup hs U) (.tmp (hs.slots _ _ U) (by exact fun _ => rfl))) ?_
     refine DrawC.step U U U (Loc.of U fun σ' hs => (by exact R_indexAddr U (by exact .yes U U (hs.slots _ _ U) (by rw [hs.n]; rfl)) (hd_sup hs U) (.tmp (hs.slots _ _ U) (by exact id)) (.tmp (hs.slots _ _ U) (by exact id)) Try.underlying37 ty93 (fun hq => by (try simp at hq); exact ⟨by omega, (by exact map_get (by assumption))⟩))) ?_
     refine DrawC.step U U U (Loc.of U fun σ' hs => (by exact R_fieldAddr U (by exact .yes U U (hs.slots _ _ U) (by rw [hs.n]; rfl)) (hd_sup hs U) (.tmp (hs.slots _ _ U) (by exact id)) fl93_0)) ?_
     refine DrawC.step U U U (Loc.of U fun σ' hs => (by exact R_load U (by exact .yes U U (hs.slots _ _ U) (by rw [hs.n]; rfl)) (hd_sup hs U) (.tmp (hs.slots _ _ U) (by exact id)) ty3 U U)) ?_
     refine DrawC.step U U U (Loc.of U fun σ' hs => R_ge U (by exact .yes U U (hs.slots _ _ U) (by rw [hs.n]; rfl)) (hd_sup hs U) (.tmp (hs.slots _ _ U) (by exact id)) (.tmp (hs.slots _ _ U) (by exact id))) ?_
     refine DrawC.step U U U (Loc.of U fun σ' hs => R_and U (by exact .not1 U U (hs.slots _ _ U) (by rw [hs.n]; rfl)) (hd_sup hs U) (.tmp (hs.slots _ _ U) (by exact id)) (.tmp (hs.slots _ _ U) (by exact id))) ?_
     refine DrawC.step U U U (Loc.of U fun σ' hs => R_or U (.no U) (hd_sup hs U) (.tm (hs.slots _ _ U)) (.tmp (hs.slots _ _ U) (by exact id))) ?_
     refine DrawC.fin U U ?_
     refine AWl.nil ?_
     refine AW.cond (.tm U) (fun h53 => ?_) (fun h53 => ?_)
     · skip
       try simp at h53
       refine AW.seq ?_
       refine AW.le (σ' := ⟨_, [(1, _), (4, _)], []⟩) (Le.sub0 U ⟨U, U, Y⟩ trivial) ?_
       refine AW.region ?_
       refine AWl.ac ?_
       refine AWl.nil (AW.ret ?_)
       refine Res.v U U ?_
       unfold validG; rw [range_not hlt1 (by simp only [edgeAt, hx1]; grind)]; simp
     · skip
       try simp at h53
       refine AW.skip ?_
       refine AW.le (σ' := ⟨_, [(1, _), (4, _)], []⟩) (Le.sub0 U ⟨U, U, Y⟩ trivial) ?_
       refine AW.region ?_
       refine AWl.mv ?_
       refine AWl.p (R_add U (.no U) U (.tm U) (.const U) (fun _ => by omega)) U ?_
       refine AWl.av ?_
       refine AWl.nil ?_
       refine Round.next (k1 + 1) ⟨by omega, range_succ hk1.2 (by simp only [edgeAt, hx1]; grind)⟩ (by omega) (Le.sub0 rfl ⟨rfl, rfl, Y⟩ trivial)
   · skip
     try simp at hlt1
     refine AW.exit ?_
     refine AW.sr ?_
     refine AWl.p (by exact R_fieldAddr U (.no U) U (.tm U) fl39_0) U ?_
     refine AWl.p (by exact R_load U (.no U) U (.tm U) ty22 U U) U ?_
     refine AWl.p (by exact R_lenm U (.no U) U (.tm U) (by exact .t) Try.underlying22) U ?_
     refine AWl.p (R_callz (FnT.fr (specl1In _ _ _)) U (.no U) U (.cons (.tm U) U (.cons (.const U) U (.cons (.const U) U .nil)))) U ?_
     refine AWl.mv ?_
     refine AWl.p (by exact R_fieldAddr U (by exact .yes1 U U U U) U (.tmp U (by exact fun _ => rfl)) fl39_1) U ?_
     refine AWl.p (by exact R_load U (by exact .yes1 U U U U) U (.tmp U (by exact id)) ty37 U U) U ?_
     refine AWl.p (by exact R_lenm U (by exact .yes1 U U U U) U (.tmp U (by exact id)) (by exact .t) Try.underlying37) U ?_
     refine AWl.p (R_le U (by exact .yes1 U U U U) U (.tmp U (by exact id)) (.const U)) U ?_
     refine AWl.p (R_and U (.no U) U (.tm U) (.tmp U (by exact id))) U ?_
     refine AWl.av ?_
     refine AWl.nil (AW.ret ?_)
     refine Res.v U U ?_
     unfold validG; rw [each_all hk.2 (by omega), range_all hk1.2 (by omega)]; simp; grind
set_option maxRecDepth 100000 in
theorem implIsValidGraph (g : TGraph) : FnT Try.prog 55 [.agg (cGraph g)] (.a (.one (.v (.bool (validG g))))) := by
 refine FnT.walk Try.func55 U (by kernel_rfl) Try.ntmps55 U fun hlen w0 => ?_
 try simp [cPair, cToken, cExpr, cEdge, cGraph, cStep, cWalk, cChange, cBatch, cHistory, cPositions, cAutomaton, cProductStep, cPathAtom, cConjunction, cView, cDelta, cRegistered, cRegistry] at hlen
 skip
 refine AW.sr ?_
 refine AWl.p (R_boxz U U U (.tm U) (ts := _) (by rfl)) U ?_
 refine AWl.ac ?_
 refine AWl.nil (AW.sr ?_)
 refine AWl.p (by exact R_fieldAddr U (.no U) U (.tm U) fl39_0) U ?_
 refine AWl.p (by exact R_load U (.no U) U (.tm U) ty22 U U) U ?_
 refine AWl.p (by exact R_lenm U (.no U) U (.tm U) (by exact .t) Try.underlying22) U ?_
 refine AWl.av ?_
 refine AWl.nil (AW.seq ?_)
 refine AW.sr ?_
 refine AWl.p (by exact R_fieldAddr U (.no U) U (.tm U) fl39_0) U ?_
 refine AWl.p (by exact R_load U (.no U) U (.tm U) ty22 U U) U ?_
 refine AWl.p (by exact R_lenm U (.no U) U (.tm U) (by exact .t) Try.underlying22) U ?_
 refine AWl.p (R_move U (.no U) U (.const U)) U ?_
 refine AWl.nil (AW.block ?_)
 refine AW.loop (β := Nat) (fun x => x ≤ (g.Values).length ∧ ∀ j y, j < x → (g.Values)[j]? = some y → (fun v => inB v 0 2) y = true) (fun x => ⟨_, [(14, (true, .a (.one (.t (.v (.int .i64 (x : Nat))))))), (1, _), (3, _), (12, _), (13, _)], []⟩) (fun x => (g.Values).length - x) (0) ⟨Nat.zero_le _, fun j y hj => absurd hj (Nat.not_lt_zero j)⟩ (Le.sub0 U ⟨U, U, U, U, U, Y⟩ trivial) ?_
 intro k hk
 refine AW.sr ?_
 refine AWl.p (R_lt U (.no U) U (.tm U) (.tm U)) U ?_
 refine AWl.nil (AW.seq ?_)
 refine AW.cond (.tm U) (fun hlt => ?_) (fun hlt => ?_)
 · skip
   try simp at hlt
   obtain ⟨x, hx⟩ : ∃ ξ, (g.Values)[k]? = some ξ := ⟨_, List.getElem?_eq_getElem (by exact hlt)⟩
   refine AW.skip ?_
   refine AW.seq ?_
   refine AW.block ?_
   refine AW.sr ?_
   refine AWl.p ((by exact R_indexAddr U (.no U) U (.tm U) (.tm U) Try.underlying22 ty3 (fun _ => ⟨by omega, (by exact map_get (by assumption))⟩))) U ?_
   refine AWl.p (by exact R_load U (.no U) U (.tm U) ty3 U U) U ?_
   refine AWl.av ?_
   refine AWl.nil (AW.sr ?_)
   refine AWl.mv ?_
   refine AWl.p (R_callz (FnT.fr (implwithin _ _ _)) U (.no U) U (.cons (.tm U) U (.cons (.const U) U (.cons (.const U) U .nil)))) U ?_
   refine AWl.p (R_not U (.no U) U (.tm U)) U ?_
   refine AWl.nil ?_
   refine AW.cond (.tm U) (fun h20 => ?_) (fun h20 => ?_)
   · skip
     try simp at h20
     refine AW.seq ?_
     refine AW.le (σ' := ⟨_, [(1, _), (3, _), (5, _), (12, _), (13, _), (14, _)], []⟩) (Le.sub0 U ⟨U, U, U, U, U, U, Y⟩ trivial) ?_
     refine AW.region ?_
     refine AWl.ac ?_
     refine AWl.nil (AW.ret ?_)
     refine Res.v U U ?_
     unfold validG; rw [not_all hx h20]; rfl
   · skip
     try simp at h20
     refine AW.skip ?_
     refine AW.le (σ' := ⟨_, [(1, _), (3, _), (5, _), (12, _), (13, _), (14, _)], []⟩) (Le.sub0 U ⟨U, U, U, U, U, U, Y⟩ trivial) ?_
     refine AW.region ?_
     refine AWl.p (R_add U (.no U) U (.tm U) (.const U) (fun _ => by omega)) U ?_
     refine AWl.mv ?_
     refine AWl.nil ?_
     refine Round.next (k + 1) ⟨by omega, each_succ hk.2 hx (h20)⟩ (by omega) (Le.sub0 rfl ⟨rfl, rfl, rfl, rfl, rfl, Y⟩ trivial)
 · skip
   try simp at hlt
   refine AW.exit ?_
   refine AW.seq ?_
   refine AW.sr ?_
   refine AWl.p (by exact R_fieldAddr U (.no U) U (.tm U) fl39_1) U ?_
   refine AWl.p (by exact R_load U (.no U) U (.tm U) ty37 U U) U ?_
   refine AWl.p (by exact R_lenm U (.no U) U (.tm U) (by exact .t) Try.underlying37) U ?_
   refine AWl.p (R_move U (.no U) U (.const U)) U ?_
   refine AWl.nil (AW.block ?_)
   refine AW.loop (β := Nat) (fun x => x ≤ g.Edges.length ∧ ∀ j, j < x → edgeAt g.Edges g.Values.length j = true) (fun x => ⟨_, [(25, (true, .a (.one (.t (.v (.int .i64 (x : Nat))))))), (1, _), (3, _), (23, _), (24, _)], []⟩) (fun x => g.Edges.length - x) (0) ⟨Nat.zero_le _, fun j hj => absurd hj (Nat.not_lt_zero j)⟩ (Le.sub0 U ⟨U, U, U, U, U, Y⟩ trivial) ?_
   intro k1 hk1
   refine AW.sr ?_
   refine AWl.p (R_lt U (.no U) U (.tm U) (.tm U)) U ?_
   refine AWl.nil (AW.seq ?_)
   refine AW.cond (.tm U) (fun hlt1 => ?_) (fun hlt1 => ?_)
   · skip
     try simp at hlt1
     obtain ⟨x1, hx1⟩ : ∃ x1, g.Edges[k1]? = some x1 := ⟨_, List.getElem?_eq_getElem hlt1⟩
     refine AW.skip ?_
     refine AW.seq ?_
     refine AW.block ?_
     refine AW.sr ?_
     refine AWl.mv ?_
     refine AWl.p ((by exact R_indexAddr U (.no U) U (.tm U) (.tm U) Try.underlying37 ty93 (fun _ => ⟨by omega, (by exact map_get (by assumption))⟩))) U ?_
     refine AWl.p (by exact R_load U (.no U) U (.tm U) ty93 U U) U ?_
     refine AWl.add (R_alloc 7 U U U in93 U U U) U ?_
     refine AWl.av ?_
     refine AWl.chgb (R_store_pb U U U (.tm U) (.tm U) U ty93 U U U (by kernel_rfl) U) ?_
     refine AWl.nil (AW.seq ?_)
     refine AW.drawn 20 (nthB [[], [], [0, 1], [0, 1, 2], [0, 1, 2, 3], [0, 1, 2, 3, 4], [0, 1, 2, 3, 4, 5], [0, 1, 2, 3, 4, 5, 6], [0, 1, 2, 3, 4, 5, 6, 7], [0, 1, 2, 3, 4, 5, 6, 7, 8], [0, 1, 2, 3, 4, 5, 6, 7], [0, 1, 2, 3, 4, 5, 6, 7, 10], [0, 1, 2, 3, 4, 5, 6, 7, 8, 9, 10, 11], [0, 1, 2, 3, 4, 5, 6, 7, 8, 9, 10, 11, 12], [0, 1, 2, 3, 4, 5, 6, 7, 8, 9, 10, 11, 12, 13], [0, 1, 2, 3, 4, 5, 6, 7], [0, 1, 2, 3, 4, 5, 6, 7, 15], [0, 1, 2, 3, 4, 5, 6, 7, 8, 9, 10, 11, 12, 13, 14, 15, 16], [0, 1, 2, 3, 4, 5, 6, 7, 8, 9, 10, 11, 12, 13, 14, 15, 16, 17], [0, 1, 2, 3, 4, 5, 6, 7, 8, 9, 10, 11, 12, 13, 14, 15, 16, 17, 18]]) (by kernel_rfl) (by kernel_rfl) (by kernel_rfl) ?_
     refine DrawC.step U U U (Loc.of U fun σ' hs => (by exact R_load_pp U (.no U) (hd_sup hs U) (.tm (hs.slots _ _ U)) (hs.res _ _ U) ty93 U U)) ?_
     refine DrawC.step U U U (Loc.of U fun σ' hs => R_move U (.no U) (hd_sup hs U) (.tm (hs.slots _ _ U))) ?_
     refine DrawC.step U U U (Loc.of U fun σ' hs => R_callz (FnT.fr (impledgeOk _ _ (by omega) (by omega))) U (.no U) (hd_sup hs U) (.cons (.tm (hs.slots _ _ U)) (readA_sup hs U) (.cons (.tm (hs.slots _ _ U)) (readA_sup hs U) .nil))) ?_
     refine DrawC.step U U U (Loc.of U fun σ' hs => R_not U (.no U) (hd_sup hs U) (.tm (hs.slots _ _ U))) ?_
     refine DrawC.step U U U (Loc.of U fun σ' hs => R_move U (.no U) (hd_sup hs U) (.tm (hs.slots _ _ U))) ?_
     refine DrawC.step U U U (Loc.of U fun σ' hs => R_move U (by exact .not1 U U (hs.slots _ _ U) (by rw [hs.n]; rfl)) (hd_sup hs U) (.tmp (hs.slots _ _ U) (by exact fun _ => rfl))) ?_
     refine DrawC.step U U U (Loc.of U fun σ' hs => R_gt U (by exact .not1 U U (hs.slots _ _ U) (by rw [hs.n]; rfl)) (hd_sup hs U) (.tmp (hs.slots _ _ U) (by exact id)) (.const U)) ?_
     refine DrawC.step U U U (Loc.of U fun σ' hs => R_move U (by exact .not1 U U (hs.slots _ _ U) (by rw [hs.n]; rfl)) (hd_sup hs U) (.tmp (hs.slots _ _ U) (by exact id))) ?_
     refine DrawC.step U U U (Loc.of U fun σ' hs => (by exact R_fieldAddr U (by exact .yes U U (hs.slots _ _ U) (by rw [hs.n]; rfl)) (hd_sup hs U) (.tmp (hs.slots _ _ U) (by exact fun _ => rfl)) fl39_1)) ?_
     refine DrawC.step U U U (Loc.of U fun σ' hs => (by exact R_load U (by exact .yes U U (hs.slots _ _ U) (by rw [hs.n]; rfl)) (hd_sup hs U) (.tmp (hs.slots _ _ U) (by exact id)) ty37 U U)) ?_
     refine DrawC.step U U U (Loc.of U fun σ' hs => R_move U (by exact .yes U U (hs.slots _ _ U) (by rw [hs.n]; rfl)) (hd_sup hs U) (.tmp (hs.slots _ _ U) (by exact fun _ => rfl))) ?_
     refine DrawC.step U U U (Loc.of U fun σ' hs => R_sub U (by exact .yes U U (hs.slots _ _ U) (by rw [hs.n]; rfl)) (hd_sup hs U) (.tmp (hs.slots _ _ U) (by exact id)) (.const U) (fun hq => by first | omega | (simp at hq; omega))) ?_
     refine DrawC.step U U U (Loc.of U fun σ' hs => (by exact R_indexAddr U (by exact .yes U U (hs.slots _ _ U) (by rw [hs.n]; rfl)) (hd_sup hs U) (.tmp (hs.slots _ _ U) (by exact id)) (.tmp (hs.slots _ _ U) (by exact id)) Try.underlying37 ty93 (fun hq => by simp at hq; exact ⟨by omega, map_get (getD_pred (l := g.Edges) (d := dE) (by omega) (by omega))⟩))) ?_
     refine DrawC.step U U U (Loc.of U fun σ' hs => (by exact R_fieldAddr U (by exact .yes U U (hs.slots _ _ U) (by rw [hs.n]; rfl)) (hd_sup hs U) (.tmp (hs.slots _ _ U) (by exact id)) fl93_0)) ?_
     refine DrawC.step U U U (Loc.of U fun σ' hs => (by exact R_load U (by exact .yes U U (hs.slots _ _ U) (by rw [hs.n]; rfl)) (hd_sup hs U) (.tmp (hs.slots _ _ U) (by exact id)) ty3 U U)) ?_
     refine DrawC.step U U U (Loc.of U fun σ' hs => (by exact R_fieldAddr_pp U (by exact .yes U U (hs.slots _ _ U) (by rw [hs.n]; rfl)) (hd_sup hs U) (.tmp (hs.slots _ _ U) (by exact fun _ => rfl)) fl93_0)) ?_
     refine DrawC.step U U U (Loc.of U fun σ' hs => (by exact R_load_pp U (by exact .yes U U (hs.slots _ _ U) (by rw [hs.n]; rfl)) (hd_sup hs U) (.tmp (hs.slots _ _ U) (by exact id)) (hs.res _ _ U) ty3 U U)) ?_
     refine DrawC.step U U U (Loc.of U fun σ' hs => R_ge U (by exact .yes U U (hs.slots _ _ U) (by rw [hs.n]; rfl)) (hd_sup hs U) (.tmp (hs.slots _ _ U) (by exact id)) (.tmp (hs.slots _ _ U) (by exact id))) ?_
     refine DrawC.step U U U (Loc.of U fun σ' hs => R_and U (by exact .not1 U U (hs.slots _ _ U) (by rw [hs.n]; rfl)) (hd_sup hs U) (.tmp (hs.slots _ _ U) (by exact id)) (.tmp (hs.slots _ _ U) (by exact id))) ?_
     refine DrawC.step U U U (Loc.of U fun σ' hs => R_or U (.no U) (hd_sup hs U) (.tm (hs.slots _ _ U)) (.tmp (hs.slots _ _ U) (by exact id))) ?_
     refine DrawC.fin U U ?_
     refine AWl.nil ?_
     refine AW.cond (.tm U) (fun h49 => ?_) (fun h49 => ?_)
     · skip
       try simp at h49
       refine AW.seq ?_
       refine AW.le (σ' := ⟨_, [(1, _), (3, _), (6, _), (7, _), (23, _), (24, _), (25, _)], [(7, _)]⟩) (Le.sub0 U ⟨U, U, U, U, U, U, U, Y⟩ ⟨U, Y⟩) ?_
       refine AW.region ?_
       refine AWl.ac ?_
       refine AWl.nil (AW.ret ?_)
       refine Res.v U U ?_
       unfold validG; rw [range_not hlt1 (by simp only [edgeAt, hx1]; grind)]; simp
     · skip
       try simp at h49
       refine AW.skip ?_
       refine AW.le (σ' := ⟨_, [(1, _), (3, _), (6, _), (7, _), (23, _), (24, _), (25, _)], [(7, _)]⟩) (Le.sub0 U ⟨U, U, U, U, U, U, U, Y⟩ ⟨U, Y⟩) ?_
       refine AW.region ?_
       refine AWl.p (R_add U (.no U) U (.tm U) (.const U) (fun _ => by omega)) U ?_
       refine AWl.mv ?_
       refine AWl.nil ?_
       refine Round.next (k1 + 1) ⟨by omega, range_succ hk1.2 (by simp only [edgeAt, hx1]; grind)⟩ (by omega) (Le.sub0 rfl ⟨rfl, rfl, rfl, rfl, rfl, Y⟩ trivial)
   · skip
     try simp at hlt1
     refine AW.exit ?_
     refine AW.sr ?_
     refine AWl.mv ?_
     refine AWl.p (R_callz (FnT.fr (implwithin _ _ _)) U (.no U) U (.cons (.tm U) U (.cons (.const U) U (.cons (.const U) U .nil)))) U ?_
     refine AWl.mv ?_
     refine AWl.p (by exact R_fieldAddr U (by exact .yes1 U U U U) U (.tmp U (by exact fun _ => rfl)) fl39_1) U ?_
     refine AWl.p (by exact R_load U (by exact .yes1 U U U U) U (.tmp U (by exact id)) ty37 U U) U ?_
     refine AWl.p (by exact R_lenm U (by exact .yes1 U U U U) U (.tmp U (by exact id)) (by exact .t) Try.underlying37) U ?_
     refine AWl.p (R_le U (by exact .yes1 U U U U) U (.tmp U (by exact id)) (.const U)) U ?_
     refine AWl.p (R_and U (.no U) U (.tm U) (.tmp U (by exact id))) U ?_
     refine AWl.av ?_
     refine AWl.nil (AW.ret ?_)
     refine Res.v U U ?_
     unfold validG; rw [each_all hk.2 (by omega), range_all hk1.2 (by omega)]; simp; grind
end Go.Proofs.Ytamnfkfjfelbbaa
