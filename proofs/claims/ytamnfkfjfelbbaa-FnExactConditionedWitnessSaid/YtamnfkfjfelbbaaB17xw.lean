import Derived.Test.YtamnfkfjfelbbaaB14xw
import Derived.Test.YtamnfkfjfelbbaaAbsJxw
set_option linter.unusedVariables false
set_option linter.unusedSimpArgs false
set_option maxHeartbeats 1000000
set_option maxRecDepth 100000
namespace Go.Q
open Go.D
theorem range_app {α : Type} (k : Nat) (c : α → List T) (F : Nat → List α) (y : α) {n i : Nat} : ((List.range n).map fun x => [T.sl k ((F x).map c)]).set i [T.sl k ((F i).map c ++ [c y])] = (List.range n).map fun x => [T.sl k ((F x ++ if x = i then [y] else []).map c)] := by
 rw [range_set]
 congr 1
 funext x
 by_cases h : x = i
 · subst h; simp
 · simp [h]
theorem arcs_step {l : List TEdge} {k : Nat} {e : TEdge} (h : l[k]? = some e) (h1 : 0 ≤ e.From) (h2 : 0 ≤ e.To) (x : Nat) : (arcsL (l.take k) x ++ if x = e.From.toNat then [⟨⟨e.ID, false⟩, reads e false, e.To⟩] else []) ++ (if x = e.To.toNat then [⟨⟨e.ID, true⟩, reads e true, e.From⟩] else []) = arcsL (l.take (k + 1)) x := by
 rw [arcsL_at h, arcsOf, List.append_assoc]
 have e1 : (x = e.From.toNat) ↔ (e.From = (x : Int)) := by omega
 have e2 : (x = e.To.toNat) ↔ (e.To = (x : Int)) := by omega
 simp only [e1, e2]
def nxN (g : TGraph) (a : TAutomaton) (i : Nat) : List Int := nextsOf g a ((i / a.Accept.length : Nat) : Int) ((i % a.Accept.length : Nat) : Int)
def rowAt (nx : Nat → List Int) (p : Nat) (l : List Int) (i : Nat) : List Int := if i < p then nx i else if i = p then l else []
theorem rowAt_app (nx : Nat → List Int) (p : Nat) (l : List Int) (y : Int) (i : Nat) : rowAt nx p l i ++ (if i = p then [y] else []) = rowAt nx p (l ++ [y]) i := by
 unfold rowAt
 by_cases h : i < p
 · rw [if_pos h, if_pos h, if_neg (by omega), List.append_nil]
 · rw [if_neg h, if_neg h]
   by_cases e : i = p
   · simp [e]
   · simp [e]
theorem rowAt_next (nx : Nat → List Int) (p : Nat) (i : Nat) : rowAt nx p (nx p) i = rowAt nx (p + 1) [] i := by
 unfold rowAt
 by_cases h : i < p
 · rw [if_pos h, if_pos (by omega)]
 · rw [if_neg h]
   by_cases e : i = p
   · subst e; simp
   · rw [if_neg e, if_neg (by omega)]; simp
theorem div_idx {x s n : Nat} (h : s < n) : (x * n + s) / n = x ∧ (x * n + s) % n = s := by
 constructor
 · rw [Nat.mul_comm, Nat.mul_add_div (by omega), Nat.div_eq_of_lt h, Nat.add_zero]
 · rw [Nat.mul_comm, Nat.mul_add_mod, Nat.mod_eq_of_lt h]
theorem idx_lt {x s n V : Nat} (hx : x < V) (hs : s < n) : x * n + s < n * V := by
 calc x * n + s < x * n + n := by omega
  _ = (x + 1) * n := by rw [Nat.succ_mul]
  _ ≤ V * n := Nat.mul_le_mul_right _ hx
  _ = n * V := Nat.mul_comm _ _
theorem flatMap_at {α β : Type} (f : α → List β) {l : List α} {j : Nat} {y : α} (h : l[j]? = some y) : (l.take (j + 1)).flatMap f = (l.take j).flatMap f ++ f y := by
 rw [take_at h, List.flatMap_append]; simp
theorem vertN_at {a : TAutomaton} {s v : Int} {y : TArc} {u t : Nat} (h : (bitsN (aft1 a s v y.letter))[u]? = some t) : (vertN a s v y)[u]? = some (y.to * a.Accept.length + t) := by
 unfold vertN
 rw [List.getElem?_map, h]; rfl
theorem vertN_len (a : TAutomaton) (s v : Int) (y : TArc) : (vertN a s v y).length = (bitsN (aft1 a s v y.letter)).length := by unfold vertN; simp
theorem flatMap_len {α β : Type} {f : α → List β} {b : Nat} (h : ∀ x, (f x).length ≤ b) : ∀ l : List α, (l.flatMap f).length ≤ l.length * b
 | [] => by simp
 | x :: l => by
  rw [List.flatMap_cons, List.length_append, List.length_cons, Nat.succ_mul]
  have := h x
  have := flatMap_len h l
  omega
end Go.Q
namespace Go.Proofs.Ytamnfkfjfelbbaa
open Go.RowKit Go.Q Go.D
theorem implarcs (g : TGraph) (hg : validG g = true) : FnT Try.prog 57 [.agg (cGraph g)] (.a (.one (.sl 1 ((arcsV g).map cArcS)))) := by
 refine FnT.walk Try.func57 U (by kernel_rfl) Try.ntmps57 U fun hlen w0 => ?_
 try simp [cPair, cToken, cExpr, cEdge, cGraph, cStep, cWalk, cChange, cBatch, cHistory, cPositions, cAutomaton, cProductStep, cPathAtom, cConjunction, cView, cDelta, cRegistered, cRegistry] at hlen
 have hG := validG_len hg
 refine AW.sr ?_
 refine AWl.p (R_boxz U U U (.tm U) (ts := _) (by rfl)) U ?_
 refine AWl.ac ?_
 refine AWl.nilS (i := 2) 20001 1 U U ?_
 refine AWl.nil (AW.sr ?_)
 refine AWl.p (by exact R_fieldAddr U (.no U) U (.tm U) fl39_0) U ?_
 refine AWl.p (by exact R_load U (.no U) U (.tm U) ty22 U U) U ?_
 refine AWl.p (by exact R_lenm U (.no U) U (.tm U) (by exact .t) Try.underlying22) U ?_
 refine AWl.add (R_makeSlice 9 U U U (.tm U) Try.underlying68 in97 U U U U (by omega)) U ?_
 refine AWl.le (Le.nilRow (id := 9) 4 U) ?_
 refine AWl.av ?_
 refine AWl.nil (AW.seq ?_)
 refine AW.sr ?_
 refine AWl.p (by exact R_fieldAddr U (.no U) U (.tm U) fl39_1) U ?_
 refine AWl.p (by exact R_load U (.no U) U (.tm U) ty37 U U) U ?_
 refine AWl.p (by exact R_lenm U (.no U) U (.tm U) (by exact .t) Try.underlying37) U ?_
 refine AWl.p (R_move U (.no U) U (.const U)) U ?_
 refine AWl.nil (AW.block ?_)
 refine AW.loop1 (fun (k : Nat) => (k ≤ g.Edges.length) ∧ True) (fun (k : Nat) => ⟨_, [(13, (true, .a (.one (.t (.v (.int .i64 (k : Nat))))))), (3, (true, .a (.one (.rf 9)))), (2, _), (11, _), (12, _)], [(9, .row 1 ((List.range g.Values.length).map fun (x : Nat) => [T.sl 4 ((arcsL (g.Edges.take k) x).map cArc)]))]⟩) (fun (k : Nat) => g.Edges.length - k) (0) ⟨Nat.zero_le _, Y⟩ (Le.sub0 U ⟨U, U, U, U, U, Y⟩ ⟨congrArg (fun r => some (R.row 1 r)) (by apply List.ext_getElem <;> simp [arcsL]), Y⟩) ?_
 rintro k ⟨hk, he⟩
 refine AW.sr ?_
 refine AWl.p (R_lt U (.no U) U (.tm U) (.tm U)) U ?_
 refine AWl.nil (AW.seq ?_)
 refine AW.cond (.tm U) (fun h14 => ?_) (fun h14 => ?_)
 · skip
   try simp at h14
   obtain ⟨e, he1⟩ : ∃ ξ, g.Edges[k]? = some ξ := ⟨_, List.getElem?_eq_getElem (by omega)⟩
   have hE := validG_edge hg he1
   have hL : ∀ x : Int, (arcsL (g.Edges.take k) x).length ≤ 24 := fun x => Nat.le_trans (arcsL_len _ x) (by simp; omega)
   have hL1 := hL (e.From.toNat : Nat)
   obtain ⟨F1, hF1⟩ : ∃ F : Nat → List TArc, F = fun (x : Nat) => arcsL (g.Edges.take k) x ++ if x = e.From.toNat then [(⟨⟨e.ID, false⟩, reads e false, e.To⟩ : TArc)] else [] := ⟨_, rfl⟩
   have hL2 : (F1 e.To.toNat).length ≤ 25 := by (rw [hF1]; have := hL (e.To.toNat : Nat); dsimp only; rw [List.length_append]; split <;> simp only [List.length_cons, List.length_nil] <;> omega)
   refine AW.skip ?_
   refine AW.seq ?_
   refine AW.block ?_
   refine AW.sr ?_
   refine AWl.p (by exact R_indexAddr U (.no U) U (.tm U) (.tm U) Try.underlying37 ty93 (fun _ => ⟨by omega, map_get he1⟩)) U ?_
   refine AWl.p (by exact R_load U (.no U) U (.tm U) ty93 U U) U ?_
   refine AWl.add (R_alloc 5 U U U in93 U U U) U ?_
   refine AWl.chgb (R_store_pb U U U (.tm U) (.tm U) U ty93 U U U (by kernel_rfl) U) ?_
   refine AWl.nil (AW.seq ?_)
   refine AW.le (σ' := ⟨_, [(2, _), (3, _), (5, _), (11, _), (12, _), (13, _)], [(9, .row 1 ((List.range g.Values.length).map fun (x : Nat) => [T.sl 4 ((arcsL (g.Edges.take k) x).map cArc)])), (5, .box [.t (.v (.int .i64 e.ID)), .t (.v (.int .i64 e.From)), .t (.v (.int .i64 e.To)), .t (.v (.int .i64 e.Label))])]⟩) (Le.sub0 U ⟨U, U, U, U, U, U, Y⟩ ⟨U, U, Y⟩) ?_
   refine AW.takeR (id := 9) (i := e.From.toNat) (p := 0) 241 242 U (range_get _ (by omega)) U (fun _ => rfl) (fun _ => rfl) fun c24 => ?_
   refine AW.drawA 17 (nthB [[], [], [1], [], [], [4], [3, 4, 5], [3, 4, 5, 6], [], [8], [8, 9], [], [11], [], [13], [8, 9, 10, 11, 12, 13, 14], [8, 9, 10, 11, 12, 13, 14, 15], [3, 4, 5, 6, 7, 8, 9, 10, 11, 12, 13, 14, 15, 16]]) 241 34 (.row 4 ((arcsL (g.Edges.take k) (e.From.toNat : Nat)).map cArc ++ [cArc ⟨⟨e.ID, false⟩, reads e false, e.To⟩])) (true, .a (.one (.rf 241))) ⟨_, [(2, _), (3, _), (5, _), (11, _), (12, _), (13, _)], [(9, _), (5, _)]⟩ (by kernel_rfl) (by kernel_rfl) (by kernel_rfl) (Sup.sub0 U ⟨U, U, U, U, U, U, Y⟩ ⟨U, U, Y⟩) (Sup.sub0 U ⟨U, U, U, U, U, U, Y⟩ ⟨U, U, Y⟩) U U ?_
   refine DrawG.step U U (Loc.of U fun σ' hs => R_move U (.no U) (hd_sup hs U) (.tm (hs.slots _ _ U))) ?_
   refine DrawG.step U U (Loc.of U fun σ' hs => (by exact R_fieldAddr_pp U (.no U) (hd_sup hs U) (.tm (hs.slots _ _ U)) fl93_1)) ?_
   refine DrawG.step U U (Loc.of U fun σ' hs => (by exact R_load_pp U (.no U) (hd_sup hs U) (.tm (hs.slots _ _ U)) (hs.res _ _ U) ty3 U U)) ?_
   refine DrawG.step U U (Loc.of U fun σ' hs => R_move U (.no U) (hd_sup hs U) (.tm (hs.slots _ _ U))) ?_
   refine DrawG.step U U (Loc.of U fun σ' hs => (by exact R_fieldAddr_pp U (.no U) (hd_sup hs U) (.tm (hs.slots _ _ U)) fl93_1)) ?_
   refine DrawG.step U U (Loc.of U fun σ' hs => (by exact R_load_pp U (.no U) (hd_sup hs U) (.tm (hs.slots _ _ U)) (hs.res _ _ U) ty3 U U)) ?_
   refine DrawG.step U U (Loc.of U fun σ' hs => (by exact R_indexAddr_rf U (.no U) (hd_sup hs U) (.tm (hs.slots _ _ U)) (hs.res _ _ U) (.tm (hs.slots _ _ U)) Try.underlying68 ty97 (fun _ => ⟨by omega, set_at _ (range_get _ (by omega))⟩))) ?_
   refine DrawG.step U U (Loc.of U fun σ' hs => (by exact R_load_pr U (.no U) (hd_sup hs U) (.tm (hs.slots _ _ U)) (hs.res _ _ U) (set_at _ (range_get _ (by omega))) ty97 U U)) ?_
   refine DrawG.step U U (Loc.of U fun σ' hs => (by exact R_fieldAddr_pp U (.no U) (hd_sup hs U) (.tm (hs.slots _ _ U)) fl93_0)) ?_
   refine DrawG.step U U (Loc.of U fun σ' hs => (by exact R_load_pp U (.no U) (hd_sup hs U) (.tm (hs.slots _ _ U)) (hs.res _ _ U) ty3 U U)) ?_
   refine DrawG.step U U (Loc.of U fun σ' hs => R_build (ps := [(0, .tmp 26)]) U U (hd_sup hs U) in59 U U st59 (.cons (.tm (hs.slots _ _ U)) U U fp59_0 .nil) U) ?_
   refine DrawG.step U U (Loc.of U fun σ' hs => (by exact R_load_pp U (.no U) (hd_sup hs U) (.tm (hs.slots _ _ U)) (hs.res _ _ U) ty93 U U)) ?_
   refine DrawG.step U U (Loc.of U fun σ' hs => R_callz (FnT.fr (implreads _ _ (by omega))) U (.no U) (hd_sup hs U) (.cons (.tm (hs.slots _ _ U)) (readA_sup hs U) (.cons (.const U) (readA_sup hs U) .nil))) ?_
   refine DrawG.step U U (Loc.of U fun σ' hs => (by exact R_fieldAddr_pp U (.no U) (hd_sup hs U) (.tm (hs.slots _ _ U)) fl93_2)) ?_
   refine DrawG.step U U (Loc.of U fun σ' hs => (by exact R_load_pp U (.no U) (hd_sup hs U) (.tm (hs.slots _ _ U)) (hs.res _ _ U) ty3 U U)) ?_
   refine DrawG.step U U (Loc.of U fun σ' hs => R_build (ps := [(0, .tmp 27), (1, .tmp 29), (2, .tmp 31)]) U U (hd_sup hs U) in100 U U st100 (.cons (.tm (hs.slots _ _ U)) U U fp100_0 (.cons (.tm (hs.slots _ _ U)) U U fp100_1 (.cons (.tm (hs.slots _ _ U)) U U fp100_2 .nil))) U) ?_
   refine DrawG.step U U (Loc.of U fun σ' hs => R_listz (xs := [.tmp 32]) (rows := [cArc ⟨⟨e.ID, false⟩, reads e false, e.To⟩]) U U (hd_sup hs U) (.cons (.tm (hs.slots _ _ U)) U U .nil) Try.underlying97 in100 U U (U)) ?_
   refine DrawG.fin U (FinA.mk U U (fun σ' hs => R_append_hd (id := 241) (hid := 242) U U (hd_sup hs U) (.tm (hs.slots _ _ U)) (hs.res _ _ U) (hs.res _ _ U) (.tm (hs.slots _ _ U)) (by exact .t) (by rfl) Try.underlying97 in100 U (by (simp only [List.length_map, List.length_append, List.length_cons, List.length_nil, chunk]; omega)) (by (unfold maxLen; simp only [List.length_map, List.length_append, List.length_cons, List.length_nil, chunk]; omega))) U ?_)
   refine AWl.le (σ' := ⟨_, [(2, _), (3, _), (5, _), (11, _), (12, _), (13, _), (17, _), (19, _), (34, _)], [(9, _), (5, _), (241, _)]⟩) (Le.sub0 U ⟨U, U, U, U, U, U, U, U, U, Y⟩ ⟨U, U, U, Y⟩) ?_
   refine AWl.p ((by exact R_indexAddr_rf U (.no U) U (.tm U) U (.tm U) Try.underlying68 ty97 (fun _ => ⟨by omega, set_at _ (range_get _ (by omega))⟩))) U ?_
   refine AWl.absupd (R_store_pr U U U (.tm U) U (.tm U) U (set_at _ (range_get _ (by omega))) ty97 U U U U) ?_
   refine AWl.nil ?_
   refine AW.le (σ' := ⟨_, [(2, _), (3, _), (5, _), (11, _), (12, _), (13, _)], [(9, .row 1 ((List.range g.Values.length).map fun (x : Nat) => [T.sl 4 ((F1 x).map cArc)])), (5, .box [.t (.v (.int .i64 e.ID)), .t (.v (.int .i64 e.From)), .t (.v (.int .i64 e.To)), .t (.v (.int .i64 e.Label))])]⟩) (Le.sub0 U ⟨U, U, U, U, U, U, Y⟩ ⟨congrArg (fun r => some (R.row 1 r)) (by simp only [List.set_set]; refine (range_app 4 cArc _ _).trans ?_; rw [hF1]), U, Y⟩) ?_
   refine AW.takeR (id := 9) (i := e.To.toNat) (p := 0) 431 432 U (range_get _ (by omega)) U (fun _ => rfl) (fun _ => rfl) fun c43 => ?_
   refine AW.drawA 17 (nthB [[], [], [1], [], [], [4], [3, 4, 5], [3, 4, 5, 6], [], [8], [8, 9], [], [11], [], [13], [8, 9, 10, 11, 12, 13, 14], [8, 9, 10, 11, 12, 13, 14, 15], [3, 4, 5, 6, 7, 8, 9, 10, 11, 12, 13, 14, 15, 16]]) 431 53 (.row 4 ((F1 e.To.toNat).map cArc ++ [cArc ⟨⟨e.ID, true⟩, reads e true, e.From⟩])) (true, .a (.one (.rf 431))) ⟨_, [(2, _), (3, _), (5, _), (11, _), (12, _), (13, _)], [(9, _), (5, _)]⟩ (by kernel_rfl) (by kernel_rfl) (by kernel_rfl) (Sup.sub0 U ⟨U, U, U, U, U, U, Y⟩ ⟨U, U, Y⟩) (Sup.sub0 U ⟨U, U, U, U, U, U, Y⟩ ⟨U, U, Y⟩) U U ?_
   refine DrawG.step U U (Loc.of U fun σ' hs => R_move U (.no U) (hd_sup hs U) (.tm (hs.slots _ _ U))) ?_
   refine DrawG.step U U (Loc.of U fun σ' hs => (by exact R_fieldAddr_pp U (.no U) (hd_sup hs U) (.tm (hs.slots _ _ U)) fl93_2)) ?_
   refine DrawG.step U U (Loc.of U fun σ' hs => (by exact R_load_pp U (.no U) (hd_sup hs U) (.tm (hs.slots _ _ U)) (hs.res _ _ U) ty3 U U)) ?_
   refine DrawG.step U U (Loc.of U fun σ' hs => R_move U (.no U) (hd_sup hs U) (.tm (hs.slots _ _ U))) ?_
   refine DrawG.step U U (Loc.of U fun σ' hs => (by exact R_fieldAddr_pp U (.no U) (hd_sup hs U) (.tm (hs.slots _ _ U)) fl93_2)) ?_
   refine DrawG.step U U (Loc.of U fun σ' hs => (by exact R_load_pp U (.no U) (hd_sup hs U) (.tm (hs.slots _ _ U)) (hs.res _ _ U) ty3 U U)) ?_
   refine DrawG.step U U (Loc.of U fun σ' hs => (by exact R_indexAddr_rf U (.no U) (hd_sup hs U) (.tm (hs.slots _ _ U)) (hs.res _ _ U) (.tm (hs.slots _ _ U)) Try.underlying68 ty97 (fun _ => ⟨by omega, set_at _ (range_get _ (by omega))⟩))) ?_
   refine DrawG.step U U (Loc.of U fun σ' hs => (by exact R_load_pr U (.no U) (hd_sup hs U) (.tm (hs.slots _ _ U)) (hs.res _ _ U) (set_at _ (range_get _ (by omega))) ty97 U U)) ?_
   refine DrawG.step U U (Loc.of U fun σ' hs => (by exact R_fieldAddr_pp U (.no U) (hd_sup hs U) (.tm (hs.slots _ _ U)) fl93_0)) ?_
   refine DrawG.step U U (Loc.of U fun σ' hs => (by exact R_load_pp U (.no U) (hd_sup hs U) (.tm (hs.slots _ _ U)) (hs.res _ _ U) ty3 U U)) ?_
   refine DrawG.step U U (Loc.of U fun σ' hs => R_build (ps := [(0, .tmp 45), (1, .const (.bool true))]) U U (hd_sup hs U) in59 U U st59 (.cons (.tm (hs.slots _ _ U)) U U fp59_0 (.cons (.const U) U U fp59_1 .nil)) U) ?_
   refine DrawG.step U U (Loc.of U fun σ' hs => (by exact R_load_pp U (.no U) (hd_sup hs U) (.tm (hs.slots _ _ U)) (hs.res _ _ U) ty93 U U)) ?_
   refine DrawG.step U U (Loc.of U fun σ' hs => R_callz (FnT.fr (implreads _ _ (by omega))) U (.no U) (hd_sup hs U) (.cons (.tm (hs.slots _ _ U)) (readA_sup hs U) (.cons (.const U) (readA_sup hs U) .nil))) ?_
   refine DrawG.step U U (Loc.of U fun σ' hs => (by exact R_fieldAddr_pp U (.no U) (hd_sup hs U) (.tm (hs.slots _ _ U)) fl93_1)) ?_
   refine DrawG.step U U (Loc.of U fun σ' hs => (by exact R_load_pp U (.no U) (hd_sup hs U) (.tm (hs.slots _ _ U)) (hs.res _ _ U) ty3 U U)) ?_
   refine DrawG.step U U (Loc.of U fun σ' hs => R_build (ps := [(0, .tmp 46), (1, .tmp 48), (2, .tmp 50)]) U U (hd_sup hs U) in100 U U st100 (.cons (.tm (hs.slots _ _ U)) U U fp100_0 (.cons (.tm (hs.slots _ _ U)) U U fp100_1 (.cons (.tm (hs.slots _ _ U)) U U fp100_2 .nil))) U) ?_
   refine DrawG.step U U (Loc.of U fun σ' hs => R_listz (xs := [.tmp 51]) (rows := [cArc ⟨⟨e.ID, true⟩, reads e true, e.From⟩]) U U (hd_sup hs U) (.cons (.tm (hs.slots _ _ U)) U U .nil) Try.underlying97 in100 U U (U)) ?_
   refine DrawG.fin U (FinA.mk U U (fun σ' hs => R_append_hd (id := 431) (hid := 432) U U (hd_sup hs U) (.tm (hs.slots _ _ U)) (hs.res _ _ U) (hs.res _ _ U) (.tm (hs.slots _ _ U)) (by exact .t) (by rfl) Try.underlying97 in100 U (by (simp [chunk]; omega)) (by (unfold maxLen; simp [chunk]; omega))) U ?_)
   refine AWl.le (σ' := ⟨_, [(2, _), (3, _), (5, _), (11, _), (12, _), (13, _), (36, _), (38, _), (53, _)], [(9, _), (5, _), (431, _)]⟩) (Le.sub0 U ⟨U, U, U, U, U, U, U, U, U, Y⟩ ⟨U, U, U, Y⟩) ?_
   refine AWl.p ((by exact R_indexAddr_rf U (.no U) U (.tm U) U (.tm U) Try.underlying68 ty97 (fun _ => ⟨by omega, set_at _ (range_get _ (by omega))⟩))) U ?_
   refine AWl.absupd (R_store_pr U U U (.tm U) U (.tm U) U (set_at _ (range_get _ (by omega))) ty97 U U U U) ?_
   refine AWl.nil (AW.region ?_)
   refine AWl.p (R_add U (.no U) U (.tm U) (.const U) (fun _ => by omega)) U ?_
   refine AWl.mv ?_
   refine AWl.nil ?_
   repeat (with_reducible refine BlockQ.nor ?_)
   refine Round1.next (k + 1) ⟨by omega, Y⟩ (by omega) (Le.sub0 rfl ⟨rfl, rfl, rfl, rfl, rfl, Y⟩ ⟨congrArg (fun r => some (R.row 1 r)) (by simp only [List.set_set]; refine (range_app 4 cArc _ _).trans ?_; rw [hF1]; congr 1; funext x; rw [arcs_step he1 hE.1 hE.2.2.1]), Y⟩)
 · skip
   try simp at h14
   refine AW.exit ?_
   refine AW.sr ?_
   refine AWl.mv ?_
   refine AWl.av ?_
   refine AWl.nil (AW.ret ?_)
   refine Res.one U (.tmp U .nil) U ?_
   unfold arcsV; rw [List.map_map, List.take_of_length_le (by omega)]; rfl
end Go.Proofs.Ytamnfkfjfelbbaa
