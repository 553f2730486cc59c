import Derived.Test.YtbkhopfpejhnlaaGreatB59rc
import Derived.Test.YtbkhopfpejhnlaaGreatB39rc
import Derived.Test.YtbkhopfpejhnlaaGreatDraw5rc
set_option linter.unusedVariables false
set_option linter.unusedSimpArgs false
set_option maxHeartbeats 1000000
set_option maxRecDepth 100000
namespace Go.Q
open Go.D
theorem delG_same {g : TGraph} {id : Int} (h : (delG g id).2 = false) : (delG g id).1 = g := by
 unfold delG at *
 split at h
 · cases h
 · rename_i hc; rw [if_neg hc]
theorem delG_len (g : TGraph) (id : Int) : (delG g id).1.Values.length = g.Values.length ∧ (delG g id).1.Edges.length ≤ g.Edges.length := by
 unfold delG
 split
 · refine ⟨rfl, ?_⟩
   rw [List.length_append, List.length_take, List.length_drop]; omega
 · exact ⟨rfl, Nat.le_refl _⟩
def shrStep (a b : TExpr) (x y : Int) (h : TGraph) (e : TEdge) : TGraph := if refut (delG h e.ID).1 a b x y = true then (delG h e.ID).1 else h
def shrTo (g : TGraph) (a b : TExpr) (x y : Int) (k : Nat) : TGraph := (g.Edges.take k).foldl (shrStep a b x y) g
theorem shrTo_succ {g : TGraph} (a b : TExpr) (x y : Int) {k : Nat} {e : TEdge} (h : g.Edges[k]? = some e) : shrTo g a b x y (k + 1) = shrStep a b x y (shrTo g a b x y k) e := by
 unfold shrTo; rw [take_at h, List.foldl_append]; rfl
theorem shrStep_yes {a b : TExpr} {x y : Int} {h : TGraph} {e : TEdge} (hr : refut (delG h e.ID).1 a b x y = true) : shrStep a b x y h e = (delG h e.ID).1 := if_pos hr
theorem shrStep_no {a b : TExpr} {x y : Int} {h : TGraph} {e : TEdge} (hr : (delG h e.ID).2 = false ∨ refut (delG h e.ID).1 a b x y = false) : shrStep a b x y h e = h := by
 unfold shrStep
 split
 · rename_i h1
   rcases hr with h2 | h2
   · exact delG_same h2
   · rw [h2] at h1; cases h1
 · rfl
def shrinkR (g : TGraph) (a b : TExpr) (x y : Int) : TGraph × Bool := if refut g a b x y = true then (shrTo g a b x y g.Edges.length, true) else (g, false)
theorem shrStep_len (a b : TExpr) (x y : Int) (h : TGraph) (e : TEdge) : (shrStep a b x y h e).Values.length = h.Values.length ∧ (shrStep a b x y h e).Edges.length ≤ h.Edges.length := by
 unfold shrStep
 split
 · exact delG_len h e.ID
 · exact ⟨rfl, Nat.le_refl _⟩
theorem shrTo_len (g : TGraph) (a b : TExpr) (x y : Int) (k : Nat) : (shrTo g a b x y k).Values.length = g.Values.length ∧ (shrTo g a b x y k).Edges.length ≤ g.Edges.length := by
 unfold shrTo
 generalize g.Edges.take k = l
 suffices H : ∀ (l : List TEdge) (h : TGraph), (l.foldl (shrStep a b x y) h).Values.length = h.Values.length ∧ (l.foldl (shrStep a b x y) h).Edges.length ≤ h.Edges.length from H l g
 intro l
 induction l with
 | nil => exact fun h => ⟨rfl, Nat.le_refl _⟩
 | cons e l ih =>
  intro h
  have h1 := ih (shrStep a b x y h e)
  have h2 := shrStep_len a b x y h e
  rw [List.foldl_cons]
  exact ⟨h1.1.trans h2.1, Nat.le_trans h1.2 h2.2⟩
end Go.Q
namespace Go.Proofs.YtbkhopfpejhnlaaGreat
open Go.RowKit Go.Q Go.D
theorem implShrinkRefutation (g : TGraph) (a b : TExpr) (x y : Int) (hz1 : g.Values.length ≤ 1073741824) (hz2 : g.Edges.length ≤ 1073741824) : FnT Tryz.prog 8 [.agg (cGraph g), .agg (cExpr a), .agg (cExpr b), .one (.v (.int .i64 x)), .one (.v (.int .i64 y))] (.tup [.agg (cGraph (shrinkR g a b x y).1), .one (.v (.bool (shrinkR g a b x y).2))]) := by
 refine FnT.walk Tryz.func8 U (by kernel_rfl) Tryz.ntmps8 U fun hlen w0 => ?_
 try simp [cPair, cToken, cExpr, cEdge, cGraph] at hlen
 refine AW.sr ?_
 refine AWl.p (R_boxz U U U (.tm U) (ts := _) (by rfl)) U ?_
 refine AWl.p (R_boxz U U U (.tm U) (ts := _) (by rfl)) U ?_
 refine AWl.p (R_boxz U U U (.tm U) (ts := _) (by rfl)) U ?_
 refine AWl.add (R_alloc 10 U U U in27 U U U) U ?_
 refine AWl.ac ?_
 refine AWl.nil (AW.sr ?_)
 refine AWl.p (by exact R_load U (.no U) U (.tm U) ty27 U U) U ?_
 refine AWl.adds (R_call 1800 (implcopyGraph g hz1 hz2) U U U (.cons (.tm U) U .nil) U U) U ?_
 refine AWl.add (R_alloc 12 U U U in27 U U U) U ?_
 refine AWl.chgb (R_store_pb U U U (.tm U) (.tm U) U ty27 U U U (by kernel_rfl) U) ?_
 refine AWl.nil (AW.seq ?_)
 refine AW.sr ?_
 refine AWl.p (by exact R_load U (.no U) U (.tm U) ty27 U U) U ?_
 refine AWl.p (by exact R_load U (.no U) U (.tm U) ty30 U U) U ?_
 refine AWl.p (by exact R_load U (.no U) U (.tm U) ty30 U U) U ?_
 refine AWl.mv ?_
 refine AWl.mv ?_
 refine AWl.p (R_callz (FnT.fr (implIsRefutation _ _ _ _ _)) U (.no U) U (.cons (.tm U) U (.cons (.tm U) U (.cons (.tm U) U (.cons (.tm U) U (.cons (.tm U) U .nil)))))) U ?_
 refine AWl.p (R_not U (.no U) U (.tm U)) U ?_
 refine AWl.nil ?_
 refine AW.cond (.tm U) (fun h25 => ?_) (fun h25 => ?_)
 · skip
   try simp at h25
   refine AW.seq ?_
   refine AW.le (σ' := ⟨_, [(0, _), (1, _), (2, _), (3, _), (4, _), (5, _), (6, _), (7, _), (10, _), (11, _), (12, _)], [(10, _), (1800, _), (1801, _), (12, _)]⟩) (Le.sub0 U ⟨U, U, U, U, U, U, U, U, U, U, U, Y⟩ ⟨U, U, U, U, Y⟩) ?_
   refine AW.region ?_
   refine AWl.p (by exact R_load_pp U (.no U) U (.tm U) U ty27 U U) U ?_
   refine AWl.chgb (R_store_pb U U U (.tm U) (.tm U) U ty27 U U U (by kernel_rfl) U) ?_
   refine AWl.le (σ' := ⟨_, [(0, _), (1, _), (2, _), (3, _), (4, _), (5, _), (6, _), (7, _), (10, _), (11, _), (12, _)], [(10, _), (1800, _), (1801, _), (12, _)]⟩) (Le.sub0 U ⟨U, U, U, U, U, U, U, U, U, U, U, Y⟩ ⟨U, U, U, U, Y⟩) ?_
   refine AWl.ac ?_
   refine AWl.nil (AW.ret ?_)
   refine Res.many U (.cell U U ty27 U U (.tmp U .nil)) U ?_ (by simp)
   unfold shrinkR; rw [if_neg (by simpa using h25)]; rfl
 · skip
   try simp at h25
   refine AW.skip ?_
   refine AW.seq ?_
   refine AW.seq ?_
   refine AW.le (σ' := ⟨_, [(0, _), (1, _), (2, _), (3, _), (4, _), (5, _), (6, _), (7, _), (10, _), (11, _), (12, _)], [(10, _), (1800, _), (1801, _), (12, _)]⟩) (Le.sub0 U ⟨U, U, U, U, U, U, U, U, U, U, U, Y⟩ ⟨U, U, U, U, Y⟩) ?_
   refine AW.region ?_
   refine AWl.p (by exact R_fieldAddr U (.no U) U (.tm U) fl27_1) U ?_
   refine AWl.p (by exact R_load U (.no U) U (.tm U) ty25 U U) U ?_
   refine AWl.p (by exact R_lenm U (.no U) U (.tm U) (by exact .t) Tryz.underlying25) U ?_
   refine AWl.p (R_move U (.no U) U (.const U)) U ?_
   refine AWl.nil (AW.block ?_)
   refine AW.loop2 (fun (k : Nat) (h : TGraph) => (k ≤ g.Edges.length ∧ h.Values.length = g.Values.length ∧ h.Edges.length ≤ g.Edges.length) ∧ h = shrTo g a b x y k) (fun (k : Nat) (h : TGraph) => ⟨_, [(30, (true, .a (.one (.t (.v (.int .i64 (k : Nat))))))), (3, _), (4, _), (6, _), (7, _), (10, _), (11, _), (12, _), (28, _), (29, _)], [(10, .box [.t (.v (.slice none 0 0)), .t (.v (.slice none 0 0))]), (12, .box [.rf 1800, .rf 1801]), (1800, .row 1 (h.Values.map cInt)), (1801, .row 4 (h.Edges.map cEdge))]⟩) (fun (k : Nat) (h : TGraph) => g.Edges.length - k) (0) (g) ⟨⟨Nat.zero_le _, U, Nat.le_refl _⟩, U⟩ (Le.sub0 U ⟨U, U, U, U, U, U, U, U, U, U, Y⟩ ⟨U, U, U, U, Y⟩) ?_
   rintro k h ⟨hk, he⟩
   refine AW.sr ?_
   refine AWl.p (R_lt U (.no U) U (.tm U) (.tm U)) U ?_
   refine AWl.nil (AW.seq ?_)
   refine AW.cond (.tm U) (fun h31 => ?_) (fun h31 => ?_)
   · skip
     try simp at h31
     obtain ⟨e, hy⟩ : ∃ ξ, g.Edges[k]? = some ξ := ⟨_, List.getElem?_eq_getElem (by omega)⟩
     refine AW.skip ?_
     refine AW.seq ?_
     refine AW.block ?_
     refine AW.sr ?_
     refine AWl.p (by exact R_indexAddr U (.no U) U (.tm U) (.tm U) Tryz.underlying25 ty39 (fun _ => ⟨by omega, (map_get hy)⟩)) U ?_
     refine AWl.p (by exact R_load U (.no U) U (.tm U) ty39 U U) U ?_
     refine AWl.add (R_alloc 14 U U U in39 U U U) U ?_
     refine AWl.chgb (R_store_pb U U U (.tm U) (.tm U) U ty39 U U U (by kernel_rfl) U) ?_
     refine AWl.nil (AW.sr ?_)
     refine AWl.p (by exact R_load_pp U (.no U) U (.tm U) U ty27 U U) U ?_
     refine AWl.p (by exact R_fieldAddr_pp U (.no U) U (.tm U) fl39_0) U ?_
     refine AWl.p (by exact R_load_pp U (.no U) U (.tm U) U ty3 U U) U ?_
     refine AWl.adds (R_call 3800 (implDeleteEdge h e.ID (by omega) (by omega)) U U U (.cons (.tm U) U (.cons (.tm U) U .nil)) U U) U ?_
     refine AWl.p (R_movet U (.no U) U U fun _ => rfl) U ?_
     refine AWl.p (R_extract U (.no U) U U (fun _ => rfl) U) U ?_
     refine AWl.p (R_extract U (.no U) U U (fun _ => rfl) U) U ?_
     refine AWl.add (R_alloc 15 U U U in27 U U U) U ?_
     refine AWl.chgb (R_store_pb U U U (.tm U) (.tm U) U ty27 U U U (by kernel_rfl) U) ?_
     refine AWl.le (σ' := ⟨_, [(3, _), (4, _), (6, _), (7, _), (10, _), (11, _), (12, _), (14, _), (15, _), (28, _), (29, _), (30, _), (31, _), (40, _)], [(10, _), (12, _), (1800, _), (1801, _), (14, _), (3800, _), (3801, _), (15, _)]⟩) (Le.sub0 U ⟨U, U, U, U, U, U, U, U, U, U, U, U, U, U, Y⟩ ⟨U, U, U, U, U, U, U, U, Y⟩) ?_
     refine AWl.av ?_
     refine AWl.nil (AW.sr ?_)
     refine AWl.mv ?_
     refine AWl.mv ?_
     refine AWl.p (by exact R_load_pp U (by exact .yes1 U U U U) U (.tmp U (by exact fun _ => rfl)) U ty27 U U) U ?_
     refine AWl.p (by exact R_load U (by exact .yes1 U U U U) U (.tmp U (by exact fun _ => rfl)) ty30 U U) U ?_
     refine AWl.p (by exact R_load U (by exact .yes1 U U U U) U (.tmp U (by exact fun _ => rfl)) ty30 U U) U ?_
     refine AWl.p (R_move U (by exact .yes1 U U U U) U (.tmp U (by exact fun _ => rfl))) U ?_
     refine AWl.p (R_move U (by exact .yes1 U U U U) U (.tmp U (by exact fun _ => rfl))) U ?_
     refine AWl.p (R_callz (FnT.fr (implIsRefutation _ _ _ _ _)) U (by exact .yes1 U U U U) U (.cons (.tmp U (by exact id)) U (.cons (.tmp U (by exact id)) U (.cons (.tmp U (by exact id)) U (.cons (.tmp U (by exact id)) U (.cons (.tmp U (by exact id)) U .nil)))))) U ?_
     refine AWl.p (R_and U (.no U) U (.tm U) (.tmp U (by exact id))) U ?_
     refine AWl.nil ?_
     refine AW.cond (.tm U) (fun h49 => ?_) (fun h49 => ?_)
     · skip
       try simp at h49
       have hyes : refut (delG h e.ID).1 a b x y = true := by (first | exact h49.2 | simp_all)
       refine AW.le (Le.sw 1800 3800 _) ?_
       refine AW.le (Le.sw 1801 3801 _) ?_
       refine AW.le (σ' := ⟨_, [(3, _), (4, _), (6, _), (7, _), (10, _), (11, _), (12, _), (14, _), (15, _), (16, _), (28, _), (29, _), (30, _)], [(10, _), (12, _), (3800, _), (3801, _), (14, _), (1800, _), (1801, _), (15, _)]⟩) (Le.sub0 U ⟨U, U, U, U, U, U, U, U, U, U, U, U, U, Y⟩ ⟨U, U, U, U, U, U, U, U, Y⟩) ?_
       refine AW.region ?_
       refine AWl.p (by exact R_load_pp U (.no U) U (.tm U) U ty27 U U) U ?_
       refine AWl.chgb (R_store_pb U U U (.tm U) (.tm U) U ty27 U U U (by kernel_rfl) U) ?_
       refine AWl.nil (AW.region ?_)
       refine AWl.p (R_add U (.no U) U (.tm U) (.const U) (fun _ => by omega)) U ?_
       refine AWl.mv ?_
       refine AWl.nil ?_
       repeat (with_reducible refine BlockQ.nor ?_)
       refine Round2.next (k + 1) ((delG h e.ID).1) ⟨⟨by omega, by have := delG_len h e.ID; omega⟩, (by rw [shrTo_succ a b x y hy, ← he, shrStep_yes hyes])⟩ (by omega) (Le.sub0 rfl ⟨rfl, rfl, rfl, rfl, rfl, rfl, rfl, rfl, rfl, rfl, Y⟩ ⟨(by rfl), (by rfl), (by rfl), (by rfl), Y⟩)
     · skip
       try simp at h49
       have hno : (delG h e.ID).2 = false ∨ refut (delG h e.ID).1 a b x y = false := by (cases hd9 : (delG h e.ID).2 with | false => exact .inl rfl | true => exact .inr (by simp_all))
       refine AW.skip ?_
       refine AW.le (σ' := ⟨_, [(3, _), (4, _), (6, _), (7, _), (10, _), (11, _), (12, _), (14, _), (15, _), (16, _), (28, _), (29, _), (30, _)], [(10, _), (12, _), (1800, _), (1801, _), (14, _), (3800, _), (3801, _), (15, _)]⟩) (Le.sub0 U ⟨U, U, U, U, U, U, U, U, U, U, U, U, U, Y⟩ ⟨U, U, U, U, U, U, U, U, Y⟩) ?_
       refine AW.region ?_
       refine AWl.p (R_add U (.no U) U (.tm U) (.const U) (fun _ => by omega)) U ?_
       refine AWl.mv ?_
       refine AWl.nil ?_
       repeat (with_reducible refine BlockQ.nor ?_)
       refine Round2.next (k + 1) (h) ⟨⟨by omega, by omega⟩, (by rw [shrTo_succ a b x y hy, ← he, shrStep_no hno])⟩ (by omega) (Le.sub0 rfl ⟨rfl, rfl, rfl, rfl, rfl, rfl, rfl, rfl, rfl, rfl, Y⟩ ⟨(by rfl), (by rfl), (by rfl), (by rfl), Y⟩)
   · skip
     try simp at h31
     refine AW.exit ?_
     refine AW.sr ?_
     refine AWl.p (by exact R_load_pp U (.no U) U (.tm U) U ty27 U U) U ?_
     refine AWl.chgb (R_store_pb U U U (.tm U) (.tm U) U ty27 U U U (by kernel_rfl) U) ?_
     refine AWl.le (σ' := ⟨_, [(3, _), (4, _), (6, _), (7, _), (10, _), (11, _), (12, _), (28, _), (29, _), (30, _), (31, _)], [(10, _), (12, _), (1800, _), (1801, _)]⟩) (Le.sub0 U ⟨U, U, U, U, U, U, U, U, U, U, U, Y⟩ ⟨U, U, U, U, Y⟩) ?_
     refine AWl.ac ?_
     refine AWl.nil (AW.ret ?_)
     refine Res.many U (.cell U U ty27 U U (.tmp U .nil)) U ?_ (by simp)
     unfold shrinkR; rw [if_pos (by simpa using h25), he, show k = g.Edges.length by omega]; rfl
theorem specShrinkRefutation (g : TGraph) (a b : TExpr) (x y : Int) (hz1 : g.Values.length ≤ 1073741824) (hz2 : g.Edges.length ≤ 1073741824) : FnT Tryz.prog 9 [.agg (cGraph g), .agg (cExpr a), .agg (cExpr b), .one (.v (.int .i64 x)), .one (.v (.int .i64 y))] (.tup [.agg (cGraph (shrinkR g a b x y).1), .one (.v (.bool (shrinkR g a b x y).2))]) := by
 refine FnT.walk Tryz.func9 U (by kernel_rfl) Tryz.ntmps9 U fun hlen w0 => ?_
 try simp [cPair, cToken, cExpr, cEdge, cGraph] at hlen
 refine AW.sr ?_
 refine AWl.p (R_boxz U U U (.tm U) (ts := _) (by rfl)) U ?_
 refine AWl.p (R_boxz U U U (.tm U) (ts := _) (by rfl)) U ?_
 refine AWl.p (R_boxz U U U (.tm U) (ts := _) (by rfl)) U ?_
 refine AWl.add (R_alloc 10 U U U in27 U U U) U ?_
 refine AWl.ac ?_
 refine AWl.nil (AW.sr ?_)
 refine AWl.p (by exact R_load U (.no U) U (.tm U) ty27 U U) U ?_
 refine AWl.adds (R_call 1700 (specl3Copy g hz1 hz2) U U U (.cons (.tm U) U .nil) U U) U ?_
 refine AWl.add (R_alloc 12 U U U in27 U U U) U ?_
 refine AWl.chgb (R_store_pb U U U (.tm U) (.tm U) U ty27 U U U (by kernel_rfl) U) ?_
 refine AWl.nil (AW.seq ?_)
 refine AW.sr ?_
 refine AWl.p (by exact R_load U (.no U) U (.tm U) ty27 U U) U ?_
 refine AWl.p (by exact R_load U (.no U) U (.tm U) ty30 U U) U ?_
 refine AWl.p (by exact R_load U (.no U) U (.tm U) ty30 U U) U ?_
 refine AWl.mv ?_
 refine AWl.mv ?_
 refine AWl.p (R_callz (FnT.fr (specIsRefutation _ _ _ _ _)) U (.no U) U (.cons (.tm U) U (.cons (.tm U) U (.cons (.tm U) U (.cons (.tm U) U (.cons (.tm U) U .nil)))))) U ?_
 refine AWl.p (R_not U (.no U) U (.tm U)) U ?_
 refine AWl.nil ?_
 refine AW.cond (.tm U) (fun h24 => ?_) (fun h24 => ?_)
 · skip
   try simp at h24
   refine AW.seq ?_
   refine AW.le (σ' := ⟨_, [(0, _), (1, _), (2, _), (3, _), (4, _), (5, _), (6, _), (7, _), (10, _), (11, _), (12, _)], [(10, _), (1700, _), (1701, _), (12, _)]⟩) (Le.sub0 U ⟨U, U, U, U, U, U, U, U, U, U, U, Y⟩ ⟨U, U, U, U, Y⟩) ?_
   refine AW.region ?_
   refine AWl.p (by exact R_load_pp U (.no U) U (.tm U) U ty27 U U) U ?_
   refine AWl.chgb (R_store_pb U U U (.tm U) (.tm U) U ty27 U U U (by kernel_rfl) U) ?_
   refine AWl.le (σ' := ⟨_, [(0, _), (1, _), (2, _), (3, _), (4, _), (5, _), (6, _), (7, _), (10, _), (11, _), (12, _)], [(10, _), (1700, _), (1701, _), (12, _)]⟩) (Le.sub0 U ⟨U, U, U, U, U, U, U, U, U, U, U, Y⟩ ⟨U, U, U, U, Y⟩) ?_
   refine AWl.ac ?_
   refine AWl.nil (AW.ret ?_)
   refine Res.many U (.cell U U ty27 U U (.tmp U .nil)) U ?_ (by simp)
   unfold shrinkR; rw [if_neg (by simpa using h24)]; rfl
 · skip
   try simp at h24
   refine AW.skip ?_
   refine AW.seq ?_
   refine AW.seq ?_
   refine AW.le (σ' := ⟨_, [(0, _), (1, _), (2, _), (3, _), (4, _), (5, _), (6, _), (7, _), (10, _), (11, _), (12, _)], [(10, _), (1700, _), (1701, _), (12, _)]⟩) (Le.sub0 U ⟨U, U, U, U, U, U, U, U, U, U, U, Y⟩ ⟨U, U, U, U, Y⟩) ?_
   refine AW.region ?_
   refine AWl.ac ?_
   refine AWl.nil (AW.block ?_)
   refine AW.loop2 (fun (k : Nat) (h : TGraph) => (k ≤ g.Edges.length ∧ h.Values.length = g.Values.length ∧ h.Edges.length ≤ g.Edges.length) ∧ h = shrTo g a b x y k) (fun (k : Nat) (h : TGraph) => ⟨_, [(13, (true, .a (.one (.t (.v (.int .i64 (k : Nat))))))), (3, _), (4, _), (5, _), (6, _), (7, _), (10, _), (11, _), (12, _)], [(10, .box [.t (.v (.slice none 0 0)), .t (.v (.slice none 0 0))]), (12, .box [.rf 1700, .rf 1701]), (1700, .row 1 (h.Values.map cInt)), (1701, .row 4 (h.Edges.map cEdge))]⟩) (fun (k : Nat) (h : TGraph) => g.Edges.length - k) (0) (g) ⟨⟨Nat.zero_le _, U, Nat.le_refl _⟩, U⟩ (Le.sub0 U ⟨U, U, U, U, U, U, U, U, U, Y⟩ ⟨U, U, U, U, Y⟩) ?_
   rintro k h ⟨hk, he⟩
   refine AW.seq ?_
   refine AW.sr ?_
   refine AWl.mv ?_
   refine AWl.p (by exact R_fieldAddr U (.no U) U (.tm U) fl27_1) U ?_
   refine AWl.p (by exact R_load U (.no U) U (.tm U) ty25 U U) U ?_
   refine AWl.p (by exact R_lenm U (.no U) U (.tm U) (by exact .t) Tryz.underlying25) U ?_
   refine AWl.p (R_lt U (.no U) U (.tm U) (.tm U)) U ?_
   refine AWl.nil ?_
   refine AW.cond (.tm U) (fun h30 => ?_) (fun h30 => ?_)
   · skip
     try simp at h30
     obtain ⟨e, hy⟩ : ∃ ξ, g.Edges[k]? = some ξ := ⟨_, List.getElem?_eq_getElem (by omega)⟩
     refine AW.skip ?_
     refine AW.seq ?_
     refine AW.block ?_
     refine AW.seq ?_
     refine AW.le (σ' := ⟨_, [(3, _), (4, _), (5, _), (6, _), (7, _), (10, _), (11, _), (12, _), (13, _), (26, _), (27, _), (28, _), (29, _), (30, _)], [(10, _), (12, _), (1700, _), (1701, _)]⟩) (Le.sub0 U ⟨U, U, U, U, U, U, U, U, U, U, U, U, U, U, Y⟩ ⟨U, U, U, U, Y⟩) ?_
     apply AW.drawnH (N := 13) (k := 13) (Hs := [0, 1, 2, 3, 4, 5, 6]) (ms := [[], [7], [11], [7, 8], [7, 11], [7, 8, 9], [7, 8, 10], [7, 8, 11], [7, 8, 9, 10], [7, 8, 9, 11], [7, 8, 10, 11], [7, 8, 9, 10, 11], [7, 8, 9, 11, 12], [7, 8, 9, 10, 11, 12]]) (es := [(0, 7, 1), (0, 11, 2), (1, 8, 3), (1, 11, 4), (2, 7, 4), (3, 9, 5), (3, 10, 6), (3, 11, 7), (4, 8, 7), (5, 10, 8), (6, 9, 8), (5, 11, 9), (7, 9, 9), (6, 11, 10), (7, 10, 10), (8, 11, 11), (9, 10, 11), (10, 9, 11), (9, 12, 12), (11, 12, 13), (12, 10, 13)]) (σ1 := _) (SM := ⟨_, [(3, _), (4, _), (5, _), (6, _), (7, _), (10, _), (11, _), (12, _), (13, _), (26, _), (27, _), (28, _), (29, _), (30, _), (34, _), (35, _), (36, _), (37, _), (38, _), (39, _), (40, _)], [(10, _), (12, _), (1700, _), (1701, _)]⟩)
     case hm => kernel_rfl
     case hB => kernel_rfl
     case hP => kernel_rfl
     case hL => kernel_rfl
     case hN => rfl
     case hpre =>
      apply PreOk.step (P := Tryz.prog) 0 rfl ((by exact R_load_pp rfl (.no rfl) rfl (.tm rfl) rfl ty27 rfl rfl)) (by exact HasV.load (x := .tmp 12) (.tm rfl) rfl ty27 rfl rfl) rfl rfl rfl
      apply PreOk.step (P := Tryz.prog) 1 rfl ((by exact R_fieldAddr rfl (.no rfl) rfl (.tm rfl) fl27_1)) (by exact HasV.ad (x := .tmp 5) (.tm rfl)) rfl rfl rfl
      apply PreOk.step (P := Tryz.prog) 2 rfl ((by exact R_load rfl (.no rfl) rfl (.tm rfl) ty25 rfl rfl)) (by exact HasV.ld (x := .tmp 35) (.tm rfl) rfl rfl) rfl rfl rfl
      apply PreOk.step (P := Tryz.prog) 3 rfl (R_move rfl (.no rfl) rfl (.tm rfl)) (by exact HasV.slot (t := 13) rfl) rfl rfl rfl
      apply PreOk.step (P := Tryz.prog) 4 rfl ((by exact R_indexAddr rfl (.no rfl) rfl (.tm rfl) (.tm rfl) Tryz.underlying25 ty39 (fun _ => ⟨by omega, (map_get hy)⟩))) (by exact HasV.ix (x := .tmp 36) (.tm rfl) (y := .tmp 37) (.tm rfl) Tryz.underlying25 ty39 (fun _ => ⟨by omega, (map_get hy)⟩)) rfl rfl rfl
      apply PreOk.step (P := Tryz.prog) 5 rfl ((by exact R_fieldAddr rfl (.no rfl) rfl (.tm rfl) fl39_0)) (by exact HasV.ad (x := .tmp 38) (.tm rfl)) rfl rfl rfl
      apply PreOk.step (P := Tryz.prog) 6 rfl ((by exact R_load rfl (.no rfl) rfl (.tm rfl) ty3 rfl rfl)) (by exact HasV.ld (x := .tmp 39) (.tm rfl) rfl rfl) rfl rfl rfl
      exact PreOk.nil
     case hS => exact Sup.sub0 rfl ⟨rfl, rfl, rfl, rfl, rfl, rfl, rfl, rfl, rfl, rfl, rfl, rfl, rfl, rfl, rfl, rfl, rfl, rfl, rfl, rfl, rfl, Y⟩ ⟨rfl, rfl, rfl, rfl, Y⟩
     case hH =>
      refine ⟨⟨_, _, _, rfl, rfl, rfl, fun σ' hs => (by exact R_load_pp rfl (.no rfl) (hd_sup hs rfl) (.tm (hs.slots _ _ rfl)) (hs.res _ _ rfl) ty27 rfl rfl)⟩, ?_⟩
      refine ⟨⟨_, _, _, rfl, rfl, rfl, fun σ' hs => (by exact R_fieldAddr rfl (.no rfl) (hd_sup hs rfl) (.tm (hs.slots _ _ rfl)) fl27_1)⟩, ?_⟩
      refine ⟨⟨_, _, _, rfl, rfl, rfl, fun σ' hs => (by exact R_load rfl (.no rfl) (hd_sup hs rfl) (.tm (hs.slots _ _ rfl)) ty25 rfl rfl)⟩, ?_⟩
      refine ⟨⟨_, _, _, rfl, rfl, rfl, fun σ' hs => R_move rfl (.no rfl) (hd_sup hs rfl) (.tm (hs.slots _ _ rfl))⟩, ?_⟩
      refine ⟨⟨_, _, _, rfl, rfl, rfl, fun σ' hs => (by exact R_indexAddr rfl (.no rfl) (hd_sup hs rfl) (.tm (hs.slots _ _ rfl)) (.tm (hs.slots _ _ rfl)) Tryz.underlying25 ty39 (fun _ => ⟨by omega, (map_get hy)⟩))⟩, ?_⟩
      refine ⟨⟨_, _, _, rfl, rfl, rfl, fun σ' hs => (by exact R_fieldAddr rfl (.no rfl) (hd_sup hs rfl) (.tm (hs.slots _ _ rfl)) fl39_0)⟩, ?_⟩
      refine ⟨⟨_, _, _, rfl, rfl, rfl, fun σ' hs => (by exact R_load rfl (.no rfl) (hd_sup hs rfl) (.tm (hs.slots _ _ rfl)) ty3 rfl rfl)⟩, ?_⟩
      trivial
     apply Dh.new0 (i := 7)
     case ha | ho | hb => rfl
     case hE =>
      intro w9  hp
      obtain _ := hp
      refine AWl.adds (R_call 4100 (specDeleteEdge h e.ID (by omega) (by omega)) U U U (.cons (.tm U) U (.cons (.tm U) U .nil)) U U) U ?_
      refine AWl.nil ?_
      exact EndQ.eq (Le.sub0 (σ' := ⟨_, [(3, _), (4, _), (5, _), (6, _), (7, _), (10, _), (11, _), (12, _), (13, _), (26, _), (27, _), (28, _), (29, _), (30, _), (34, _), (35, _), (36, _), (37, _), (38, _), (39, _), (40, _), (41, _)], [(10, _), (12, _), (1700, _), (1701, _), (4100, _), (4101, _)]⟩) U ⟨U, U, U, U, U, U, U, U, U, U, U, U, U, U, U, U, U, U, U, U, U, U, Y⟩ ⟨U, U, U, U, U, U, Y⟩) U
     case hS => intros; exact Sup.sub0 rfl ⟨rfl, rfl, rfl, rfl, rfl, rfl, rfl, rfl, rfl, rfl, rfl, rfl, rfl, rfl, rfl, rfl, rfl, rfl, rfl, rfl, rfl, Y⟩ ⟨rfl, rfl, rfl, rfl, Y⟩
     apply Dh.new0 (i := 11)
     case ha | ho | hb => rfl
     case hE =>
      intro w9  hp
      obtain _ := hp
      refine AWl.add (R_alloc 14 U U U in27 U U U) U ?_
      refine AWl.nil ?_
      exact EndQ.eq (Le.sub0 (σ' := ⟨_, [(3, _), (4, _), (5, _), (6, _), (7, _), (10, _), (11, _), (12, _), (13, _), (14, _), (26, _), (27, _), (28, _), (29, _), (30, _), (34, _), (35, _), (36, _), (37, _), (38, _), (39, _), (40, _)], [(10, _), (12, _), (1700, _), (1701, _), (14, _)]⟩) U ⟨U, U, U, U, U, U, U, U, U, U, U, U, U, U, U, U, U, U, U, U, U, U, Y⟩ ⟨U, U, U, U, U, Y⟩) U
     case hS => intros; exact Sup.sub0 rfl ⟨rfl, rfl, rfl, rfl, rfl, rfl, rfl, rfl, rfl, rfl, rfl, rfl, rfl, rfl, rfl, rfl, rfl, rfl, rfl, rfl, rfl, Y⟩ ⟨rfl, rfl, rfl, rfl, Y⟩
     apply Dh.new0 (i := 8)
     case ha | ho | hb => rfl
     case hE =>
      intro w9  hp
      obtain _ := hp
      refine AWl.p (R_movet U (.no U) U U fun _ => rfl) U ?_
      refine AWl.nil ?_
      exact EndQ.eq (Le.sub0 (σ' := ⟨_, [(3, _), (4, _), (5, _), (6, _), (7, _), (10, _), (11, _), (12, _), (13, _), (26, _), (27, _), (28, _), (29, _), (30, _), (33, _), (34, _), (35, _), (36, _), (37, _), (38, _), (39, _), (40, _)], [(10, _), (12, _), (1700, _), (1701, _), (4100, _), (4101, _)]⟩) U ⟨U, U, U, U, U, U, U, U, U, U, U, U, U, U, U, U, U, U, U, U, U, U, Y⟩ ⟨U, U, U, U, U, U, Y⟩) U
     case hS => intros; exact Sup.sub0 rfl ⟨rfl, rfl, rfl, rfl, rfl, rfl, rfl, rfl, rfl, rfl, rfl, rfl, rfl, rfl, rfl, rfl, rfl, rfl, rfl, rfl, rfl, Y⟩ ⟨rfl, rfl, rfl, rfl, Y⟩
     apply Dh.new0 (i := 11)
     case ha | ho | hb => rfl
     case hE =>
      intro w9  hp
      obtain _ := hp
      refine AWl.add (R_alloc 14 U U U in27 U U U) U ?_
      refine AWl.nil ?_
      exact EndQ.eq (Le.sub0 (σ' := ⟨_, [(3, _), (4, _), (5, _), (6, _), (7, _), (10, _), (11, _), (12, _), (13, _), (14, _), (26, _), (27, _), (28, _), (29, _), (30, _), (34, _), (35, _), (36, _), (37, _), (38, _), (39, _), (40, _), (41, _)], [(10, _), (12, _), (1700, _), (1701, _), (4100, _), (4101, _), (14, _)]⟩) U ⟨U, U, U, U, U, U, U, U, U, U, U, U, U, U, U, U, U, U, U, U, U, U, U, Y⟩ ⟨U, U, U, U, U, U, U, Y⟩) U
     case hS => intros; exact Sup.sub0 rfl ⟨rfl, rfl, rfl, rfl, rfl, rfl, rfl, rfl, rfl, rfl, rfl, rfl, rfl, rfl, rfl, rfl, rfl, rfl, rfl, rfl, rfl, Y⟩ ⟨rfl, rfl, rfl, rfl, Y⟩
     apply Dh.old0 (i := 7)
     case ha | ho | hb => rfl
     case hE =>
      intro w9  hp
      obtain _ := hp
      refine AWl.adds (R_call 4100 (specDeleteEdge h e.ID (by omega) (by omega)) U U U (.cons (.tm U) U (.cons (.tm U) U .nil)) U U) U ?_
      exact AWl.nil (Le.sub0 U ⟨U, U, U, U, U, U, U, U, U, U, U, U, U, U, U, U, U, U, U, U, U, U, U, Y⟩ ⟨U, U, U, U, U, U, U, Y⟩)
     apply Dh.new0 (i := 9)
     case ha | ho | hb => rfl
     case hE =>
      intro w9  hp
      obtain _ := hp
      refine AWl.p (R_extract U (.no U) U U (fun _ => rfl) U) U ?_
      refine AWl.nil ?_
      exact EndQ.eq (Le.sub0 (σ' := ⟨_, [(3, _), (4, _), (5, _), (6, _), (7, _), (10, _), (11, _), (12, _), (13, _), (26, _), (27, _), (28, _), (29, _), (30, _), (33, _), (34, _), (35, _), (36, _), (37, _), (38, _), (39, _), (40, _), (42, _)], [(10, _), (12, _), (1700, _), (1701, _), (4100, _), (4101, _)]⟩) U ⟨U, U, U, U, U, U, U, U, U, U, U, U, U, U, U, U, U, U, U, U, U, U, U, Y⟩ ⟨U, U, U, U, U, U, Y⟩) U
     case hS => intros; exact Sup.sub0 rfl ⟨rfl, rfl, rfl, rfl, rfl, rfl, rfl, rfl, rfl, rfl, rfl, rfl, rfl, rfl, rfl, rfl, rfl, rfl, rfl, rfl, rfl, Y⟩ ⟨rfl, rfl, rfl, rfl, Y⟩
     apply Dh.new0 (i := 10)
     case ha | ho | hb => rfl
     case hE =>
      intro w9  hp
      obtain _ := hp
      refine AWl.p (R_extract U (.no U) U U (fun _ => rfl) U) U ?_
      refine AWl.nil ?_
      exact EndQ.eq (Le.sub0 (σ' := ⟨_, [(3, _), (4, _), (5, _), (6, _), (7, _), (10, _), (11, _), (12, _), (13, _), (26, _), (27, _), (28, _), (29, _), (30, _), (33, _), (34, _), (35, _), (36, _), (37, _), (38, _), (39, _), (40, _), (43, _)], [(10, _), (12, _), (1700, _), (1701, _), (4100, _), (4101, _)]⟩) U ⟨U, U, U, U, U, U, U, U, U, U, U, U, U, U, U, U, U, U, U, U, U, U, U, Y⟩ ⟨U, U, U, U, U, U, Y⟩) U
     case hS => intros; exact Sup.sub0 rfl ⟨rfl, rfl, rfl, rfl, rfl, rfl, rfl, rfl, rfl, rfl, rfl, rfl, rfl, rfl, rfl, rfl, rfl, rfl, rfl, rfl, rfl, Y⟩ ⟨rfl, rfl, rfl, rfl, Y⟩
     apply Dh.new0 (i := 11)
     case ha | ho | hb => rfl
     case hE =>
      intro w9  hp
      obtain _ := hp
      refine AWl.add (R_alloc 14 U U U in27 U U U) U ?_
      refine AWl.nil ?_
      exact EndQ.eq (Le.sub0 (σ' := ⟨_, [(3, _), (4, _), (5, _), (6, _), (7, _), (10, _), (11, _), (12, _), (13, _), (14, _), (26, _), (27, _), (28, _), (29, _), (30, _), (33, _), (34, _), (35, _), (36, _), (37, _), (38, _), (39, _), (40, _)], [(10, _), (12, _), (1700, _), (1701, _), (4100, _), (4101, _), (14, _)]⟩) U ⟨U, U, U, U, U, U, U, U, U, U, U, U, U, U, U, U, U, U, U, U, U, U, U, Y⟩ ⟨U, U, U, U, U, U, U, Y⟩) U
     case hS => intros; exact Sup.sub0 rfl ⟨rfl, rfl, rfl, rfl, rfl, rfl, rfl, rfl, rfl, rfl, rfl, rfl, rfl, rfl, rfl, rfl, rfl, rfl, rfl, rfl, rfl, Y⟩ ⟨rfl, rfl, rfl, rfl, Y⟩
     apply Dh.old0 (i := 8)
     case ha | ho | hb => rfl
     case hE =>
      intro w9  hp
      obtain _ := hp
      refine AWl.p (R_movet U (.no U) U U fun _ => rfl) U ?_
      exact AWl.nil (Le.sub0 U ⟨U, U, U, U, U, U, U, U, U, U, U, U, U, U, U, U, U, U, U, U, U, U, U, Y⟩ ⟨U, U, U, U, U, U, U, Y⟩)
     apply Dh.new0 (i := 10)
     case ha | ho | hb => rfl
     case hE =>
      intro w9  hp
      obtain _ := hp
      refine AWl.p (R_extract U (.no U) U U (fun _ => rfl) U) U ?_
      refine AWl.nil ?_
      exact EndQ.eq (Le.sub0 (σ' := ⟨_, [(3, _), (4, _), (5, _), (6, _), (7, _), (10, _), (11, _), (12, _), (13, _), (26, _), (27, _), (28, _), (29, _), (30, _), (34, _), (35, _), (36, _), (37, _), (38, _), (39, _), (40, _), (42, _), (43, _)], [(10, _), (12, _), (1700, _), (1701, _), (4100, _), (4101, _)]⟩) U ⟨U, U, U, U, U, U, U, U, U, U, U, U, U, U, U, U, U, U, U, U, U, U, U, Y⟩ ⟨U, U, U, U, U, U, Y⟩) U
     case hS => intros; exact Sup.sub0 rfl ⟨rfl, rfl, rfl, rfl, rfl, rfl, rfl, rfl, rfl, rfl, rfl, rfl, rfl, rfl, rfl, rfl, rfl, rfl, rfl, rfl, rfl, Y⟩ ⟨rfl, rfl, rfl, rfl, Y⟩
     apply Dh.old0 (i := 9)
     case ha | ho | hb => rfl
     case hE =>
      intro w9  hp
      obtain _ := hp
      refine AWl.p (R_extract U (.no U) U U (fun _ => rfl) U) U ?_
      exact AWl.nil (Le.sub0 U ⟨U, U, U, U, U, U, U, U, U, U, U, U, U, U, U, U, U, U, U, U, U, U, U, Y⟩ ⟨U, U, U, U, U, U, Y⟩)
     apply Dh.new0 (i := 11)
     case ha | ho | hb => rfl
     case hE =>
      intro w9  hp
      obtain _ := hp
      refine AWl.add (R_alloc 14 U U U in27 U U U) U ?_
      refine AWl.nil ?_
      exact EndQ.eq (Le.sub0 (σ' := ⟨_, [(3, _), (4, _), (5, _), (6, _), (7, _), (10, _), (11, _), (12, _), (13, _), (14, _), (26, _), (27, _), (28, _), (29, _), (30, _), (33, _), (34, _), (35, _), (36, _), (37, _), (38, _), (39, _), (40, _), (42, _)], [(10, _), (12, _), (1700, _), (1701, _), (4100, _), (4101, _), (14, _)]⟩) U ⟨U, U, U, U, U, U, U, U, U, U, U, U, U, U, U, U, U, U, U, U, U, U, U, U, Y⟩ ⟨U, U, U, U, U, U, U, Y⟩) U
     case hS => intros; exact Sup.sub0 rfl ⟨rfl, rfl, rfl, rfl, rfl, rfl, rfl, rfl, rfl, rfl, rfl, rfl, rfl, rfl, rfl, rfl, rfl, rfl, rfl, rfl, rfl, Y⟩ ⟨rfl, rfl, rfl, rfl, Y⟩
     apply Dh.old0 (i := 9)
     case ha | ho | hb => rfl
     case hE =>
      intro w9  hp
      obtain _ := hp
      refine AWl.p (R_extract U (.no U) U U (fun _ => rfl) U) U ?_
      exact AWl.nil (Le.sub0 U ⟨U, U, U, U, U, U, U, U, U, U, U, U, U, U, U, U, U, U, U, U, U, U, U, U, Y⟩ ⟨U, U, U, U, U, U, U, Y⟩)
     apply Dh.new0 (i := 11)
     case ha | ho | hb => rfl
     case hE =>
      intro w9  hp
      obtain _ := hp
      refine AWl.add (R_alloc 14 U U U in27 U U U) U ?_
      refine AWl.nil ?_
      exact EndQ.eq (Le.sub0 (σ' := ⟨_, [(3, _), (4, _), (5, _), (6, _), (7, _), (10, _), (11, _), (12, _), (13, _), (14, _), (26, _), (27, _), (28, _), (29, _), (30, _), (33, _), (34, _), (35, _), (36, _), (37, _), (38, _), (39, _), (40, _), (43, _)], [(10, _), (12, _), (1700, _), (1701, _), (4100, _), (4101, _), (14, _)]⟩) U ⟨U, U, U, U, U, U, U, U, U, U, U, U, U, U, U, U, U, U, U, U, U, U, U, U, Y⟩ ⟨U, U, U, U, U, U, U, Y⟩) U
     case hS => intros; exact Sup.sub0 rfl ⟨rfl, rfl, rfl, rfl, rfl, rfl, rfl, rfl, rfl, rfl, rfl, rfl, rfl, rfl, rfl, rfl, rfl, rfl, rfl, rfl, rfl, Y⟩ ⟨rfl, rfl, rfl, rfl, Y⟩
     apply Dh.old0 (i := 10)
     case ha | ho | hb => rfl
     case hE =>
      intro w9  hp
      obtain _ := hp
      refine AWl.p (R_extract U (.no U) U U (fun _ => rfl) U) U ?_
      exact AWl.nil (Le.sub0 U ⟨U, U, U, U, U, U, U, U, U, U, U, U, U, U, U, U, U, U, U, U, U, U, U, U, Y⟩ ⟨U, U, U, U, U, U, U, Y⟩)
     apply Dh.new0 (i := 11)
     case ha | ho | hb => rfl
     case hE =>
      intro w9  hp
      obtain _ := hp
      refine AWl.add (R_alloc 14 U U U in27 U U U) U ?_
      refine AWl.nil ?_
      exact EndQ.eq (Le.sub0 (σ' := ⟨_, [(3, _), (4, _), (5, _), (6, _), (7, _), (10, _), (11, _), (12, _), (13, _), (14, _), (26, _), (27, _), (28, _), (29, _), (30, _), (34, _), (35, _), (36, _), (37, _), (38, _), (39, _), (40, _), (42, _), (43, _)], [(10, _), (12, _), (1700, _), (1701, _), (4100, _), (4101, _), (14, _)]⟩) U ⟨U, U, U, U, U, U, U, U, U, U, U, U, U, U, U, U, U, U, U, U, U, U, U, U, Y⟩ ⟨U, U, U, U, U, U, U, Y⟩) U
     case hS => intros; exact Sup.sub0 rfl ⟨rfl, rfl, rfl, rfl, rfl, rfl, rfl, rfl, rfl, rfl, rfl, rfl, rfl, rfl, rfl, rfl, rfl, rfl, rfl, rfl, rfl, Y⟩ ⟨rfl, rfl, rfl, rfl, Y⟩
     apply Dh.old0 (i := 10)
     case ha | ho | hb => rfl
     case hE =>
      intro w9  hp
      obtain _ := hp
      refine AWl.p (R_extract U (.no U) U U (fun _ => rfl) U) U ?_
      exact AWl.nil (Le.sub0 U ⟨U, U, U, U, U, U, U, U, U, U, U, U, U, U, U, U, U, U, U, U, U, U, U, U, Y⟩ ⟨U, U, U, U, U, U, U, Y⟩)
     apply Dh.old0 (i := 9)
     case ha | ho | hb => rfl
     case hE =>
      intro w9  hp
      obtain _ := hp
      refine AWl.p (R_extract U (.no U) U U (fun _ => rfl) U) U ?_
      exact AWl.nil (Le.sub0 U ⟨U, U, U, U, U, U, U, U, U, U, U, U, U, U, U, U, U, U, U, U, U, U, U, U, Y⟩ ⟨U, U, U, U, U, U, U, Y⟩)
     apply Dh.new0 (i := 12)
     case ha | ho | hb => rfl
     case hE =>
      intro w9  hp
      obtain _ := hp
      refine AWl.chgb (R_store_pb U U U (.tm U) (.tm U) U ty27 U U U (by kernel_rfl) U) ?_
      refine AWl.nil ?_
      exact EndQ.eq (Le.sub0 (σ' := ⟨_, [(3, _), (4, _), (5, _), (6, _), (7, _), (10, _), (11, _), (12, _), (13, _), (14, _), (26, _), (27, _), (28, _), (29, _), (30, _), (33, _), (34, _), (35, _), (36, _), (37, _), (38, _), (39, _), (40, _)], [(10, _), (12, _), (1700, _), (1701, _), (4100, _), (4101, _), (14, _)]⟩) U ⟨U, U, U, U, U, U, U, U, U, U, U, U, U, U, U, U, U, U, U, U, U, U, U, Y⟩ ⟨U, U, U, U, U, U, U, Y⟩) U
     case hS => intros; exact Sup.sub0 rfl ⟨rfl, rfl, rfl, rfl, rfl, rfl, rfl, rfl, rfl, rfl, rfl, rfl, rfl, rfl, rfl, rfl, rfl, rfl, rfl, rfl, rfl, Y⟩ ⟨rfl, rfl, rfl, rfl, Y⟩
     apply Dh.new0 (i := 12)
     case ha | ho | hb => rfl
     case hE =>
      intro w9  hp
      obtain _ := hp
      refine AWl.chgb (R_store_pb U U U (.tm U) (.tm U) U ty27 U U U (by kernel_rfl) U) ?_
      refine AWl.nil ?_
      exact EndQ.eq (Le.sub0 (σ' := ⟨_, [(3, _), (4, _), (5, _), (6, _), (7, _), (10, _), (11, _), (12, _), (13, _), (14, _), (26, _), (27, _), (28, _), (29, _), (30, _), (34, _), (35, _), (36, _), (37, _), (38, _), (39, _), (40, _), (43, _)], [(10, _), (12, _), (1700, _), (1701, _), (4100, _), (4101, _), (14, _)]⟩) U ⟨U, U, U, U, U, U, U, U, U, U, U, U, U, U, U, U, U, U, U, U, U, U, U, Y⟩ ⟨U, U, U, U, U, U, U, Y⟩) U
     case hS => intros; exact Sup.sub0 rfl ⟨rfl, rfl, rfl, rfl, rfl, rfl, rfl, rfl, rfl, rfl, rfl, rfl, rfl, rfl, rfl, rfl, rfl, rfl, rfl, rfl, rfl, Y⟩ ⟨rfl, rfl, rfl, rfl, Y⟩
     apply Dh.old0 (i := 10)
     case ha | ho | hb => rfl
     case hE =>
      intro w9  hp
      obtain _ := hp
      refine AWl.p (R_extract U (.no U) U U (fun _ => rfl) U) U ?_
      exact AWl.nil (Le.sub0 U ⟨U, U, U, U, U, U, U, U, U, U, U, U, U, U, U, U, U, U, U, U, U, U, U, Y⟩ ⟨U, U, U, U, U, U, U, Y⟩)
     refine Dh.fin0 (k := 13) rfl ?_
     intro  hp
     obtain _ := hp
     refine AWl.av ?_
     refine AWl.nil (AW.seq ?_)
     refine AW.le (σ' := ⟨_, [(3, _), (4, _), (5, _), (6, _), (7, _), (10, _), (11, _), (12, _), (13, _), (14, _)], [(10, _), (12, _), (1700, _), (1701, _), (4100, _), (4101, _), (14, _)]⟩) (Le.sub0 U ⟨U, U, U, U, U, U, U, U, U, U, Y⟩ ⟨U, U, U, U, U, U, U, Y⟩) ?_
     refine AW.region ?_
     refine AWl.p (by exact R_load_pp U (.no U) U (.tm U) U ty27 U U) U ?_
     refine AWl.p (by exact R_load U (.no U) U (.tm U) ty30 U U) U ?_
     refine AWl.p (by exact R_load U (.no U) U (.tm U) ty30 U U) U ?_
     refine AWl.mv ?_
     refine AWl.mv ?_
     refine AWl.p (R_callz (FnT.fr (specIsRefutation _ _ _ _ _)) U (.no U) U (.cons (.tm U) U (.cons (.tm U) U (.cons (.tm U) U (.cons (.tm U) U (.cons (.tm U) U .nil)))))) U ?_
     refine AWl.nil ?_
     refine AW.cond (.tm U) (fun h49 => ?_) (fun h49 => ?_)
     · skip
       try simp at h49
       have hyes : refut (delG h e.ID).1 a b x y = true := by simpa using h49
       refine AW.le (Le.sw 1700 4100 _) ?_
       refine AW.le (Le.sw 1701 4101 _) ?_
       refine AW.le (σ' := ⟨_, [(3, _), (4, _), (5, _), (6, _), (7, _), (10, _), (11, _), (12, _), (13, _), (14, _)], [(10, _), (12, _), (4100, _), (4101, _), (1700, _), (1701, _), (14, _)]⟩) (Le.sub0 U ⟨U, U, U, U, U, U, U, U, U, U, Y⟩ ⟨U, U, U, U, U, U, U, Y⟩) ?_
       refine AW.region ?_
       refine AWl.p (by exact R_load_pp U (.no U) U (.tm U) U ty27 U U) U ?_
       refine AWl.chgb (R_store_pb U U U (.tm U) (.tm U) U ty27 U U U (by kernel_rfl) U) ?_
       refine AWl.nil (AW.region ?_)
       refine AWl.mv ?_
       refine AWl.p (R_add U (.no U) U (.tm U) (.const U) (fun _ => by omega)) U ?_
       refine AWl.av ?_
       refine AWl.nil ?_
       repeat (with_reducible refine BlockQ.nor ?_)
       refine Round2.next (k + 1) ((delG h e.ID).1) ⟨⟨by omega, by have := delG_len h e.ID; omega⟩, (by rw [shrTo_succ a b x y hy, ← he, shrStep_yes hyes])⟩ (by omega) (Le.sub0 rfl ⟨rfl, rfl, rfl, rfl, rfl, rfl, rfl, rfl, rfl, Y⟩ ⟨(by rfl), (by rfl), (by rfl), (by rfl), Y⟩)
     · skip
       try simp at h49
       have hno : refut (delG h e.ID).1 a b x y = false := by simpa using h49
       refine AW.skip ?_
       refine AW.le (σ' := ⟨_, [(3, _), (4, _), (5, _), (6, _), (7, _), (10, _), (11, _), (12, _), (13, _), (14, _)], [(10, _), (12, _), (1700, _), (1701, _), (4100, _), (4101, _), (14, _)]⟩) (Le.sub0 U ⟨U, U, U, U, U, U, U, U, U, U, Y⟩ ⟨U, U, U, U, U, U, U, Y⟩) ?_
       refine AW.region ?_
       refine AWl.mv ?_
       refine AWl.p (R_add U (.no U) U (.tm U) (.const U) (fun _ => by omega)) U ?_
       refine AWl.av ?_
       refine AWl.nil ?_
       repeat (with_reducible refine BlockQ.nor ?_)
       refine Round2.next (k + 1) (h) ⟨⟨by omega, by omega⟩, (by rw [shrTo_succ a b x y hy, ← he, shrStep_no (.inr hno)])⟩ (by omega) (Le.sub0 rfl ⟨rfl, rfl, rfl, rfl, rfl, rfl, rfl, rfl, rfl, Y⟩ ⟨(by rfl), (by rfl), (by rfl), (by rfl), Y⟩)
   · skip
     try simp at h30
     refine AW.exit ?_
     refine AW.sr ?_
     refine AWl.p (by exact R_load_pp U (.no U) U (.tm U) U ty27 U U) U ?_
     refine AWl.chgb (R_store_pb U U U (.tm U) (.tm U) U ty27 U U U (by kernel_rfl) U) ?_
     refine AWl.le (σ' := ⟨_, [(3, _), (4, _), (5, _), (6, _), (7, _), (10, _), (11, _), (12, _), (13, _), (30, _)], [(10, _), (12, _), (1700, _), (1701, _)]⟩) (Le.sub0 U ⟨U, U, U, U, U, U, U, U, U, U, Y⟩ ⟨U, U, U, U, Y⟩) ?_
     refine AWl.ac ?_
     refine AWl.nil (AW.ret ?_)
     refine Res.many U (.cell U U ty27 U U (.tmp U .nil)) U ?_ (by simp)
     unfold shrinkR; rw [if_pos (by simpa using h24), he, show k = g.Edges.length by omega]; rfl
end Go.Proofs.YtbkhopfpejhnlaaGreat
