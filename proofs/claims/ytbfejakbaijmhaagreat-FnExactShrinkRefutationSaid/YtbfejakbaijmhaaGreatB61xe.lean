/- A refutation with edges left out: both texts. -/
import Derived.Test.YtbfejakbaijmhaaGreatB59xe
import Derived.Test.YtbfejakbaijmhaaGreatB39xe
set_option linter.unusedVariables false
set_option linter.unusedSimpArgs false
set_option maxHeartbeats 1000000
set_option maxRecDepth 100000
namespace Go.Q
open Go.D
theorem delG_same {g : TGraph} {id : Int} (h : (delG g id).2 = false) : (delG g id).1 = g := by
  unfold delG at *
  split at h
  · cases h
  · rename_i hc; rw [if_neg hc]
theorem delG_len (g : TGraph) (id : Int) : (delG g id).1.Values.length = g.Values.length ∧ (delG g id).1.Edges.length ≤ g.Edges.length := by
  unfold delG
  split
  · refine ⟨rfl, ?_⟩
    rw [List.length_append, List.length_take, List.length_drop]; omega
  · exact ⟨rfl, Nat.le_refl _⟩
def shrStep (a b : TExpr) (x y : Int) (h : TGraph) (e : TEdge) : TGraph := if refut (delG h e.ID).1 a b x y = true then (delG h e.ID).1 else h
def shrTo (g : TGraph) (a b : TExpr) (x y : Int) (k : Nat) : TGraph := (g.Edges.take k).foldl (shrStep a b x y) g
theorem shrTo_succ {g : TGraph} (a b : TExpr) (x y : Int) {k : Nat} {e : TEdge} (h : g.Edges[k]? = some e) : shrTo g a b x y (k + 1) = shrStep a b x y (shrTo g a b x y k) e := by
  unfold shrTo; rw [take_at h, List.foldl_append]; rfl
theorem shrStep_yes {a b : TExpr} {x y : Int} {h : TGraph} {e : TEdge} (hr : refut (delG h e.ID).1 a b x y = true) : shrStep a b x y h e = (delG h e.ID).1 := if_pos hr
theorem shrStep_no {a b : TExpr} {x y : Int} {h : TGraph} {e : TEdge} (hr : (delG h e.ID).2 = false ∨ refut (delG h e.ID).1 a b x y = false) : shrStep a b x y h e = h := by
  unfold shrStep
  split
  · rename_i h1
    rcases hr with h2 | h2
    · exact delG_same h2
    · rw [h2] at h1; cases h1
  · rfl
def shrinkR (g : TGraph) (a b : TExpr) (x y : Int) : TGraph × Bool := if refut g a b x y = true then (shrTo g a b x y g.Edges.length, true) else (g, false)
theorem shrStep_len (a b : TExpr) (x y : Int) (h : TGraph) (e : TEdge) : (shrStep a b x y h e).Values.length = h.Values.length ∧ (shrStep a b x y h e).Edges.length ≤ h.Edges.length := by
  unfold shrStep
  split
  · exact delG_len h e.ID
  · exact ⟨rfl, Nat.le_refl _⟩
theorem shrTo_len (g : TGraph) (a b : TExpr) (x y : Int) (k : Nat) : (shrTo g a b x y k).Values.length = g.Values.length ∧ (shrTo g a b x y k).Edges.length ≤ g.Edges.length := by
  unfold shrTo
  generalize g.Edges.take k = l
  suffices H : ∀ (l : List TEdge) (h : TGraph), (l.foldl (shrStep a b x y) h).Values.length = h.Values.length ∧ (l.foldl (shrStep a b x y) h).Edges.length ≤ h.Edges.length from H l g
  intro l
  induction l with
  | nil => exact fun h => ⟨rfl, Nat.le_refl _⟩
  | cons e l ih =>
    intro h
    have h1 := ih (shrStep a b x y h e)
    have h2 := shrStep_len a b x y h e
    rw [List.foldl_cons]
    exact ⟨h1.1.trans h2.1, Nat.le_trans h1.2 h2.2⟩
end Go.Q
namespace Go.Proofs.YtbfejakbaijmhaaGreat
open Go.RowKit Go.Q Go.D
theorem implShrinkRefutation (g : TGraph) (a b : TExpr) (x y : Int) (hz1 : g.Values.length ≤ 1073741824) (hz2 : g.Edges.length ≤ 1073741824) : FnT Tryz.prog 11 [.agg (cGraph g), .agg (cExpr a), .agg (cExpr b), .one (.v (.int .i64 x)), .one (.v (.int .i64 y))] (.tup [.agg (cGraph (shrinkR g a b x y).1), .one (.v (.bool (shrinkR g a b x y).2))]) := by
  refine FnT.walk Tryz.func11 rfl (by kernel_rfl) Tryz.ntmps11 rfl fun hlen w0 => ?_
  try simp [cPair, cToken, cExpr, cEdge, cGraph, cStep, cWalk, cChange, cBatch, cHistory, cPositions, cAutomaton, cProductStep, cPathAtom, cConjunction, cView, cDelta, cRegistered, cRegistry] at hlen
  refine AW.seq ?_
  refine AW.region ?_
  refine AWl.put (R_boxz rfl rfl rfl (.tmp rfl fun _ => rfl) (ts := _) (by rfl)) rfl ?_
  refine AWl.put (R_boxz rfl rfl rfl (.tmp rfl fun _ => rfl) (ts := _) (by rfl)) rfl ?_
  refine AWl.put (R_boxz rfl rfl rfl (.tmp rfl fun _ => rfl) (ts := _) (by rfl)) rfl ?_
  refine AWl.add (R_alloc 10 rfl rfl rfl in33 rfl rfl rfl) rfl ?_
  refine AWl.put (R_assign rfl (.no rfl) rfl (.const rfl)) rfl ?_
  refine AWl.nil ?_
  refine AW.seq ?_
  refine AW.region ?_
  refine AWl.put ((by exact R_load rfl (.no rfl) rfl (.tmp rfl fun _ => rfl) ty33 rfl rfl)) rfl ?_
  refine AWl.adds (R_call 1800 (implcopyGraph g hz1 hz2) rfl rfl rfl (.cons (.tmp rfl fun _ => rfl) rfl .nil) rfl rfl) rfl ?_
  refine AWl.add (R_alloc 12 rfl rfl rfl in33 rfl rfl rfl) rfl ?_
  refine AWl.chgb (R_store_pb rfl rfl rfl (.tmp rfl fun _ => rfl) (.tmp rfl fun _ => rfl) rfl ty33 rfl rfl rfl (by kernel_rfl) rfl) ?_
  refine AWl.nil ?_
  refine AW.seq ?_
  refine AW.seq ?_
  refine AW.region ?_
  refine AWl.put ((by exact R_load rfl (.no rfl) rfl (.tmp rfl fun _ => rfl) ty33 rfl rfl)) rfl ?_
  refine AWl.put ((by exact R_load rfl (.no rfl) rfl (.tmp rfl fun _ => rfl) ty39 rfl rfl)) rfl ?_
  refine AWl.put ((by exact R_load rfl (.no rfl) rfl (.tmp rfl fun _ => rfl) ty39 rfl rfl)) rfl ?_
  refine AWl.put (R_move rfl (.no rfl) rfl (.tmp rfl fun _ => rfl)) rfl ?_
  refine AWl.put (R_move rfl (.no rfl) rfl (.tmp rfl fun _ => rfl)) rfl ?_
  refine AWl.put (R_callz (FnT.fr (implIsRefutation _ _ _ _ _)) rfl (.no rfl) rfl (.cons (.tmp rfl fun _ => rfl) rfl (.cons (.tmp rfl fun _ => rfl) rfl (.cons (.tmp rfl fun _ => rfl) rfl (.cons (.tmp rfl fun _ => rfl) rfl (.cons (.tmp rfl fun _ => rfl) rfl .nil)))))) rfl ?_
  refine AWl.put (R_not rfl (.no rfl) rfl (.tmp rfl fun _ => rfl)) rfl ?_
  refine AWl.nil ?_
  refine AW.cond (.tmp rfl fun _ => rfl) (fun h25 => ?_) (fun h25 => ?_)
  · skip
    try simp at h25
    refine AW.seq ?_
    refine AW.le (σ' := ⟨_, [(0, _), (1, _), (2, _), (3, _), (4, _), (5, _), (6, _), (7, _), (10, _), (11, _), (12, _)], [(10, _), (1800, _), (1801, _), (12, _)]⟩) (Le.sub0 rfl ⟨rfl, rfl, rfl, rfl, rfl, rfl, rfl, rfl, rfl, rfl, rfl, trivial⟩ ⟨rfl, rfl, rfl, rfl, trivial⟩) ?_
    refine AW.region ?_
    refine AWl.put ((by exact R_load_pp rfl (.no rfl) rfl (.tmp rfl fun _ => rfl) rfl ty33 rfl rfl)) rfl ?_
    refine AWl.chgb (R_store_pb rfl rfl rfl (.tmp rfl fun _ => rfl) (.tmp rfl fun _ => rfl) rfl ty33 rfl rfl rfl (by kernel_rfl) rfl) ?_
    refine AWl.le (σ' := ⟨_, [(0, _), (1, _), (2, _), (3, _), (4, _), (5, _), (6, _), (7, _), (10, _), (11, _), (12, _)], [(10, _), (1800, _), (1801, _), (12, _)]⟩) (Le.sub0 rfl ⟨rfl, rfl, rfl, rfl, rfl, rfl, rfl, rfl, rfl, rfl, rfl, trivial⟩ ⟨rfl, rfl, rfl, rfl, trivial⟩) ?_
    refine AWl.put (R_assign rfl (.no rfl) rfl (.const rfl)) rfl ?_
    refine AWl.nil ?_
    refine AW.ret ?_
    refine Res.many rfl (.cell rfl rfl ty33 rfl rfl (.tmp rfl .nil)) rfl ?_ (by simp)
    unfold shrinkR; rw [if_neg (by simpa using h25)]; rfl
  · skip
    try simp at h25
    refine AW.skip ?_
    refine AW.seq ?_
    refine AW.seq ?_
    refine AW.le (σ' := ⟨_, [(0, _), (1, _), (2, _), (3, _), (4, _), (5, _), (6, _), (7, _), (10, _), (11, _), (12, _)], [(10, _), (1800, _), (1801, _), (12, _)]⟩) (Le.sub0 rfl ⟨rfl, rfl, rfl, rfl, rfl, rfl, rfl, rfl, rfl, rfl, rfl, trivial⟩ ⟨rfl, rfl, rfl, rfl, trivial⟩) ?_
    refine AW.region ?_
    refine AWl.put ((by exact R_fieldAddr rfl (.no rfl) rfl (.tmp rfl fun _ => rfl) fl33_1)) rfl ?_
    refine AWl.put ((by exact R_load rfl (.no rfl) rfl (.tmp rfl fun _ => rfl) ty31 rfl rfl)) rfl ?_
    refine AWl.put ((by exact R_lenm rfl (.no rfl) rfl (.tmp rfl fun _ => rfl) (by exact .t) Tryz.underlying31)) rfl ?_
    refine AWl.put (R_move rfl (.no rfl) rfl (.const rfl)) rfl ?_
    refine AWl.nil ?_
    refine AW.block ?_
    refine AW.loop2 (fun (k : Nat) (h : TGraph) => (k ≤ g.Edges.length ∧ h.Values.length = g.Values.length ∧ h.Edges.length ≤ g.Edges.length) ∧ h = shrTo g a b x y k) (fun (k : Nat) (h : TGraph) => ⟨_, [(30, (true, .a (.one (.t (.v (.int .i64 (k : Nat))))))), (3, _), (4, _), (6, _), (7, _), (10, _), (11, _), (12, _), (28, _), (29, _)], [(10, .box [.t (.v (.slice none 0 0)), .t (.v (.slice none 0 0))]), (12, .box [.rf 1800, .rf 1801]), (1800, .row 1 (h.Values.map cInt)), (1801, .row 4 (h.Edges.map cEdge))]⟩) (fun (k : Nat) (h : TGraph) => g.Edges.length - k) (0) (g) ⟨⟨Nat.zero_le _, rfl, Nat.le_refl _⟩, rfl⟩ (Le.sub0 rfl ⟨rfl, rfl, rfl, rfl, rfl, rfl, rfl, rfl, rfl, rfl, trivial⟩ ⟨rfl, rfl, rfl, rfl, trivial⟩) ?_
    rintro k h ⟨hk, he⟩
    refine AW.seq ?_
    refine AW.region ?_
    refine AWl.put (R_lt rfl (.no rfl) rfl (.tmp rfl fun _ => rfl) (.tmp rfl fun _ => rfl)) rfl ?_
    refine AWl.nil ?_
    refine AW.seq ?_
    refine AW.cond (.tmp rfl fun _ => rfl) (fun h31 => ?_) (fun h31 => ?_)
    · skip
      try simp at h31
      obtain ⟨e, hy⟩ : ∃ ξ, g.Edges[k]? = some ξ := ⟨_, List.getElem?_eq_getElem (by omega)⟩
      refine AW.skip ?_
      refine AW.seq ?_
      refine AW.block ?_
      refine AW.seq ?_
      refine AW.region ?_
      refine AWl.put ((by exact R_indexAddr rfl (.no rfl) rfl (.tmp rfl fun _ => rfl) (.tmp rfl fun _ => rfl) Tryz.underlying31 ty72 (fun _ => ⟨by omega, (map_get hy)⟩))) rfl ?_
      refine AWl.put ((by exact R_load rfl (.no rfl) rfl (.tmp rfl fun _ => rfl) ty72 rfl rfl)) rfl ?_
      refine AWl.add (R_alloc 14 rfl rfl rfl in72 rfl rfl rfl) rfl ?_
      refine AWl.chgb (R_store_pb rfl rfl rfl (.tmp rfl fun _ => rfl) (.tmp rfl fun _ => rfl) rfl ty72 rfl rfl rfl (by kernel_rfl) rfl) ?_
      refine AWl.nil ?_
      refine AW.seq ?_
      refine AW.region ?_
      refine AWl.put ((by exact R_load_pp rfl (.no rfl) rfl (.tmp rfl fun _ => rfl) rfl ty33 rfl rfl)) rfl ?_
      refine AWl.put ((by exact R_fieldAddr_pp rfl (.no rfl) rfl (.tmp rfl fun _ => rfl) fl72_0)) rfl ?_
      refine AWl.put ((by exact R_load_pp rfl (.no rfl) rfl (.tmp rfl fun _ => rfl) rfl ty3 rfl rfl)) rfl ?_
      refine AWl.adds (R_call 3800 (implDeleteEdge h e.ID (by omega) (by omega)) rfl rfl rfl (.cons (.tmp rfl fun _ => rfl) rfl (.cons (.tmp rfl fun _ => rfl) rfl .nil)) rfl rfl) rfl ?_
      refine AWl.put (R_movet rfl (.no rfl) rfl rfl fun _ => rfl) rfl ?_
      refine AWl.put (R_extract rfl (.no rfl) rfl rfl (fun _ => rfl) rfl) rfl ?_
      refine AWl.put (R_extract rfl (.no rfl) rfl rfl (fun _ => rfl) rfl) rfl ?_
      refine AWl.add (R_alloc 15 rfl rfl rfl in33 rfl rfl rfl) rfl ?_
      refine AWl.chgb (R_store_pb rfl rfl rfl (.tmp rfl fun _ => rfl) (.tmp rfl fun _ => rfl) rfl ty33 rfl rfl rfl (by kernel_rfl) rfl) ?_
      refine AWl.le (σ' := ⟨_, [(3, _), (4, _), (6, _), (7, _), (10, _), (11, _), (12, _), (14, _), (15, _), (28, _), (29, _), (30, _), (31, _), (40, _)], [(10, _), (12, _), (1800, _), (1801, _), (14, _), (3800, _), (3801, _), (15, _)]⟩) (Le.sub0 rfl ⟨rfl, rfl, rfl, rfl, rfl, rfl, rfl, rfl, rfl, rfl, rfl, rfl, rfl, rfl, trivial⟩ ⟨rfl, rfl, rfl, rfl, rfl, rfl, rfl, rfl, trivial⟩) ?_
      refine AWl.put (R_assign rfl (.no rfl) rfl (.tmp rfl fun _ => rfl)) rfl ?_
      refine AWl.nil ?_
      refine AW.seq ?_
      refine AW.region ?_
      refine AWl.put (R_move rfl (.no rfl) rfl (.tmp rfl fun _ => rfl)) rfl ?_
      refine AWl.put (R_move rfl (.no rfl) rfl (.tmp rfl fun _ => rfl)) rfl ?_
      refine AWl.put ((by exact R_load_pp rfl (by exact .yes1 rfl rfl rfl rfl) rfl (.tmp rfl (by exact fun _ => rfl)) rfl ty33 rfl rfl)) rfl ?_
      refine AWl.put ((by exact R_load rfl (by exact .yes1 rfl rfl rfl rfl) rfl (.tmp rfl (by exact fun _ => rfl)) ty39 rfl rfl)) rfl ?_
      refine AWl.put ((by exact R_load rfl (by exact .yes1 rfl rfl rfl rfl) rfl (.tmp rfl (by exact fun _ => rfl)) ty39 rfl rfl)) rfl ?_
      refine AWl.put (R_move rfl (by exact .yes1 rfl rfl rfl rfl) rfl (.tmp rfl (by exact fun _ => rfl))) rfl ?_
      refine AWl.put (R_move rfl (by exact .yes1 rfl rfl rfl rfl) rfl (.tmp rfl (by exact fun _ => rfl))) rfl ?_
      refine AWl.put (R_callz (FnT.fr (implIsRefutation _ _ _ _ _)) rfl (by exact .yes1 rfl rfl rfl rfl) rfl (.cons (.tmp rfl (by exact id)) rfl (.cons (.tmp rfl (by exact id)) rfl (.cons (.tmp rfl (by exact id)) rfl (.cons (.tmp rfl (by exact id)) rfl (.cons (.tmp rfl (by exact id)) rfl .nil)))))) rfl ?_
      refine AWl.put (R_and rfl (.no rfl) rfl (.tmp rfl fun _ => rfl) (.tmp rfl (by exact id))) rfl ?_
      refine AWl.nil ?_
      refine AW.cond (.tmp rfl fun _ => rfl) (fun h49 => ?_) (fun h49 => ?_)
      · skip
        try simp at h49
        have hyes : refut (delG h e.ID).1 a b x y = true := by (first | exact h49.2 | simp_all)
        refine AW.le (Le.sw 1800 3800 _) ?_
        refine AW.le (Le.sw 1801 3801 _) ?_
        refine AW.le (σ' := ⟨_, [(3, _), (4, _), (6, _), (7, _), (10, _), (11, _), (12, _), (14, _), (15, _), (16, _), (28, _), (29, _), (30, _)], [(10, _), (12, _), (3800, _), (3801, _), (14, _), (1800, _), (1801, _), (15, _)]⟩) (Le.sub0 rfl ⟨rfl, rfl, rfl, rfl, rfl, rfl, rfl, rfl, rfl, rfl, rfl, rfl, rfl, trivial⟩ ⟨rfl, rfl, rfl, rfl, rfl, rfl, rfl, rfl, trivial⟩) ?_
        refine AW.region ?_
        refine AWl.put ((by exact R_load_pp rfl (.no rfl) rfl (.tmp rfl fun _ => rfl) rfl ty33 rfl rfl)) rfl ?_
        refine AWl.chgb (R_store_pb rfl rfl rfl (.tmp rfl fun _ => rfl) (.tmp rfl fun _ => rfl) rfl ty33 rfl rfl rfl (by kernel_rfl) rfl) ?_
        refine AWl.nil ?_
        refine AW.region ?_
        refine AWl.put (R_add rfl (.no rfl) rfl (.tmp rfl fun _ => rfl) (.const rfl) (fun _ => by omega)) rfl ?_
        refine AWl.put (R_move rfl (.no rfl) rfl (.tmp rfl fun _ => rfl)) rfl ?_
        refine AWl.nil ?_
        repeat (with_reducible refine BlockQ.nor ?_)
        refine Round2.next (k + 1) ((delG h e.ID).1) ⟨⟨by omega, by have := delG_len h e.ID; omega⟩, (by rw [shrTo_succ a b x y hy, ← he, shrStep_yes hyes])⟩ (by omega) (Le.sub0 rfl ⟨rfl, rfl, rfl, rfl, rfl, rfl, rfl, rfl, rfl, rfl, trivial⟩ ⟨(by rfl), (by rfl), (by rfl), (by rfl), trivial⟩)
      · skip
        try simp at h49
        have hno : (delG h e.ID).2 = false ∨ refut (delG h e.ID).1 a b x y = false := by (cases hd9 : (delG h e.ID).2 with | false => exact .inl rfl | true => exact .inr (by simp_all))
        refine AW.skip ?_
        refine AW.le (σ' := ⟨_, [(3, _), (4, _), (6, _), (7, _), (10, _), (11, _), (12, _), (14, _), (15, _), (16, _), (28, _), (29, _), (30, _)], [(10, _), (12, _), (1800, _), (1801, _), (14, _), (3800, _), (3801, _), (15, _)]⟩) (Le.sub0 rfl ⟨rfl, rfl, rfl, rfl, rfl, rfl, rfl, rfl, rfl, rfl, rfl, rfl, rfl, trivial⟩ ⟨rfl, rfl, rfl, rfl, rfl, rfl, rfl, rfl, trivial⟩) ?_
        refine AW.region ?_
        refine AWl.put (R_add rfl (.no rfl) rfl (.tmp rfl fun _ => rfl) (.const rfl) (fun _ => by omega)) rfl ?_
        refine AWl.put (R_move rfl (.no rfl) rfl (.tmp rfl fun _ => rfl)) rfl ?_
        refine AWl.nil ?_
        repeat (with_reducible refine BlockQ.nor ?_)
        refine Round2.next (k + 1) (h) ⟨⟨by omega, by omega⟩, (by rw [shrTo_succ a b x y hy, ← he, shrStep_no hno])⟩ (by omega) (Le.sub0 rfl ⟨rfl, rfl, rfl, rfl, rfl, rfl, rfl, rfl, rfl, rfl, trivial⟩ ⟨(by rfl), (by rfl), (by rfl), (by rfl), trivial⟩)
    · skip
      try simp at h31
      refine AW.exit ?_
      refine AW.seq ?_
      refine AW.region ?_
      refine AWl.put ((by exact R_load_pp rfl (.no rfl) rfl (.tmp rfl fun _ => rfl) rfl ty33 rfl rfl)) rfl ?_
      refine AWl.chgb (R_store_pb rfl rfl rfl (.tmp rfl fun _ => rfl) (.tmp rfl fun _ => rfl) rfl ty33 rfl rfl rfl (by kernel_rfl) rfl) ?_
      refine AWl.le (σ' := ⟨_, [(3, _), (4, _), (6, _), (7, _), (10, _), (11, _), (12, _), (28, _), (29, _), (30, _), (31, _)], [(10, _), (12, _), (1800, _), (1801, _)]⟩) (Le.sub0 rfl ⟨rfl, rfl, rfl, rfl, rfl, rfl, rfl, rfl, rfl, rfl, rfl, trivial⟩ ⟨rfl, rfl, rfl, rfl, trivial⟩) ?_
      refine AWl.put (R_assign rfl (.no rfl) rfl (.const rfl)) rfl ?_
      refine AWl.nil ?_
      refine AW.ret ?_
      refine Res.many rfl (.cell rfl rfl ty33 rfl rfl (.tmp rfl .nil)) rfl ?_ (by simp)
      unfold shrinkR; rw [if_pos (by simpa using h25), he, show k = g.Edges.length by omega]; rfl
theorem specShrinkRefutation (g : TGraph) (a b : TExpr) (x y : Int) (hz1 : g.Values.length ≤ 1073741824) (hz2 : g.Edges.length ≤ 1073741824) : FnT Tryz.prog 8 [.agg (cGraph g), .agg (cExpr a), .agg (cExpr b), .one (.v (.int .i64 x)), .one (.v (.int .i64 y))] (.tup [.agg (cGraph (shrinkR g a b x y).1), .one (.v (.bool (shrinkR g a b x y).2))]) := by
  refine FnT.walk Tryz.func8 rfl (by kernel_rfl) Tryz.ntmps8 rfl fun hlen w0 => ?_
  try simp [cPair, cToken, cExpr, cEdge, cGraph, cStep, cWalk, cChange, cBatch, cHistory, cPositions, cAutomaton, cProductStep, cPathAtom, cConjunction, cView, cDelta, cRegistered, cRegistry] at hlen
  refine AW.seq ?_
  refine AW.region ?_
  refine AWl.put (R_boxz rfl rfl rfl (.tmp rfl fun _ => rfl) (ts := _) (by rfl)) rfl ?_
  refine AWl.put (R_boxz rfl rfl rfl (.tmp rfl fun _ => rfl) (ts := _) (by rfl)) rfl ?_
  refine AWl.put (R_boxz rfl rfl rfl (.tmp rfl fun _ => rfl) (ts := _) (by rfl)) rfl ?_
  refine AWl.add (R_alloc 10 rfl rfl rfl in33 rfl rfl rfl) rfl ?_
  refine AWl.put (R_assign rfl (.no rfl) rfl (.const rfl)) rfl ?_
  refine AWl.nil ?_
  refine AW.seq ?_
  refine AW.region ?_
  refine AWl.put ((by exact R_load rfl (.no rfl) rfl (.tmp rfl fun _ => rfl) ty33 rfl rfl)) rfl ?_
  refine AWl.adds (R_call 1700 (specl3Copy g hz1 hz2) rfl rfl rfl (.cons (.tmp rfl fun _ => rfl) rfl .nil) rfl rfl) rfl ?_
  refine AWl.add (R_alloc 12 rfl rfl rfl in33 rfl rfl rfl) rfl ?_
  refine AWl.chgb (R_store_pb rfl rfl rfl (.tmp rfl fun _ => rfl) (.tmp rfl fun _ => rfl) rfl ty33 rfl rfl rfl (by kernel_rfl) rfl) ?_
  refine AWl.nil ?_
  refine AW.seq ?_
  refine AW.seq ?_
  refine AW.region ?_
  refine AWl.put ((by exact R_load rfl (.no rfl) rfl (.tmp rfl fun _ => rfl) ty33 rfl rfl)) rfl ?_
  refine AWl.put ((by exact R_load rfl (.no rfl) rfl (.tmp rfl fun _ => rfl) ty39 rfl rfl)) rfl ?_
  refine AWl.put ((by exact R_load rfl (.no rfl) rfl (.tmp rfl fun _ => rfl) ty39 rfl rfl)) rfl ?_
  refine AWl.put (R_move rfl (.no rfl) rfl (.tmp rfl fun _ => rfl)) rfl ?_
  refine AWl.put (R_move rfl (.no rfl) rfl (.tmp rfl fun _ => rfl)) rfl ?_
  refine AWl.put (R_callz (FnT.fr (specIsRefutation _ _ _ _ _)) rfl (.no rfl) rfl (.cons (.tmp rfl fun _ => rfl) rfl (.cons (.tmp rfl fun _ => rfl) rfl (.cons (.tmp rfl fun _ => rfl) rfl (.cons (.tmp rfl fun _ => rfl) rfl (.cons (.tmp rfl fun _ => rfl) rfl .nil)))))) rfl ?_
  refine AWl.put (R_not rfl (.no rfl) rfl (.tmp rfl fun _ => rfl)) rfl ?_
  refine AWl.nil ?_
  refine AW.cond (.tmp rfl fun _ => rfl) (fun h24 => ?_) (fun h24 => ?_)
  · skip
    try simp at h24
    refine AW.seq ?_
    refine AW.le (σ' := ⟨_, [(0, _), (1, _), (2, _), (3, _), (4, _), (5, _), (6, _), (7, _), (10, _), (11, _), (12, _)], [(10, _), (1700, _), (1701, _), (12, _)]⟩) (Le.sub0 rfl ⟨rfl, rfl, rfl, rfl, rfl, rfl, rfl, rfl, rfl, rfl, rfl, trivial⟩ ⟨rfl, rfl, rfl, rfl, trivial⟩) ?_
    refine AW.region ?_
    refine AWl.put ((by exact R_load_pp rfl (.no rfl) rfl (.tmp rfl fun _ => rfl) rfl ty33 rfl rfl)) rfl ?_
    refine AWl.chgb (R_store_pb rfl rfl rfl (.tmp rfl fun _ => rfl) (.tmp rfl fun _ => rfl) rfl ty33 rfl rfl rfl (by kernel_rfl) rfl) ?_
    refine AWl.le (σ' := ⟨_, [(0, _), (1, _), (2, _), (3, _), (4, _), (5, _), (6, _), (7, _), (10, _), (11, _), (12, _)], [(10, _), (1700, _), (1701, _), (12, _)]⟩) (Le.sub0 rfl ⟨rfl, rfl, rfl, rfl, rfl, rfl, rfl, rfl, rfl, rfl, rfl, trivial⟩ ⟨rfl, rfl, rfl, rfl, trivial⟩) ?_
    refine AWl.put (R_assign rfl (.no rfl) rfl (.const rfl)) rfl ?_
    refine AWl.nil ?_
    refine AW.ret ?_
    refine Res.many rfl (.cell rfl rfl ty33 rfl rfl (.tmp rfl .nil)) rfl ?_ (by simp)
    unfold shrinkR; rw [if_neg (by simpa using h24)]; rfl
  · skip
    try simp at h24
    refine AW.skip ?_
    refine AW.seq ?_
    refine AW.seq ?_
    refine AW.le (σ' := ⟨_, [(0, _), (1, _), (2, _), (3, _), (4, _), (5, _), (6, _), (7, _), (10, _), (11, _), (12, _)], [(10, _), (1700, _), (1701, _), (12, _)]⟩) (Le.sub0 rfl ⟨rfl, rfl, rfl, rfl, rfl, rfl, rfl, rfl, rfl, rfl, rfl, trivial⟩ ⟨rfl, rfl, rfl, rfl, trivial⟩) ?_
    refine AW.region ?_
    refine AWl.put (R_assign rfl (.no rfl) rfl (.const rfl)) rfl ?_
    refine AWl.nil ?_
    refine AW.block ?_
    refine AW.loop2 (fun (k : Nat) (h : TGraph) => (k ≤ g.Edges.length ∧ h.Values.length = g.Values.length ∧ h.Edges.length ≤ g.Edges.length) ∧ h = shrTo g a b x y k) (fun (k : Nat) (h : TGraph) => ⟨_, [(13, (true, .a (.one (.t (.v (.int .i64 (k : Nat))))))), (3, _), (4, _), (5, _), (6, _), (7, _), (10, _), (11, _), (12, _)], [(10, .box [.t (.v (.slice none 0 0)), .t (.v (.slice none 0 0))]), (12, .box [.rf 1700, .rf 1701]), (1700, .row 1 (h.Values.map cInt)), (1701, .row 4 (h.Edges.map cEdge))]⟩) (fun (k : Nat) (h : TGraph) => g.Edges.length - k) (0) (g) ⟨⟨Nat.zero_le _, rfl, Nat.le_refl _⟩, rfl⟩ (Le.sub0 rfl ⟨rfl, rfl, rfl, rfl, rfl, rfl, rfl, rfl, rfl, trivial⟩ ⟨rfl, rfl, rfl, rfl, trivial⟩) ?_
    rintro k h ⟨hk, he⟩
    refine AW.seq ?_
    refine AW.seq ?_
    refine AW.region ?_
    refine AWl.put (R_move rfl (.no rfl) rfl (.tmp rfl fun _ => rfl)) rfl ?_
    refine AWl.put ((by exact R_fieldAddr rfl (.no rfl) rfl (.tmp rfl fun _ => rfl) fl33_1)) rfl ?_
    refine AWl.put ((by exact R_load rfl (.no rfl) rfl (.tmp rfl fun _ => rfl) ty31 rfl rfl)) rfl ?_
    refine AWl.put ((by exact R_lenm rfl (.no rfl) rfl (.tmp rfl fun _ => rfl) (by exact .t) Tryz.underlying31)) rfl ?_
    refine AWl.put (R_lt rfl (.no rfl) rfl (.tmp rfl fun _ => rfl) (.tmp rfl fun _ => rfl)) rfl ?_
    refine AWl.nil ?_
    refine AW.cond (.tmp rfl fun _ => rfl) (fun h30 => ?_) (fun h30 => ?_)
    · skip
      try simp at h30
      obtain ⟨e, hy⟩ : ∃ ξ, g.Edges[k]? = some ξ := ⟨_, List.getElem?_eq_getElem (by omega)⟩
      refine AW.skip ?_
      refine AW.seq ?_
      refine AW.block ?_
      refine AW.seq ?_
      refine AW.dagn 14 48 [[], [0], [1], [3], [11], [0, 1], [0, 3], [0, 11], [1, 2], [1, 3], [1, 11], [3, 11], [0, 1, 2], [0, 1, 3], [0, 1, 11], [0, 3, 11], [1, 2, 3], [1, 2, 11], [1, 3, 11], [0, 1, 2, 3], [0, 1, 2, 11], [0, 1, 3, 11], [1, 2, 3, 4], [1, 2, 3, 11], [0, 1, 2, 3, 4], [0, 1, 2, 3, 11], [1, 2, 3, 4, 5], [1, 2, 3, 4, 11], [0, 1, 2, 3, 4, 5], [0, 1, 2, 3, 4, 11], [1, 2, 3, 4, 5, 6], [1, 2, 3, 4, 5, 11], [0, 1, 2, 3, 4, 5, 6], [0, 1, 2, 3, 4, 5, 11], [1, 2, 3, 4, 5, 6, 11], [0, 1, 2, 3, 4, 5, 6, 7], [0, 1, 2, 3, 4, 5, 6, 11], [0, 1, 2, 3, 4, 5, 6, 7, 8], [0, 1, 2, 3, 4, 5, 6, 7, 11], [0, 1, 2, 3, 4, 5, 6, 7, 8, 9], [0, 1, 2, 3, 4, 5, 6, 7, 8, 10], [0, 1, 2, 3, 4, 5, 6, 7, 8, 11], [0, 1, 2, 3, 4, 5, 6, 7, 8, 9, 10], [0, 1, 2, 3, 4, 5, 6, 7, 8, 9, 11], [0, 1, 2, 3, 4, 5, 6, 7, 8, 10, 11], [0, 1, 2, 3, 4, 5, 6, 7, 8, 9, 10, 11], [0, 1, 2, 3, 4, 5, 6, 7, 8, 9, 11, 12], [0, 1, 2, 3, 4, 5, 6, 7, 8, 9, 10, 11, 12], [0, 1, 2, 3, 4, 5, 6, 7, 8, 9, 10, 11, 12, 13]] [(0, 0, 1), (0, 1, 2), (0, 3, 3), (0, 11, 4), (1, 1, 5), (2, 0, 5), (1, 3, 6), (3, 0, 6), (1, 11, 7), (4, 0, 7), (2, 2, 8), (2, 3, 9), (3, 1, 9), (2, 11, 10), (4, 1, 10), (3, 11, 11), (4, 3, 11), (5, 2, 12), (8, 0, 12), (5, 3, 13), (9, 0, 13), (6, 1, 13), (5, 11, 14), (10, 0, 14), (7, 1, 14), (6, 11, 15), (11, 0, 15), (7, 3, 15), (8, 3, 16), (9, 2, 16), (8, 11, 17), (10, 2, 17), (9, 11, 18), (11, 1, 18), (10, 3, 18), (12, 3, 19), (16, 0, 19), (13, 2, 19), (12, 11, 20), (17, 0, 20), (14, 2, 20), (13, 11, 21), (18, 0, 21), (15, 1, 21), (14, 3, 21), (16, 4, 22), (16, 11, 23), (18, 2, 23), (17, 3, 23), (19, 4, 24), (22, 0, 24), (19, 11, 25), (23, 0, 25), (21, 2, 25), (20, 3, 25), (22, 5, 26), (22, 11, 27), (23, 4, 27), (24, 5, 28), (26, 0, 28), (24, 11, 29), (27, 0, 29), (25, 4, 29), (26, 6, 30), (26, 11, 31), (27, 5, 31), (28, 6, 32), (30, 0, 32), (28, 11, 33), (31, 0, 33), (29, 5, 33), (30, 11, 34), (31, 6, 34), (32, 7, 35), (32, 11, 36), (34, 0, 36), (33, 6, 36), (35, 8, 37), (35, 11, 38), (36, 7, 38), (37, 9, 39), (37, 10, 40), (37, 11, 41), (38, 8, 41), (39, 10, 42), (40, 9, 42), (39, 11, 43), (41, 9, 43), (40, 11, 44), (41, 10, 44), (42, 11, 45), (44, 9, 45), (43, 10, 45), (43, 12, 46), (45, 12, 47), (46, 10, 47), (47, 13, 48)] (by kernel_rfl) (by kernel_rfl) (by kernel_rfl) ?_
      apply Dag.new (i := 0)
      case ha => rfl
      case ho => rfl
      case hb => rfl
      case hE =>
        intro w9
        refine AWl.put ((by exact R_load_pp rfl (.no rfl) rfl (.tmp rfl fun _ => rfl) rfl ty33 rfl rfl)) rfl ?_
        refine AWl.nil ?_
        exact Le.sub0 (σ' := ⟨_, [(3, _), (4, _), (5, _), (6, _), (7, _), (10, _), (11, _), (12, _), (13, _), (30, _), (34, _)], [(10, _), (12, _), (1700, _), (1701, _)]⟩) rfl ⟨rfl, rfl, rfl, rfl, rfl, rfl, rfl, rfl, rfl, rfl, rfl, trivial⟩ ⟨rfl, rfl, rfl, rfl, trivial⟩
      apply Dag.new (i := 1)
      case ha => rfl
      case ho => rfl
      case hb => rfl
      case hE =>
        intro w9
        refine AWl.put ((by exact R_fieldAddr rfl (.no rfl) rfl (.tmp rfl fun _ => rfl) fl33_1)) rfl ?_
        refine AWl.nil ?_
        exact Le.sub0 (σ' := ⟨_, [(3, _), (4, _), (5, _), (6, _), (7, _), (10, _), (11, _), (12, _), (13, _), (30, _), (35, _)], [(10, _), (12, _), (1700, _), (1701, _)]⟩) rfl ⟨rfl, rfl, rfl, rfl, rfl, rfl, rfl, rfl, rfl, rfl, rfl, trivial⟩ ⟨rfl, rfl, rfl, rfl, trivial⟩
      apply Dag.new (i := 3)
      case ha => rfl
      case ho => rfl
      case hb => rfl
      case hE =>
        intro w9
        refine AWl.put (R_move rfl (.no rfl) rfl (.tmp rfl fun _ => rfl)) rfl ?_
        refine AWl.nil ?_
        exact Le.sub0 (σ' := ⟨_, [(3, _), (4, _), (5, _), (6, _), (7, _), (10, _), (11, _), (12, _), (13, _), (30, _), (37, _)], [(10, _), (12, _), (1700, _), (1701, _)]⟩) rfl ⟨rfl, rfl, rfl, rfl, rfl, rfl, rfl, rfl, rfl, rfl, rfl, trivial⟩ ⟨rfl, rfl, rfl, rfl, trivial⟩
      apply Dag.new (i := 11)
      case ha => rfl
      case ho => rfl
      case hb => rfl
      case hE =>
        intro w9
        refine AWl.add (R_alloc 14 rfl rfl rfl in33 rfl rfl rfl) rfl ?_
        refine AWl.nil ?_
        exact Le.sub0 (σ' := ⟨_, [(3, _), (4, _), (5, _), (6, _), (7, _), (10, _), (11, _), (12, _), (13, _), (14, _), (30, _)], [(10, _), (12, _), (1700, _), (1701, _), (14, _)]⟩) rfl ⟨rfl, rfl, rfl, rfl, rfl, rfl, rfl, rfl, rfl, rfl, rfl, trivial⟩ ⟨rfl, rfl, rfl, rfl, rfl, trivial⟩
      apply Dag.new (i := 1)
      case ha => rfl
      case ho => rfl
      case hb => rfl
      case hE =>
        intro w9
        refine AWl.put ((by exact R_fieldAddr rfl (.no rfl) rfl (.tmp rfl fun _ => rfl) fl33_1)) rfl ?_
        refine AWl.nil ?_
        exact Le.sub0 (σ' := ⟨_, [(3, _), (4, _), (5, _), (6, _), (7, _), (10, _), (11, _), (12, _), (13, _), (30, _), (34, _), (35, _)], [(10, _), (12, _), (1700, _), (1701, _)]⟩) rfl ⟨rfl, rfl, rfl, rfl, rfl, rfl, rfl, rfl, rfl, rfl, rfl, rfl, trivial⟩ ⟨rfl, rfl, rfl, rfl, trivial⟩
      apply Dag.old (i := 0)
      case ha => rfl
      case ho => rfl
      case hb => rfl
      case hE =>
        intro w9
        refine AWl.put ((by exact R_load_pp rfl (.no rfl) rfl (.tmp rfl fun _ => rfl) rfl ty33 rfl rfl)) rfl ?_
        refine AWl.nil ?_
        exact Le.sub0 rfl ⟨rfl, rfl, rfl, rfl, rfl, rfl, rfl, rfl, rfl, rfl, rfl, rfl, trivial⟩ ⟨rfl, rfl, rfl, rfl, trivial⟩
      apply Dag.new (i := 3)
      case ha => rfl
      case ho => rfl
      case hb => rfl
      case hE =>
        intro w9
        refine AWl.put (R_move rfl (.no rfl) rfl (.tmp rfl fun _ => rfl)) rfl ?_
        refine AWl.nil ?_
        exact Le.sub0 (σ' := ⟨_, [(3, _), (4, _), (5, _), (6, _), (7, _), (10, _), (11, _), (12, _), (13, _), (30, _), (34, _), (37, _)], [(10, _), (12, _), (1700, _), (1701, _)]⟩) rfl ⟨rfl, rfl, rfl, rfl, rfl, rfl, rfl, rfl, rfl, rfl, rfl, rfl, trivial⟩ ⟨rfl, rfl, rfl, rfl, trivial⟩
      apply Dag.old (i := 0)
      case ha => rfl
      case ho => rfl
      case hb => rfl
      case hE =>
        intro w9
        refine AWl.put ((by exact R_load_pp rfl (.no rfl) rfl (.tmp rfl fun _ => rfl) rfl ty33 rfl rfl)) rfl ?_
        refine AWl.nil ?_
        exact Le.sub0 rfl ⟨rfl, rfl, rfl, rfl, rfl, rfl, rfl, rfl, rfl, rfl, rfl, rfl, trivial⟩ ⟨rfl, rfl, rfl, rfl, trivial⟩
      apply Dag.new (i := 11)
      case ha => rfl
      case ho => rfl
      case hb => rfl
      case hE =>
        intro w9
        refine AWl.add (R_alloc 14 rfl rfl rfl in33 rfl rfl rfl) rfl ?_
        refine AWl.nil ?_
        exact Le.sub0 (σ' := ⟨_, [(3, _), (4, _), (5, _), (6, _), (7, _), (10, _), (11, _), (12, _), (13, _), (14, _), (30, _), (34, _)], [(10, _), (12, _), (1700, _), (1701, _), (14, _)]⟩) rfl ⟨rfl, rfl, rfl, rfl, rfl, rfl, rfl, rfl, rfl, rfl, rfl, rfl, trivial⟩ ⟨rfl, rfl, rfl, rfl, rfl, trivial⟩
      apply Dag.old (i := 0)
      case ha => rfl
      case ho => rfl
      case hb => rfl
      case hE =>
        intro w9
        refine AWl.put ((by exact R_load_pp rfl (.no rfl) rfl (.tmp rfl fun _ => rfl) rfl ty33 rfl rfl)) rfl ?_
        refine AWl.nil ?_
        exact Le.sub0 rfl ⟨rfl, rfl, rfl, rfl, rfl, rfl, rfl, rfl, rfl, rfl, rfl, rfl, trivial⟩ ⟨rfl, rfl, rfl, rfl, rfl, trivial⟩
      apply Dag.new (i := 2)
      case ha => rfl
      case ho => rfl
      case hb => rfl
      case hE =>
        intro w9
        refine AWl.put ((by exact R_load rfl (.no rfl) rfl (.tmp rfl fun _ => rfl) ty31 rfl rfl)) rfl ?_
        refine AWl.nil ?_
        exact Le.sub0 (σ' := ⟨_, [(3, _), (4, _), (5, _), (6, _), (7, _), (10, _), (11, _), (12, _), (13, _), (30, _), (36, _)], [(10, _), (12, _), (1700, _), (1701, _)]⟩) rfl ⟨rfl, rfl, rfl, rfl, rfl, rfl, rfl, rfl, rfl, rfl, rfl, trivial⟩ ⟨rfl, rfl, rfl, rfl, trivial⟩
      apply Dag.new (i := 3)
      case ha => rfl
      case ho => rfl
      case hb => rfl
      case hE =>
        intro w9
        refine AWl.put (R_move rfl (.no rfl) rfl (.tmp rfl fun _ => rfl)) rfl ?_
        refine AWl.nil ?_
        exact Le.sub0 (σ' := ⟨_, [(3, _), (4, _), (5, _), (6, _), (7, _), (10, _), (11, _), (12, _), (13, _), (30, _), (35, _), (37, _)], [(10, _), (12, _), (1700, _), (1701, _)]⟩) rfl ⟨rfl, rfl, rfl, rfl, rfl, rfl, rfl, rfl, rfl, rfl, rfl, rfl, trivial⟩ ⟨rfl, rfl, rfl, rfl, trivial⟩
      apply Dag.old (i := 1)
      case ha => rfl
      case ho => rfl
      case hb => rfl
      case hE =>
        intro w9
        refine AWl.put ((by exact R_fieldAddr rfl (.no rfl) rfl (.tmp rfl fun _ => rfl) fl33_1)) rfl ?_
        refine AWl.nil ?_
        exact Le.sub0 rfl ⟨rfl, rfl, rfl, rfl, rfl, rfl, rfl, rfl, rfl, rfl, rfl, rfl, trivial⟩ ⟨rfl, rfl, rfl, rfl, trivial⟩
      apply Dag.new (i := 11)
      case ha => rfl
      case ho => rfl
      case hb => rfl
      case hE =>
        intro w9
        refine AWl.add (R_alloc 14 rfl rfl rfl in33 rfl rfl rfl) rfl ?_
        refine AWl.nil ?_
        exact Le.sub0 (σ' := ⟨_, [(3, _), (4, _), (5, _), (6, _), (7, _), (10, _), (11, _), (12, _), (13, _), (14, _), (30, _), (35, _)], [(10, _), (12, _), (1700, _), (1701, _), (14, _)]⟩) rfl ⟨rfl, rfl, rfl, rfl, rfl, rfl, rfl, rfl, rfl, rfl, rfl, rfl, trivial⟩ ⟨rfl, rfl, rfl, rfl, rfl, trivial⟩
      apply Dag.old (i := 1)
      case ha => rfl
      case ho => rfl
      case hb => rfl
      case hE =>
        intro w9
        refine AWl.put ((by exact R_fieldAddr rfl (.no rfl) rfl (.tmp rfl fun _ => rfl) fl33_1)) rfl ?_
        refine AWl.nil ?_
        exact Le.sub0 rfl ⟨rfl, rfl, rfl, rfl, rfl, rfl, rfl, rfl, rfl, rfl, rfl, rfl, trivial⟩ ⟨rfl, rfl, rfl, rfl, rfl, trivial⟩
      apply Dag.new (i := 11)
      case ha => rfl
      case ho => rfl
      case hb => rfl
      case hE =>
        intro w9
        refine AWl.add (R_alloc 14 rfl rfl rfl in33 rfl rfl rfl) rfl ?_
        refine AWl.nil ?_
        exact Le.sub0 (σ' := ⟨_, [(3, _), (4, _), (5, _), (6, _), (7, _), (10, _), (11, _), (12, _), (13, _), (14, _), (30, _), (37, _)], [(10, _), (12, _), (1700, _), (1701, _), (14, _)]⟩) rfl ⟨rfl, rfl, rfl, rfl, rfl, rfl, rfl, rfl, rfl, rfl, rfl, rfl, trivial⟩ ⟨rfl, rfl, rfl, rfl, rfl, trivial⟩
      apply Dag.old (i := 3)
      case ha => rfl
      case ho => rfl
      case hb => rfl
      case hE =>
        intro w9
        refine AWl.put (R_move rfl (.no rfl) rfl (.tmp rfl fun _ => rfl)) rfl ?_
        refine AWl.nil ?_
        exact Le.sub0 rfl ⟨rfl, rfl, rfl, rfl, rfl, rfl, rfl, rfl, rfl, rfl, rfl, rfl, trivial⟩ ⟨rfl, rfl, rfl, rfl, rfl, trivial⟩
      apply Dag.new (i := 2)
      case ha => rfl
      case ho => rfl
      case hb => rfl
      case hE =>
        intro w9
        refine AWl.put ((by exact R_load rfl (.no rfl) rfl (.tmp rfl fun _ => rfl) ty31 rfl rfl)) rfl ?_
        refine AWl.nil ?_
        exact Le.sub0 (σ' := ⟨_, [(3, _), (4, _), (5, _), (6, _), (7, _), (10, _), (11, _), (12, _), (13, _), (30, _), (34, _), (36, _)], [(10, _), (12, _), (1700, _), (1701, _)]⟩) rfl ⟨rfl, rfl, rfl, rfl, rfl, rfl, rfl, rfl, rfl, rfl, rfl, rfl, trivial⟩ ⟨rfl, rfl, rfl, rfl, trivial⟩
      apply Dag.old (i := 0)
      case ha => rfl
      case ho => rfl
      case hb => rfl
      case hE =>
        intro w9
        refine AWl.put ((by exact R_load_pp rfl (.no rfl) rfl (.tmp rfl fun _ => rfl) rfl ty33 rfl rfl)) rfl ?_
        refine AWl.nil ?_
        exact Le.sub0 rfl ⟨rfl, rfl, rfl, rfl, rfl, rfl, rfl, rfl, rfl, rfl, rfl, rfl, trivial⟩ ⟨rfl, rfl, rfl, rfl, trivial⟩
      apply Dag.new (i := 3)
      case ha => rfl
      case ho => rfl
      case hb => rfl
      case hE =>
        intro w9
        refine AWl.put (R_move rfl (.no rfl) rfl (.tmp rfl fun _ => rfl)) rfl ?_
        refine AWl.nil ?_
        exact Le.sub0 (σ' := ⟨_, [(3, _), (4, _), (5, _), (6, _), (7, _), (10, _), (11, _), (12, _), (13, _), (30, _), (34, _), (35, _), (37, _)], [(10, _), (12, _), (1700, _), (1701, _)]⟩) rfl ⟨rfl, rfl, rfl, rfl, rfl, rfl, rfl, rfl, rfl, rfl, rfl, rfl, rfl, trivial⟩ ⟨rfl, rfl, rfl, rfl, trivial⟩
      apply Dag.old (i := 0)
      case ha => rfl
      case ho => rfl
      case hb => rfl
      case hE =>
        intro w9
        refine AWl.put ((by exact R_load_pp rfl (.no rfl) rfl (.tmp rfl fun _ => rfl) rfl ty33 rfl rfl)) rfl ?_
        refine AWl.nil ?_
        exact Le.sub0 rfl ⟨rfl, rfl, rfl, rfl, rfl, rfl, rfl, rfl, rfl, rfl, rfl, rfl, rfl, trivial⟩ ⟨rfl, rfl, rfl, rfl, trivial⟩
      apply Dag.old (i := 1)
      case ha => rfl
      case ho => rfl
      case hb => rfl
      case hE =>
        intro w9
        refine AWl.put ((by exact R_fieldAddr rfl (.no rfl) rfl (.tmp rfl fun _ => rfl) fl33_1)) rfl ?_
        refine AWl.nil ?_
        exact Le.sub0 rfl ⟨rfl, rfl, rfl, rfl, rfl, rfl, rfl, rfl, rfl, rfl, rfl, rfl, rfl, trivial⟩ ⟨rfl, rfl, rfl, rfl, trivial⟩
      apply Dag.new (i := 11)
      case ha => rfl
      case ho => rfl
      case hb => rfl
      case hE =>
        intro w9
        refine AWl.add (R_alloc 14 rfl rfl rfl in33 rfl rfl rfl) rfl ?_
        refine AWl.nil ?_
        exact Le.sub0 (σ' := ⟨_, [(3, _), (4, _), (5, _), (6, _), (7, _), (10, _), (11, _), (12, _), (13, _), (14, _), (30, _), (34, _), (35, _)], [(10, _), (12, _), (1700, _), (1701, _), (14, _)]⟩) rfl ⟨rfl, rfl, rfl, rfl, rfl, rfl, rfl, rfl, rfl, rfl, rfl, rfl, rfl, trivial⟩ ⟨rfl, rfl, rfl, rfl, rfl, trivial⟩
      apply Dag.old (i := 0)
      case ha => rfl
      case ho => rfl
      case hb => rfl
      case hE =>
        intro w9
        refine AWl.put ((by exact R_load_pp rfl (.no rfl) rfl (.tmp rfl fun _ => rfl) rfl ty33 rfl rfl)) rfl ?_
        refine AWl.nil ?_
        exact Le.sub0 rfl ⟨rfl, rfl, rfl, rfl, rfl, rfl, rfl, rfl, rfl, rfl, rfl, rfl, rfl, trivial⟩ ⟨rfl, rfl, rfl, rfl, rfl, trivial⟩
      apply Dag.old (i := 1)
      case ha => rfl
      case ho => rfl
      case hb => rfl
      case hE =>
        intro w9
        refine AWl.put ((by exact R_fieldAddr rfl (.no rfl) rfl (.tmp rfl fun _ => rfl) fl33_1)) rfl ?_
        refine AWl.nil ?_
        exact Le.sub0 rfl ⟨rfl, rfl, rfl, rfl, rfl, rfl, rfl, rfl, rfl, rfl, rfl, rfl, rfl, trivial⟩ ⟨rfl, rfl, rfl, rfl, rfl, trivial⟩
      apply Dag.new (i := 11)
      case ha => rfl
      case ho => rfl
      case hb => rfl
      case hE =>
        intro w9
        refine AWl.add (R_alloc 14 rfl rfl rfl in33 rfl rfl rfl) rfl ?_
        refine AWl.nil ?_
        exact Le.sub0 (σ' := ⟨_, [(3, _), (4, _), (5, _), (6, _), (7, _), (10, _), (11, _), (12, _), (13, _), (14, _), (30, _), (34, _), (37, _)], [(10, _), (12, _), (1700, _), (1701, _), (14, _)]⟩) rfl ⟨rfl, rfl, rfl, rfl, rfl, rfl, rfl, rfl, rfl, rfl, rfl, rfl, rfl, trivial⟩ ⟨rfl, rfl, rfl, rfl, rfl, trivial⟩
      apply Dag.old (i := 0)
      case ha => rfl
      case ho => rfl
      case hb => rfl
      case hE =>
        intro w9
        refine AWl.put ((by exact R_load_pp rfl (.no rfl) rfl (.tmp rfl fun _ => rfl) rfl ty33 rfl rfl)) rfl ?_
        refine AWl.nil ?_
        exact Le.sub0 rfl ⟨rfl, rfl, rfl, rfl, rfl, rfl, rfl, rfl, rfl, rfl, rfl, rfl, rfl, trivial⟩ ⟨rfl, rfl, rfl, rfl, rfl, trivial⟩
      apply Dag.old (i := 3)
      case ha => rfl
      case ho => rfl
      case hb => rfl
      case hE =>
        intro w9
        refine AWl.put (R_move rfl (.no rfl) rfl (.tmp rfl fun _ => rfl)) rfl ?_
        refine AWl.nil ?_
        exact Le.sub0 rfl ⟨rfl, rfl, rfl, rfl, rfl, rfl, rfl, rfl, rfl, rfl, rfl, rfl, rfl, trivial⟩ ⟨rfl, rfl, rfl, rfl, rfl, trivial⟩
      apply Dag.new (i := 3)
      case ha => rfl
      case ho => rfl
      case hb => rfl
      case hE =>
        intro w9
        refine AWl.put (R_move rfl (.no rfl) rfl (.tmp rfl fun _ => rfl)) rfl ?_
        refine AWl.nil ?_
        exact Le.sub0 (σ' := ⟨_, [(3, _), (4, _), (5, _), (6, _), (7, _), (10, _), (11, _), (12, _), (13, _), (30, _), (36, _), (37, _)], [(10, _), (12, _), (1700, _), (1701, _)]⟩) rfl ⟨rfl, rfl, rfl, rfl, rfl, rfl, rfl, rfl, rfl, rfl, rfl, rfl, trivial⟩ ⟨rfl, rfl, rfl, rfl, trivial⟩
      apply Dag.old (i := 2)
      case ha => rfl
      case ho => rfl
      case hb => rfl
      case hE =>
        intro w9
        refine AWl.put ((by exact R_load rfl (.no rfl) rfl (.tmp rfl fun _ => rfl) ty31 rfl rfl)) rfl ?_
        refine AWl.nil ?_
        exact Le.sub0 rfl ⟨rfl, rfl, rfl, rfl, rfl, rfl, rfl, rfl, rfl, rfl, rfl, rfl, trivial⟩ ⟨rfl, rfl, rfl, rfl, trivial⟩
      apply Dag.new (i := 11)
      case ha => rfl
      case ho => rfl
      case hb => rfl
      case hE =>
        intro w9
        refine AWl.add (R_alloc 14 rfl rfl rfl in33 rfl rfl rfl) rfl ?_
        refine AWl.nil ?_
        exact Le.sub0 (σ' := ⟨_, [(3, _), (4, _), (5, _), (6, _), (7, _), (10, _), (11, _), (12, _), (13, _), (14, _), (30, _), (36, _)], [(10, _), (12, _), (1700, _), (1701, _), (14, _)]⟩) rfl ⟨rfl, rfl, rfl, rfl, rfl, rfl, rfl, rfl, rfl, rfl, rfl, rfl, trivial⟩ ⟨rfl, rfl, rfl, rfl, rfl, trivial⟩
      apply Dag.old (i := 2)
      case ha => rfl
      case ho => rfl
      case hb => rfl
      case hE =>
        intro w9
        refine AWl.put ((by exact R_load rfl (.no rfl) rfl (.tmp rfl fun _ => rfl) ty31 rfl rfl)) rfl ?_
        refine AWl.nil ?_
        exact Le.sub0 rfl ⟨rfl, rfl, rfl, rfl, rfl, rfl, rfl, rfl, rfl, rfl, rfl, rfl, trivial⟩ ⟨rfl, rfl, rfl, rfl, rfl, trivial⟩
      apply Dag.new (i := 11)
      case ha => rfl
      case ho => rfl
      case hb => rfl
      case hE =>
        intro w9
        refine AWl.add (R_alloc 14 rfl rfl rfl in33 rfl rfl rfl) rfl ?_
        refine AWl.nil ?_
        exact Le.sub0 (σ' := ⟨_, [(3, _), (4, _), (5, _), (6, _), (7, _), (10, _), (11, _), (12, _), (13, _), (14, _), (30, _), (35, _), (37, _)], [(10, _), (12, _), (1700, _), (1701, _), (14, _)]⟩) rfl ⟨rfl, rfl, rfl, rfl, rfl, rfl, rfl, rfl, rfl, rfl, rfl, rfl, rfl, trivial⟩ ⟨rfl, rfl, rfl, rfl, rfl, trivial⟩
      apply Dag.old (i := 1)
      case ha => rfl
      case ho => rfl
      case hb => rfl
      case hE =>
        intro w9
        refine AWl.put ((by exact R_fieldAddr rfl (.no rfl) rfl (.tmp rfl fun _ => rfl) fl33_1)) rfl ?_
        refine AWl.nil ?_
        exact Le.sub0 rfl ⟨rfl, rfl, rfl, rfl, rfl, rfl, rfl, rfl, rfl, rfl, rfl, rfl, rfl, trivial⟩ ⟨rfl, rfl, rfl, rfl, rfl, trivial⟩
      apply Dag.old (i := 3)
      case ha => rfl
      case ho => rfl
      case hb => rfl
      case hE =>
        intro w9
        refine AWl.put (R_move rfl (.no rfl) rfl (.tmp rfl fun _ => rfl)) rfl ?_
        refine AWl.nil ?_
        exact Le.sub0 rfl ⟨rfl, rfl, rfl, rfl, rfl, rfl, rfl, rfl, rfl, rfl, rfl, rfl, rfl, trivial⟩ ⟨rfl, rfl, rfl, rfl, rfl, trivial⟩
      apply Dag.new (i := 3)
      case ha => rfl
      case ho => rfl
      case hb => rfl
      case hE =>
        intro w9
        refine AWl.put (R_move rfl (.no rfl) rfl (.tmp rfl fun _ => rfl)) rfl ?_
        refine AWl.nil ?_
        exact Le.sub0 (σ' := ⟨_, [(3, _), (4, _), (5, _), (6, _), (7, _), (10, _), (11, _), (12, _), (13, _), (30, _), (34, _), (36, _), (37, _)], [(10, _), (12, _), (1700, _), (1701, _)]⟩) rfl ⟨rfl, rfl, rfl, rfl, rfl, rfl, rfl, rfl, rfl, rfl, rfl, rfl, rfl, trivial⟩ ⟨rfl, rfl, rfl, rfl, trivial⟩
      apply Dag.old (i := 0)
      case ha => rfl
      case ho => rfl
      case hb => rfl
      case hE =>
        intro w9
        refine AWl.put ((by exact R_load_pp rfl (.no rfl) rfl (.tmp rfl fun _ => rfl) rfl ty33 rfl rfl)) rfl ?_
        refine AWl.nil ?_
        exact Le.sub0 rfl ⟨rfl, rfl, rfl, rfl, rfl, rfl, rfl, rfl, rfl, rfl, rfl, rfl, rfl, trivial⟩ ⟨rfl, rfl, rfl, rfl, trivial⟩
      apply Dag.old (i := 2)
      case ha => rfl
      case ho => rfl
      case hb => rfl
      case hE =>
        intro w9
        refine AWl.put ((by exact R_load rfl (.no rfl) rfl (.tmp rfl fun _ => rfl) ty31 rfl rfl)) rfl ?_
        refine AWl.nil ?_
        exact Le.sub0 rfl ⟨rfl, rfl, rfl, rfl, rfl, rfl, rfl, rfl, rfl, rfl, rfl, rfl, rfl, trivial⟩ ⟨rfl, rfl, rfl, rfl, trivial⟩
      apply Dag.new (i := 11)
      case ha => rfl
      case ho => rfl
      case hb => rfl
      case hE =>
        intro w9
        refine AWl.add (R_alloc 14 rfl rfl rfl in33 rfl rfl rfl) rfl ?_
        refine AWl.nil ?_
        exact Le.sub0 (σ' := ⟨_, [(3, _), (4, _), (5, _), (6, _), (7, _), (10, _), (11, _), (12, _), (13, _), (14, _), (30, _), (34, _), (36, _)], [(10, _), (12, _), (1700, _), (1701, _), (14, _)]⟩) rfl ⟨rfl, rfl, rfl, rfl, rfl, rfl, rfl, rfl, rfl, rfl, rfl, rfl, rfl, trivial⟩ ⟨rfl, rfl, rfl, rfl, rfl, trivial⟩
      apply Dag.old (i := 0)
      case ha => rfl
      case ho => rfl
      case hb => rfl
      case hE =>
        intro w9
        refine AWl.put ((by exact R_load_pp rfl (.no rfl) rfl (.tmp rfl fun _ => rfl) rfl ty33 rfl rfl)) rfl ?_
        refine AWl.nil ?_
        exact Le.sub0 rfl ⟨rfl, rfl, rfl, rfl, rfl, rfl, rfl, rfl, rfl, rfl, rfl, rfl, rfl, trivial⟩ ⟨rfl, rfl, rfl, rfl, rfl, trivial⟩
      apply Dag.old (i := 2)
      case ha => rfl
      case ho => rfl
      case hb => rfl
      case hE =>
        intro w9
        refine AWl.put ((by exact R_load rfl (.no rfl) rfl (.tmp rfl fun _ => rfl) ty31 rfl rfl)) rfl ?_
        refine AWl.nil ?_
        exact Le.sub0 rfl ⟨rfl, rfl, rfl, rfl, rfl, rfl, rfl, rfl, rfl, rfl, rfl, rfl, rfl, trivial⟩ ⟨rfl, rfl, rfl, rfl, rfl, trivial⟩
      apply Dag.new (i := 11)
      case ha => rfl
      case ho => rfl
      case hb => rfl
      case hE =>
        intro w9
        refine AWl.add (R_alloc 14 rfl rfl rfl in33 rfl rfl rfl) rfl ?_
        refine AWl.nil ?_
        exact Le.sub0 (σ' := ⟨_, [(3, _), (4, _), (5, _), (6, _), (7, _), (10, _), (11, _), (12, _), (13, _), (14, _), (30, _), (34, _), (35, _), (37, _)], [(10, _), (12, _), (1700, _), (1701, _), (14, _)]⟩) rfl ⟨rfl, rfl, rfl, rfl, rfl, rfl, rfl, rfl, rfl, rfl, rfl, rfl, rfl, rfl, trivial⟩ ⟨rfl, rfl, rfl, rfl, rfl, trivial⟩
      apply Dag.old (i := 0)
      case ha => rfl
      case ho => rfl
      case hb => rfl
      case hE =>
        intro w9
        refine AWl.put ((by exact R_load_pp rfl (.no rfl) rfl (.tmp rfl fun _ => rfl) rfl ty33 rfl rfl)) rfl ?_
        refine AWl.nil ?_
        exact Le.sub0 rfl ⟨rfl, rfl, rfl, rfl, rfl, rfl, rfl, rfl, rfl, rfl, rfl, rfl, rfl, rfl, trivial⟩ ⟨rfl, rfl, rfl, rfl, rfl, trivial⟩
      apply Dag.old (i := 1)
      case ha => rfl
      case ho => rfl
      case hb => rfl
      case hE =>
        intro w9
        refine AWl.put ((by exact R_fieldAddr rfl (.no rfl) rfl (.tmp rfl fun _ => rfl) fl33_1)) rfl ?_
        refine AWl.nil ?_
        exact Le.sub0 rfl ⟨rfl, rfl, rfl, rfl, rfl, rfl, rfl, rfl, rfl, rfl, rfl, rfl, rfl, rfl, trivial⟩ ⟨rfl, rfl, rfl, rfl, rfl, trivial⟩
      apply Dag.old (i := 3)
      case ha => rfl
      case ho => rfl
      case hb => rfl
      case hE =>
        intro w9
        refine AWl.put (R_move rfl (.no rfl) rfl (.tmp rfl fun _ => rfl)) rfl ?_
        refine AWl.nil ?_
        exact Le.sub0 rfl ⟨rfl, rfl, rfl, rfl, rfl, rfl, rfl, rfl, rfl, rfl, rfl, rfl, rfl, rfl, trivial⟩ ⟨rfl, rfl, rfl, rfl, rfl, trivial⟩
      apply Dag.new (i := 4)
      case ha => rfl
      case ho => rfl
      case hb => rfl
      case hE =>
        intro w9
        refine AWl.put ((by exact R_indexAddr rfl (.no rfl) rfl (.tmp rfl fun _ => rfl) (.tmp rfl fun _ => rfl) Tryz.underlying31 ty72 (fun _ => ⟨by omega, (map_get hy)⟩))) rfl ?_
        refine AWl.nil ?_
        exact Le.sub0 (σ' := ⟨_, [(3, _), (4, _), (5, _), (6, _), (7, _), (10, _), (11, _), (12, _), (13, _), (30, _), (38, _)], [(10, _), (12, _), (1700, _), (1701, _)]⟩) rfl ⟨rfl, rfl, rfl, rfl, rfl, rfl, rfl, rfl, rfl, rfl, rfl, trivial⟩ ⟨rfl, rfl, rfl, rfl, trivial⟩
      apply Dag.new (i := 11)
      case ha => rfl
      case ho => rfl
      case hb => rfl
      case hE =>
        intro w9
        refine AWl.add (R_alloc 14 rfl rfl rfl in33 rfl rfl rfl) rfl ?_
        refine AWl.nil ?_
        exact Le.sub0 (σ' := ⟨_, [(3, _), (4, _), (5, _), (6, _), (7, _), (10, _), (11, _), (12, _), (13, _), (14, _), (30, _), (36, _), (37, _)], [(10, _), (12, _), (1700, _), (1701, _), (14, _)]⟩) rfl ⟨rfl, rfl, rfl, rfl, rfl, rfl, rfl, rfl, rfl, rfl, rfl, rfl, rfl, trivial⟩ ⟨rfl, rfl, rfl, rfl, rfl, trivial⟩
      apply Dag.old (i := 2)
      case ha => rfl
      case ho => rfl
      case hb => rfl
      case hE =>
        intro w9
        refine AWl.put ((by exact R_load rfl (.no rfl) rfl (.tmp rfl fun _ => rfl) ty31 rfl rfl)) rfl ?_
        refine AWl.nil ?_
        exact Le.sub0 rfl ⟨rfl, rfl, rfl, rfl, rfl, rfl, rfl, rfl, rfl, rfl, rfl, rfl, rfl, trivial⟩ ⟨rfl, rfl, rfl, rfl, rfl, trivial⟩
      apply Dag.old (i := 3)
      case ha => rfl
      case ho => rfl
      case hb => rfl
      case hE =>
        intro w9
        refine AWl.put (R_move rfl (.no rfl) rfl (.tmp rfl fun _ => rfl)) rfl ?_
        refine AWl.nil ?_
        exact Le.sub0 rfl ⟨rfl, rfl, rfl, rfl, rfl, rfl, rfl, rfl, rfl, rfl, rfl, rfl, rfl, trivial⟩ ⟨rfl, rfl, rfl, rfl, rfl, trivial⟩
      apply Dag.new (i := 4)
      case ha => rfl
      case ho => rfl
      case hb => rfl
      case hE =>
        intro w9
        refine AWl.put ((by exact R_indexAddr rfl (.no rfl) rfl (.tmp rfl fun _ => rfl) (.tmp rfl fun _ => rfl) Tryz.underlying31 ty72 (fun _ => ⟨by omega, (map_get hy)⟩))) rfl ?_
        refine AWl.nil ?_
        exact Le.sub0 (σ' := ⟨_, [(3, _), (4, _), (5, _), (6, _), (7, _), (10, _), (11, _), (12, _), (13, _), (30, _), (34, _), (38, _)], [(10, _), (12, _), (1700, _), (1701, _)]⟩) rfl ⟨rfl, rfl, rfl, rfl, rfl, rfl, rfl, rfl, rfl, rfl, rfl, rfl, trivial⟩ ⟨rfl, rfl, rfl, rfl, trivial⟩
      apply Dag.old (i := 0)
      case ha => rfl
      case ho => rfl
      case hb => rfl
      case hE =>
        intro w9
        refine AWl.put ((by exact R_load_pp rfl (.no rfl) rfl (.tmp rfl fun _ => rfl) rfl ty33 rfl rfl)) rfl ?_
        refine AWl.nil ?_
        exact Le.sub0 rfl ⟨rfl, rfl, rfl, rfl, rfl, rfl, rfl, rfl, rfl, rfl, rfl, rfl, trivial⟩ ⟨rfl, rfl, rfl, rfl, trivial⟩
      apply Dag.new (i := 11)
      case ha => rfl
      case ho => rfl
      case hb => rfl
      case hE =>
        intro w9
        refine AWl.add (R_alloc 14 rfl rfl rfl in33 rfl rfl rfl) rfl ?_
        refine AWl.nil ?_
        exact Le.sub0 (σ' := ⟨_, [(3, _), (4, _), (5, _), (6, _), (7, _), (10, _), (11, _), (12, _), (13, _), (14, _), (30, _), (34, _), (36, _), (37, _)], [(10, _), (12, _), (1700, _), (1701, _), (14, _)]⟩) rfl ⟨rfl, rfl, rfl, rfl, rfl, rfl, rfl, rfl, rfl, rfl, rfl, rfl, rfl, rfl, trivial⟩ ⟨rfl, rfl, rfl, rfl, rfl, trivial⟩
      apply Dag.old (i := 0)
      case ha => rfl
      case ho => rfl
      case hb => rfl
      case hE =>
        intro w9
        refine AWl.put ((by exact R_load_pp rfl (.no rfl) rfl (.tmp rfl fun _ => rfl) rfl ty33 rfl rfl)) rfl ?_
        refine AWl.nil ?_
        exact Le.sub0 rfl ⟨rfl, rfl, rfl, rfl, rfl, rfl, rfl, rfl, rfl, rfl, rfl, rfl, rfl, rfl, trivial⟩ ⟨rfl, rfl, rfl, rfl, rfl, trivial⟩
      apply Dag.old (i := 2)
      case ha => rfl
      case ho => rfl
      case hb => rfl
      case hE =>
        intro w9
        refine AWl.put ((by exact R_load rfl (.no rfl) rfl (.tmp rfl fun _ => rfl) ty31 rfl rfl)) rfl ?_
        refine AWl.nil ?_
        exact Le.sub0 rfl ⟨rfl, rfl, rfl, rfl, rfl, rfl, rfl, rfl, rfl, rfl, rfl, rfl, rfl, rfl, trivial⟩ ⟨rfl, rfl, rfl, rfl, rfl, trivial⟩
      apply Dag.old (i := 3)
      case ha => rfl
      case ho => rfl
      case hb => rfl
      case hE =>
        intro w9
        refine AWl.put (R_move rfl (.no rfl) rfl (.tmp rfl fun _ => rfl)) rfl ?_
        refine AWl.nil ?_
        exact Le.sub0 rfl ⟨rfl, rfl, rfl, rfl, rfl, rfl, rfl, rfl, rfl, rfl, rfl, rfl, rfl, rfl, trivial⟩ ⟨rfl, rfl, rfl, rfl, rfl, trivial⟩
      apply Dag.new (i := 5)
      case ha => rfl
      case ho => rfl
      case hb => rfl
      case hE =>
        intro w9
        refine AWl.put ((by exact R_fieldAddr rfl (.no rfl) rfl (.tmp rfl fun _ => rfl) fl72_0)) rfl ?_
        refine AWl.nil ?_
        exact Le.sub0 (σ' := ⟨_, [(3, _), (4, _), (5, _), (6, _), (7, _), (10, _), (11, _), (12, _), (13, _), (30, _), (39, _)], [(10, _), (12, _), (1700, _), (1701, _)]⟩) rfl ⟨rfl, rfl, rfl, rfl, rfl, rfl, rfl, rfl, rfl, rfl, rfl, trivial⟩ ⟨rfl, rfl, rfl, rfl, trivial⟩
      apply Dag.new (i := 11)
      case ha => rfl
      case ho => rfl
      case hb => rfl
      case hE =>
        intro w9
        refine AWl.add (R_alloc 14 rfl rfl rfl in33 rfl rfl rfl) rfl ?_
        refine AWl.nil ?_
        exact Le.sub0 (σ' := ⟨_, [(3, _), (4, _), (5, _), (6, _), (7, _), (10, _), (11, _), (12, _), (13, _), (14, _), (30, _), (38, _)], [(10, _), (12, _), (1700, _), (1701, _), (14, _)]⟩) rfl ⟨rfl, rfl, rfl, rfl, rfl, rfl, rfl, rfl, rfl, rfl, rfl, rfl, trivial⟩ ⟨rfl, rfl, rfl, rfl, rfl, trivial⟩
      apply Dag.old (i := 4)
      case ha => rfl
      case ho => rfl
      case hb => rfl
      case hE =>
        intro w9
        refine AWl.put ((by exact R_indexAddr rfl (.no rfl) rfl (.tmp rfl fun _ => rfl) (.tmp rfl fun _ => rfl) Tryz.underlying31 ty72 (fun _ => ⟨by omega, (map_get hy)⟩))) rfl ?_
        refine AWl.nil ?_
        exact Le.sub0 rfl ⟨rfl, rfl, rfl, rfl, rfl, rfl, rfl, rfl, rfl, rfl, rfl, rfl, trivial⟩ ⟨rfl, rfl, rfl, rfl, rfl, trivial⟩
      apply Dag.new (i := 5)
      case ha => rfl
      case ho => rfl
      case hb => rfl
      case hE =>
        intro w9
        refine AWl.put ((by exact R_fieldAddr rfl (.no rfl) rfl (.tmp rfl fun _ => rfl) fl72_0)) rfl ?_
        refine AWl.nil ?_
        exact Le.sub0 (σ' := ⟨_, [(3, _), (4, _), (5, _), (6, _), (7, _), (10, _), (11, _), (12, _), (13, _), (30, _), (34, _), (39, _)], [(10, _), (12, _), (1700, _), (1701, _)]⟩) rfl ⟨rfl, rfl, rfl, rfl, rfl, rfl, rfl, rfl, rfl, rfl, rfl, rfl, trivial⟩ ⟨rfl, rfl, rfl, rfl, trivial⟩
      apply Dag.old (i := 0)
      case ha => rfl
      case ho => rfl
      case hb => rfl
      case hE =>
        intro w9
        refine AWl.put ((by exact R_load_pp rfl (.no rfl) rfl (.tmp rfl fun _ => rfl) rfl ty33 rfl rfl)) rfl ?_
        refine AWl.nil ?_
        exact Le.sub0 rfl ⟨rfl, rfl, rfl, rfl, rfl, rfl, rfl, rfl, rfl, rfl, rfl, rfl, trivial⟩ ⟨rfl, rfl, rfl, rfl, trivial⟩
      apply Dag.new (i := 11)
      case ha => rfl
      case ho => rfl
      case hb => rfl
      case hE =>
        intro w9
        refine AWl.add (R_alloc 14 rfl rfl rfl in33 rfl rfl rfl) rfl ?_
        refine AWl.nil ?_
        exact Le.sub0 (σ' := ⟨_, [(3, _), (4, _), (5, _), (6, _), (7, _), (10, _), (11, _), (12, _), (13, _), (14, _), (30, _), (34, _), (38, _)], [(10, _), (12, _), (1700, _), (1701, _), (14, _)]⟩) rfl ⟨rfl, rfl, rfl, rfl, rfl, rfl, rfl, rfl, rfl, rfl, rfl, rfl, rfl, trivial⟩ ⟨rfl, rfl, rfl, rfl, rfl, trivial⟩
      apply Dag.old (i := 0)
      case ha => rfl
      case ho => rfl
      case hb => rfl
      case hE =>
        intro w9
        refine AWl.put ((by exact R_load_pp rfl (.no rfl) rfl (.tmp rfl fun _ => rfl) rfl ty33 rfl rfl)) rfl ?_
        refine AWl.nil ?_
        exact Le.sub0 rfl ⟨rfl, rfl, rfl, rfl, rfl, rfl, rfl, rfl, rfl, rfl, rfl, rfl, rfl, trivial⟩ ⟨rfl, rfl, rfl, rfl, rfl, trivial⟩
      apply Dag.old (i := 4)
      case ha => rfl
      case ho => rfl
      case hb => rfl
      case hE =>
        intro w9
        refine AWl.put ((by exact R_indexAddr rfl (.no rfl) rfl (.tmp rfl fun _ => rfl) (.tmp rfl fun _ => rfl) Tryz.underlying31 ty72 (fun _ => ⟨by omega, (map_get hy)⟩))) rfl ?_
        refine AWl.nil ?_
        exact Le.sub0 rfl ⟨rfl, rfl, rfl, rfl, rfl, rfl, rfl, rfl, rfl, rfl, rfl, rfl, rfl, trivial⟩ ⟨rfl, rfl, rfl, rfl, rfl, trivial⟩
      apply Dag.new (i := 6)
      case ha => rfl
      case ho => rfl
      case hb => rfl
      case hE =>
        intro w9
        refine AWl.put ((by exact R_load rfl (.no rfl) rfl (.tmp rfl fun _ => rfl) ty3 rfl rfl)) rfl ?_
        refine AWl.nil ?_
        exact Le.sub0 (σ' := ⟨_, [(3, _), (4, _), (5, _), (6, _), (7, _), (10, _), (11, _), (12, _), (13, _), (30, _), (40, _)], [(10, _), (12, _), (1700, _), (1701, _)]⟩) rfl ⟨rfl, rfl, rfl, rfl, rfl, rfl, rfl, rfl, rfl, rfl, rfl, trivial⟩ ⟨rfl, rfl, rfl, rfl, trivial⟩
      apply Dag.new (i := 11)
      case ha => rfl
      case ho => rfl
      case hb => rfl
      case hE =>
        intro w9
        refine AWl.add (R_alloc 14 rfl rfl rfl in33 rfl rfl rfl) rfl ?_
        refine AWl.nil ?_
        exact Le.sub0 (σ' := ⟨_, [(3, _), (4, _), (5, _), (6, _), (7, _), (10, _), (11, _), (12, _), (13, _), (14, _), (30, _), (39, _)], [(10, _), (12, _), (1700, _), (1701, _), (14, _)]⟩) rfl ⟨rfl, rfl, rfl, rfl, rfl, rfl, rfl, rfl, rfl, rfl, rfl, rfl, trivial⟩ ⟨rfl, rfl, rfl, rfl, rfl, trivial⟩
      apply Dag.old (i := 5)
      case ha => rfl
      case ho => rfl
      case hb => rfl
      case hE =>
        intro w9
        refine AWl.put ((by exact R_fieldAddr rfl (.no rfl) rfl (.tmp rfl fun _ => rfl) fl72_0)) rfl ?_
        refine AWl.nil ?_
        exact Le.sub0 rfl ⟨rfl, rfl, rfl, rfl, rfl, rfl, rfl, rfl, rfl, rfl, rfl, rfl, trivial⟩ ⟨rfl, rfl, rfl, rfl, rfl, trivial⟩
      apply Dag.new (i := 6)
      case ha => rfl
      case ho => rfl
      case hb => rfl
      case hE =>
        intro w9
        refine AWl.put ((by exact R_load rfl (.no rfl) rfl (.tmp rfl fun _ => rfl) ty3 rfl rfl)) rfl ?_
        refine AWl.nil ?_
        exact Le.sub0 (σ' := ⟨_, [(3, _), (4, _), (5, _), (6, _), (7, _), (10, _), (11, _), (12, _), (13, _), (30, _), (34, _), (40, _)], [(10, _), (12, _), (1700, _), (1701, _)]⟩) rfl ⟨rfl, rfl, rfl, rfl, rfl, rfl, rfl, rfl, rfl, rfl, rfl, rfl, trivial⟩ ⟨rfl, rfl, rfl, rfl, trivial⟩
      apply Dag.old (i := 0)
      case ha => rfl
      case ho => rfl
      case hb => rfl
      case hE =>
        intro w9
        refine AWl.put ((by exact R_load_pp rfl (.no rfl) rfl (.tmp rfl fun _ => rfl) rfl ty33 rfl rfl)) rfl ?_
        refine AWl.nil ?_
        exact Le.sub0 rfl ⟨rfl, rfl, rfl, rfl, rfl, rfl, rfl, rfl, rfl, rfl, rfl, rfl, trivial⟩ ⟨rfl, rfl, rfl, rfl, trivial⟩
      apply Dag.new (i := 11)
      case ha => rfl
      case ho => rfl
      case hb => rfl
      case hE =>
        intro w9
        refine AWl.add (R_alloc 14 rfl rfl rfl in33 rfl rfl rfl) rfl ?_
        refine AWl.nil ?_
        exact Le.sub0 (σ' := ⟨_, [(3, _), (4, _), (5, _), (6, _), (7, _), (10, _), (11, _), (12, _), (13, _), (14, _), (30, _), (34, _), (39, _)], [(10, _), (12, _), (1700, _), (1701, _), (14, _)]⟩) rfl ⟨rfl, rfl, rfl, rfl, rfl, rfl, rfl, rfl, rfl, rfl, rfl, rfl, rfl, trivial⟩ ⟨rfl, rfl, rfl, rfl, rfl, trivial⟩
      apply Dag.old (i := 0)
      case ha => rfl
      case ho => rfl
      case hb => rfl
      case hE =>
        intro w9
        refine AWl.put ((by exact R_load_pp rfl (.no rfl) rfl (.tmp rfl fun _ => rfl) rfl ty33 rfl rfl)) rfl ?_
        refine AWl.nil ?_
        exact Le.sub0 rfl ⟨rfl, rfl, rfl, rfl, rfl, rfl, rfl, rfl, rfl, rfl, rfl, rfl, rfl, trivial⟩ ⟨rfl, rfl, rfl, rfl, rfl, trivial⟩
      apply Dag.old (i := 5)
      case ha => rfl
      case ho => rfl
      case hb => rfl
      case hE =>
        intro w9
        refine AWl.put ((by exact R_fieldAddr rfl (.no rfl) rfl (.tmp rfl fun _ => rfl) fl72_0)) rfl ?_
        refine AWl.nil ?_
        exact Le.sub0 rfl ⟨rfl, rfl, rfl, rfl, rfl, rfl, rfl, rfl, rfl, rfl, rfl, rfl, rfl, trivial⟩ ⟨rfl, rfl, rfl, rfl, rfl, trivial⟩
      apply Dag.new (i := 11)
      case ha => rfl
      case ho => rfl
      case hb => rfl
      case hE =>
        intro w9
        refine AWl.add (R_alloc 14 rfl rfl rfl in33 rfl rfl rfl) rfl ?_
        refine AWl.nil ?_
        exact Le.sub0 (σ' := ⟨_, [(3, _), (4, _), (5, _), (6, _), (7, _), (10, _), (11, _), (12, _), (13, _), (14, _), (30, _), (40, _)], [(10, _), (12, _), (1700, _), (1701, _), (14, _)]⟩) rfl ⟨rfl, rfl, rfl, rfl, rfl, rfl, rfl, rfl, rfl, rfl, rfl, rfl, trivial⟩ ⟨rfl, rfl, rfl, rfl, rfl, trivial⟩
      apply Dag.old (i := 6)
      case ha => rfl
      case ho => rfl
      case hb => rfl
      case hE =>
        intro w9
        refine AWl.put ((by exact R_load rfl (.no rfl) rfl (.tmp rfl fun _ => rfl) ty3 rfl rfl)) rfl ?_
        refine AWl.nil ?_
        exact Le.sub0 rfl ⟨rfl, rfl, rfl, rfl, rfl, rfl, rfl, rfl, rfl, rfl, rfl, rfl, trivial⟩ ⟨rfl, rfl, rfl, rfl, rfl, trivial⟩
      apply Dag.new (i := 7)
      case ha => rfl
      case ho => rfl
      case hb => rfl
      case hE =>
        intro w9
        refine AWl.adds (R_call 4100 (specDeleteEdge h e.ID (by omega) (by omega)) rfl rfl rfl (.cons (.tmp rfl fun _ => rfl) rfl (.cons (.tmp rfl fun _ => rfl) rfl .nil)) rfl rfl) rfl ?_
        refine AWl.nil ?_
        exact Le.sub0 (σ' := ⟨_, [(3, _), (4, _), (5, _), (6, _), (7, _), (10, _), (11, _), (12, _), (13, _), (30, _), (41, _)], [(10, _), (12, _), (1700, _), (1701, _), (4100, _), (4101, _)]⟩) rfl ⟨rfl, rfl, rfl, rfl, rfl, rfl, rfl, rfl, rfl, rfl, rfl, trivial⟩ ⟨rfl, rfl, rfl, rfl, rfl, rfl, trivial⟩
      apply Dag.new (i := 11)
      case ha => rfl
      case ho => rfl
      case hb => rfl
      case hE =>
        intro w9
        refine AWl.add (R_alloc 14 rfl rfl rfl in33 rfl rfl rfl) rfl ?_
        refine AWl.nil ?_
        exact Le.sub0 (σ' := ⟨_, [(3, _), (4, _), (5, _), (6, _), (7, _), (10, _), (11, _), (12, _), (13, _), (14, _), (30, _), (34, _), (40, _)], [(10, _), (12, _), (1700, _), (1701, _), (14, _)]⟩) rfl ⟨rfl, rfl, rfl, rfl, rfl, rfl, rfl, rfl, rfl, rfl, rfl, rfl, rfl, trivial⟩ ⟨rfl, rfl, rfl, rfl, rfl, trivial⟩
      apply Dag.old (i := 0)
      case ha => rfl
      case ho => rfl
      case hb => rfl
      case hE =>
        intro w9
        refine AWl.put ((by exact R_load_pp rfl (.no rfl) rfl (.tmp rfl fun _ => rfl) rfl ty33 rfl rfl)) rfl ?_
        refine AWl.nil ?_
        exact Le.sub0 rfl ⟨rfl, rfl, rfl, rfl, rfl, rfl, rfl, rfl, rfl, rfl, rfl, rfl, rfl, trivial⟩ ⟨rfl, rfl, rfl, rfl, rfl, trivial⟩
      apply Dag.old (i := 6)
      case ha => rfl
      case ho => rfl
      case hb => rfl
      case hE =>
        intro w9
        refine AWl.put ((by exact R_load rfl (.no rfl) rfl (.tmp rfl fun _ => rfl) ty3 rfl rfl)) rfl ?_
        refine AWl.nil ?_
        exact Le.sub0 rfl ⟨rfl, rfl, rfl, rfl, rfl, rfl, rfl, rfl, rfl, rfl, rfl, rfl, rfl, trivial⟩ ⟨rfl, rfl, rfl, rfl, rfl, trivial⟩
      apply Dag.new (i := 8)
      case ha => rfl
      case ho => rfl
      case hb => rfl
      case hE =>
        intro w9
        refine AWl.put (R_movet rfl (.no rfl) rfl rfl fun _ => rfl) rfl ?_
        refine AWl.nil ?_
        exact Le.sub0 (σ' := ⟨_, [(3, _), (4, _), (5, _), (6, _), (7, _), (10, _), (11, _), (12, _), (13, _), (30, _), (33, _)], [(10, _), (12, _), (1700, _), (1701, _), (4100, _), (4101, _)]⟩) rfl ⟨rfl, rfl, rfl, rfl, rfl, rfl, rfl, rfl, rfl, rfl, rfl, trivial⟩ ⟨rfl, rfl, rfl, rfl, rfl, rfl, trivial⟩
      apply Dag.new (i := 11)
      case ha => rfl
      case ho => rfl
      case hb => rfl
      case hE =>
        intro w9
        refine AWl.add (R_alloc 14 rfl rfl rfl in33 rfl rfl rfl) rfl ?_
        refine AWl.nil ?_
        exact Le.sub0 (σ' := ⟨_, [(3, _), (4, _), (5, _), (6, _), (7, _), (10, _), (11, _), (12, _), (13, _), (14, _), (30, _), (41, _)], [(10, _), (12, _), (1700, _), (1701, _), (4100, _), (4101, _), (14, _)]⟩) rfl ⟨rfl, rfl, rfl, rfl, rfl, rfl, rfl, rfl, rfl, rfl, rfl, rfl, trivial⟩ ⟨rfl, rfl, rfl, rfl, rfl, rfl, rfl, trivial⟩
      apply Dag.old (i := 7)
      case ha => rfl
      case ho => rfl
      case hb => rfl
      case hE =>
        intro w9
        refine AWl.adds (R_call 4100 (specDeleteEdge h e.ID (by omega) (by omega)) rfl rfl rfl (.cons (.tmp rfl fun _ => rfl) rfl (.cons (.tmp rfl fun _ => rfl) rfl .nil)) rfl rfl) rfl ?_
        refine AWl.nil ?_
        exact Le.sub0 rfl ⟨rfl, rfl, rfl, rfl, rfl, rfl, rfl, rfl, rfl, rfl, rfl, rfl, trivial⟩ ⟨rfl, rfl, rfl, rfl, rfl, rfl, rfl, trivial⟩
      apply Dag.new (i := 9)
      case ha => rfl
      case ho => rfl
      case hb => rfl
      case hE =>
        intro w9
        refine AWl.put (R_extract rfl (.no rfl) rfl rfl (fun _ => rfl) rfl) rfl ?_
        refine AWl.nil ?_
        exact Le.sub0 (σ' := ⟨_, [(3, _), (4, _), (5, _), (6, _), (7, _), (10, _), (11, _), (12, _), (13, _), (30, _), (33, _), (42, _)], [(10, _), (12, _), (1700, _), (1701, _), (4100, _), (4101, _)]⟩) rfl ⟨rfl, rfl, rfl, rfl, rfl, rfl, rfl, rfl, rfl, rfl, rfl, rfl, trivial⟩ ⟨rfl, rfl, rfl, rfl, rfl, rfl, trivial⟩
      apply Dag.new (i := 10)
      case ha => rfl
      case ho => rfl
      case hb => rfl
      case hE =>
        intro w9
        refine AWl.put (R_extract rfl (.no rfl) rfl rfl (fun _ => rfl) rfl) rfl ?_
        refine AWl.nil ?_
        exact Le.sub0 (σ' := ⟨_, [(3, _), (4, _), (5, _), (6, _), (7, _), (10, _), (11, _), (12, _), (13, _), (30, _), (33, _), (43, _)], [(10, _), (12, _), (1700, _), (1701, _), (4100, _), (4101, _)]⟩) rfl ⟨rfl, rfl, rfl, rfl, rfl, rfl, rfl, rfl, rfl, rfl, rfl, rfl, trivial⟩ ⟨rfl, rfl, rfl, rfl, rfl, rfl, trivial⟩
      apply Dag.new (i := 11)
      case ha => rfl
      case ho => rfl
      case hb => rfl
      case hE =>
        intro w9
        refine AWl.add (R_alloc 14 rfl rfl rfl in33 rfl rfl rfl) rfl ?_
        refine AWl.nil ?_
        exact Le.sub0 (σ' := ⟨_, [(3, _), (4, _), (5, _), (6, _), (7, _), (10, _), (11, _), (12, _), (13, _), (14, _), (30, _), (33, _)], [(10, _), (12, _), (1700, _), (1701, _), (4100, _), (4101, _), (14, _)]⟩) rfl ⟨rfl, rfl, rfl, rfl, rfl, rfl, rfl, rfl, rfl, rfl, rfl, rfl, trivial⟩ ⟨rfl, rfl, rfl, rfl, rfl, rfl, rfl, trivial⟩
      apply Dag.old (i := 8)
      case ha => rfl
      case ho => rfl
      case hb => rfl
      case hE =>
        intro w9
        refine AWl.put (R_movet rfl (.no rfl) rfl rfl fun _ => rfl) rfl ?_
        refine AWl.nil ?_
        exact Le.sub0 rfl ⟨rfl, rfl, rfl, rfl, rfl, rfl, rfl, rfl, rfl, rfl, rfl, rfl, trivial⟩ ⟨rfl, rfl, rfl, rfl, rfl, rfl, rfl, trivial⟩
      apply Dag.new (i := 10)
      case ha => rfl
      case ho => rfl
      case hb => rfl
      case hE =>
        intro w9
        refine AWl.put (R_extract rfl (.no rfl) rfl rfl (fun _ => rfl) rfl) rfl ?_
        refine AWl.nil ?_
        exact Le.sub0 (σ' := ⟨_, [(3, _), (4, _), (5, _), (6, _), (7, _), (10, _), (11, _), (12, _), (13, _), (30, _), (42, _), (43, _)], [(10, _), (12, _), (1700, _), (1701, _), (4100, _), (4101, _)]⟩) rfl ⟨rfl, rfl, rfl, rfl, rfl, rfl, rfl, rfl, rfl, rfl, rfl, rfl, trivial⟩ ⟨rfl, rfl, rfl, rfl, rfl, rfl, trivial⟩
      apply Dag.old (i := 9)
      case ha => rfl
      case ho => rfl
      case hb => rfl
      case hE =>
        intro w9
        refine AWl.put (R_extract rfl (.no rfl) rfl rfl (fun _ => rfl) rfl) rfl ?_
        refine AWl.nil ?_
        exact Le.sub0 rfl ⟨rfl, rfl, rfl, rfl, rfl, rfl, rfl, rfl, rfl, rfl, rfl, rfl, trivial⟩ ⟨rfl, rfl, rfl, rfl, rfl, rfl, trivial⟩
      apply Dag.new (i := 11)
      case ha => rfl
      case ho => rfl
      case hb => rfl
      case hE =>
        intro w9
        refine AWl.add (R_alloc 14 rfl rfl rfl in33 rfl rfl rfl) rfl ?_
        refine AWl.nil ?_
        exact Le.sub0 (σ' := ⟨_, [(3, _), (4, _), (5, _), (6, _), (7, _), (10, _), (11, _), (12, _), (13, _), (14, _), (30, _), (33, _), (42, _)], [(10, _), (12, _), (1700, _), (1701, _), (4100, _), (4101, _), (14, _)]⟩) rfl ⟨rfl, rfl, rfl, rfl, rfl, rfl, rfl, rfl, rfl, rfl, rfl, rfl, rfl, trivial⟩ ⟨rfl, rfl, rfl, rfl, rfl, rfl, rfl, trivial⟩
      apply Dag.old (i := 9)
      case ha => rfl
      case ho => rfl
      case hb => rfl
      case hE =>
        intro w9
        refine AWl.put (R_extract rfl (.no rfl) rfl rfl (fun _ => rfl) rfl) rfl ?_
        refine AWl.nil ?_
        exact Le.sub0 rfl ⟨rfl, rfl, rfl, rfl, rfl, rfl, rfl, rfl, rfl, rfl, rfl, rfl, rfl, trivial⟩ ⟨rfl, rfl, rfl, rfl, rfl, rfl, rfl, trivial⟩
      apply Dag.new (i := 11)
      case ha => rfl
      case ho => rfl
      case hb => rfl
      case hE =>
        intro w9
        refine AWl.add (R_alloc 14 rfl rfl rfl in33 rfl rfl rfl) rfl ?_
        refine AWl.nil ?_
        exact Le.sub0 (σ' := ⟨_, [(3, _), (4, _), (5, _), (6, _), (7, _), (10, _), (11, _), (12, _), (13, _), (14, _), (30, _), (33, _), (43, _)], [(10, _), (12, _), (1700, _), (1701, _), (4100, _), (4101, _), (14, _)]⟩) rfl ⟨rfl, rfl, rfl, rfl, rfl, rfl, rfl, rfl, rfl, rfl, rfl, rfl, rfl, trivial⟩ ⟨rfl, rfl, rfl, rfl, rfl, rfl, rfl, trivial⟩
      apply Dag.old (i := 10)
      case ha => rfl
      case ho => rfl
      case hb => rfl
      case hE =>
        intro w9
        refine AWl.put (R_extract rfl (.no rfl) rfl rfl (fun _ => rfl) rfl) rfl ?_
        refine AWl.nil ?_
        exact Le.sub0 rfl ⟨rfl, rfl, rfl, rfl, rfl, rfl, rfl, rfl, rfl, rfl, rfl, rfl, rfl, trivial⟩ ⟨rfl, rfl, rfl, rfl, rfl, rfl, rfl, trivial⟩
      apply Dag.new (i := 11)
      case ha => rfl
      case ho => rfl
      case hb => rfl
      case hE =>
        intro w9
        refine AWl.add (R_alloc 14 rfl rfl rfl in33 rfl rfl rfl) rfl ?_
        refine AWl.nil ?_
        exact Le.sub0 (σ' := ⟨_, [(3, _), (4, _), (5, _), (6, _), (7, _), (10, _), (11, _), (12, _), (13, _), (14, _), (30, _), (42, _), (43, _)], [(10, _), (12, _), (1700, _), (1701, _), (4100, _), (4101, _), (14, _)]⟩) rfl ⟨rfl, rfl, rfl, rfl, rfl, rfl, rfl, rfl, rfl, rfl, rfl, rfl, rfl, trivial⟩ ⟨rfl, rfl, rfl, rfl, rfl, rfl, rfl, trivial⟩
      apply Dag.old (i := 9)
      case ha => rfl
      case ho => rfl
      case hb => rfl
      case hE =>
        intro w9
        refine AWl.put (R_extract rfl (.no rfl) rfl rfl (fun _ => rfl) rfl) rfl ?_
        refine AWl.nil ?_
        exact Le.sub0 rfl ⟨rfl, rfl, rfl, rfl, rfl, rfl, rfl, rfl, rfl, rfl, rfl, rfl, rfl, trivial⟩ ⟨rfl, rfl, rfl, rfl, rfl, rfl, rfl, trivial⟩
      apply Dag.old (i := 10)
      case ha => rfl
      case ho => rfl
      case hb => rfl
      case hE =>
        intro w9
        refine AWl.put (R_extract rfl (.no rfl) rfl rfl (fun _ => rfl) rfl) rfl ?_
        refine AWl.nil ?_
        exact Le.sub0 rfl ⟨rfl, rfl, rfl, rfl, rfl, rfl, rfl, rfl, rfl, rfl, rfl, rfl, rfl, trivial⟩ ⟨rfl, rfl, rfl, rfl, rfl, rfl, rfl, trivial⟩
      apply Dag.new (i := 12)
      case ha => rfl
      case ho => rfl
      case hb => rfl
      case hE =>
        intro w9
        refine AWl.chgb (R_store_pb rfl rfl rfl (.tmp rfl fun _ => rfl) (.tmp rfl fun _ => rfl) rfl ty33 rfl rfl rfl (by kernel_rfl) rfl) ?_
        refine AWl.nil ?_
        exact Le.sub0 (σ' := ⟨_, [(3, _), (4, _), (5, _), (6, _), (7, _), (10, _), (11, _), (12, _), (13, _), (14, _), (30, _), (33, _)], [(10, _), (12, _), (1700, _), (1701, _), (4100, _), (4101, _), (14, _)]⟩) rfl ⟨rfl, rfl, rfl, rfl, rfl, rfl, rfl, rfl, rfl, rfl, rfl, rfl, trivial⟩ ⟨rfl, rfl, rfl, rfl, rfl, rfl, rfl, trivial⟩
      apply Dag.new (i := 12)
      case ha => rfl
      case ho => rfl
      case hb => rfl
      case hE =>
        intro w9
        refine AWl.chgb (R_store_pb rfl rfl rfl (.tmp rfl fun _ => rfl) (.tmp rfl fun _ => rfl) rfl ty33 rfl rfl rfl (by kernel_rfl) rfl) ?_
        refine AWl.nil ?_
        exact Le.sub0 (σ' := ⟨_, [(3, _), (4, _), (5, _), (6, _), (7, _), (10, _), (11, _), (12, _), (13, _), (14, _), (30, _), (43, _)], [(10, _), (12, _), (1700, _), (1701, _), (4100, _), (4101, _), (14, _)]⟩) rfl ⟨rfl, rfl, rfl, rfl, rfl, rfl, rfl, rfl, rfl, rfl, rfl, rfl, trivial⟩ ⟨rfl, rfl, rfl, rfl, rfl, rfl, rfl, trivial⟩
      apply Dag.old (i := 10)
      case ha => rfl
      case ho => rfl
      case hb => rfl
      case hE =>
        intro w9
        refine AWl.put (R_extract rfl (.no rfl) rfl rfl (fun _ => rfl) rfl) rfl ?_
        refine AWl.nil ?_
        exact Le.sub0 rfl ⟨rfl, rfl, rfl, rfl, rfl, rfl, rfl, rfl, rfl, rfl, rfl, rfl, trivial⟩ ⟨rfl, rfl, rfl, rfl, rfl, rfl, rfl, trivial⟩
      apply Dag.new (i := 13)
      case ha => rfl
      case ho => rfl
      case hb => rfl
      case hE =>
        intro w9
        refine AWl.put (R_assign rfl (.no rfl) rfl (.tmp rfl fun _ => rfl)) rfl ?_
        refine AWl.nil ?_
        exact Le.sub0 (σ' := ⟨_, [(3, _), (4, _), (5, _), (6, _), (7, _), (10, _), (11, _), (12, _), (13, _), (14, _), (30, _)], [(10, _), (12, _), (1700, _), (1701, _), (4100, _), (4101, _), (14, _)]⟩) rfl ⟨rfl, rfl, rfl, rfl, rfl, rfl, rfl, rfl, rfl, rfl, rfl, trivial⟩ ⟨rfl, rfl, rfl, rfl, rfl, rfl, rfl, trivial⟩
      refine Dag.fin (k := 48) rfl ?_
      refine AWl.nil ?_
      refine AW.seq ?_
      refine AW.region ?_
      refine AWl.put ((by exact R_load_pp rfl (.no rfl) rfl (.tmp rfl fun _ => rfl) rfl ty33 rfl rfl)) rfl ?_
      refine AWl.put ((by exact R_load rfl (.no rfl) rfl (.tmp rfl fun _ => rfl) ty39 rfl rfl)) rfl ?_
      refine AWl.put ((by exact R_load rfl (.no rfl) rfl (.tmp rfl fun _ => rfl) ty39 rfl rfl)) rfl ?_
      refine AWl.put (R_move rfl (.no rfl) rfl (.tmp rfl fun _ => rfl)) rfl ?_
      refine AWl.put (R_move rfl (.no rfl) rfl (.tmp rfl fun _ => rfl)) rfl ?_
      refine AWl.put (R_callz (FnT.fr (specIsRefutation _ _ _ _ _)) rfl (.no rfl) rfl (.cons (.tmp rfl fun _ => rfl) rfl (.cons (.tmp rfl fun _ => rfl) rfl (.cons (.tmp rfl fun _ => rfl) rfl (.cons (.tmp rfl fun _ => rfl) rfl (.cons (.tmp rfl fun _ => rfl) rfl .nil)))))) rfl ?_
      refine AWl.nil ?_
      refine AW.cond (.tmp rfl fun _ => rfl) (fun h49 => ?_) (fun h49 => ?_)
      · skip
        try simp at h49
        have hyes : refut (delG h e.ID).1 a b x y = true := by simpa using h49
        refine AW.le (Le.sw 1700 4100 _) ?_
        refine AW.le (Le.sw 1701 4101 _) ?_
        refine AW.le (σ' := ⟨_, [(3, _), (4, _), (5, _), (6, _), (7, _), (10, _), (11, _), (12, _), (13, _), (14, _)], [(10, _), (12, _), (4100, _), (4101, _), (1700, _), (1701, _), (14, _)]⟩) (Le.sub0 rfl ⟨rfl, rfl, rfl, rfl, rfl, rfl, rfl, rfl, rfl, rfl, trivial⟩ ⟨rfl, rfl, rfl, rfl, rfl, rfl, rfl, trivial⟩) ?_
        refine AW.region ?_
        refine AWl.put ((by exact R_load_pp rfl (.no rfl) rfl (.tmp rfl fun _ => rfl) rfl ty33 rfl rfl)) rfl ?_
        refine AWl.chgb (R_store_pb rfl rfl rfl (.tmp rfl fun _ => rfl) (.tmp rfl fun _ => rfl) rfl ty33 rfl rfl rfl (by kernel_rfl) rfl) ?_
        refine AWl.nil ?_
        refine AW.region ?_
        refine AWl.put (R_move rfl (.no rfl) rfl (.tmp rfl fun _ => rfl)) rfl ?_
        refine AWl.put (R_add rfl (.no rfl) rfl (.tmp rfl fun _ => rfl) (.const rfl) (fun _ => by omega)) rfl ?_
        refine AWl.put (R_assign rfl (.no rfl) rfl (.tmp rfl fun _ => rfl)) rfl ?_
        refine AWl.nil ?_
        repeat (with_reducible refine BlockQ.nor ?_)
        refine Round2.next (k + 1) ((delG h e.ID).1) ⟨⟨by omega, by have := delG_len h e.ID; omega⟩, (by rw [shrTo_succ a b x y hy, ← he, shrStep_yes hyes])⟩ (by omega) (Le.sub0 rfl ⟨rfl, rfl, rfl, rfl, rfl, rfl, rfl, rfl, rfl, trivial⟩ ⟨(by rfl), (by rfl), (by rfl), (by rfl), trivial⟩)
      · skip
        try simp at h49
        have hno : refut (delG h e.ID).1 a b x y = false := by simpa using h49
        refine AW.skip ?_
        refine AW.le (σ' := ⟨_, [(3, _), (4, _), (5, _), (6, _), (7, _), (10, _), (11, _), (12, _), (13, _), (14, _)], [(10, _), (12, _), (1700, _), (1701, _), (4100, _), (4101, _), (14, _)]⟩) (Le.sub0 rfl ⟨rfl, rfl, rfl, rfl, rfl, rfl, rfl, rfl, rfl, rfl, trivial⟩ ⟨rfl, rfl, rfl, rfl, rfl, rfl, rfl, trivial⟩) ?_
        refine AW.region ?_
        refine AWl.put (R_move rfl (.no rfl) rfl (.tmp rfl fun _ => rfl)) rfl ?_
        refine AWl.put (R_add rfl (.no rfl) rfl (.tmp rfl fun _ => rfl) (.const rfl) (fun _ => by omega)) rfl ?_
        refine AWl.put (R_assign rfl (.no rfl) rfl (.tmp rfl fun _ => rfl)) rfl ?_
        refine AWl.nil ?_
        repeat (with_reducible refine BlockQ.nor ?_)
        refine Round2.next (k + 1) (h) ⟨⟨by omega, by omega⟩, (by rw [shrTo_succ a b x y hy, ← he, shrStep_no (.inr hno)])⟩ (by omega) (Le.sub0 rfl ⟨rfl, rfl, rfl, rfl, rfl, rfl, rfl, rfl, rfl, trivial⟩ ⟨(by rfl), (by rfl), (by rfl), (by rfl), trivial⟩)
    · skip
      try simp at h30
      refine AW.exit ?_
      refine AW.seq ?_
      refine AW.region ?_
      refine AWl.put ((by exact R_load_pp rfl (.no rfl) rfl (.tmp rfl fun _ => rfl) rfl ty33 rfl rfl)) rfl ?_
      refine AWl.chgb (R_store_pb rfl rfl rfl (.tmp rfl fun _ => rfl) (.tmp rfl fun _ => rfl) rfl ty33 rfl rfl rfl (by kernel_rfl) rfl) ?_
      refine AWl.le (σ' := ⟨_, [(3, _), (4, _), (5, _), (6, _), (7, _), (10, _), (11, _), (12, _), (13, _), (30, _)], [(10, _), (12, _), (1700, _), (1701, _)]⟩) (Le.sub0 rfl ⟨rfl, rfl, rfl, rfl, rfl, rfl, rfl, rfl, rfl, rfl, trivial⟩ ⟨rfl, rfl, rfl, rfl, trivial⟩) ?_
      refine AWl.put (R_assign rfl (.no rfl) rfl (.const rfl)) rfl ?_
      refine AWl.nil ?_
      refine AW.ret ?_
      refine Res.many rfl (.cell rfl rfl ty33 rfl rfl (.tmp rfl .nil)) rfl ?_ (by simp)
      unfold shrinkR; rw [if_pos (by simpa using h24), he, show k = g.Edges.length by omega]; rfl
end Go.Proofs.YtbfejakbaijmhaaGreat
