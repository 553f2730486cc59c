/- Merged texts. -/
import Derived.Test.YtoealglkenhphaaGreatAbsOxa
import Derived.Test.YtoealglkenhphaaGreatB34xa
set_option linter.unusedVariables false
set_option linter.unusedSimpArgs false
namespace Go.Q
open Go.RowKit
section
variable {P : Program} {ops : Array Oper} {o : Oper} {σ : St} {q : Bool}
end
end Go.Q
set_option linter.unusedVariables false
set_option linter.unusedSimpArgs false
set_option maxHeartbeats 1000000
set_option maxRecDepth 100000
namespace Go.Q
open Go.D
/-- Numbers that rise from each to the next rise throughout. -/
theorem rise_all {l : List TEdge} (h : ∀ k x y, l[k]? = some x → l[k + 1]? = some y → x.ID < y.ID) : ∀ (d k : Nat) (x y : TEdge), l[k]? = some x → l[k + d + 1]? = some y → x.ID < y.ID
  | 0, k, x, y, hx, hy => h k x y hx hy
  | d + 1, k, x, y, hx, hy => by
    have hl := (List.getElem?_eq_some_iff.1 hy).1
    have hz : l[k + d + 1]? = some (l[k + d + 1]'(by omega)) := List.getElem?_eq_getElem _
    have h1 := rise_all h d k x _ hx hz
    have h2 := h (k + d + 1) _ y hz (by rw [show k + d + 1 + 1 = k + (d + 1) + 1 by omega]; exact hy)
    omega
theorem validG_rise {g : TGraph} (hg : validG g = true) : ∀ k x y, g.Edges[k]? = some x → g.Edges[k + 1]? = some y → x.ID < y.ID := by
  intro k x y hx hy
  unfold validG at hg
  simp only [Bool.and_eq_true] at hg
  have hl := (List.getElem?_eq_some_iff.1 hy).1
  have := List.all_eq_true.1 hg.1.2 (k + 1) (List.mem_range.2 hl)
  unfold edgeAt at this
  rw [hy] at this
  simp only [Nat.add_sub_cancel, hx, Option.getD_some, Bool.and_eq_true, Bool.not_eq_true', Bool.and_eq_false_iff, decide_eq_false_iff_not] at this
  rcases this.2 with h | h <;> omega
def validV (g : TGraph) (v : TView) : Bool := (buildV g v.Automaton v.Source).2 && decide ((buildV g v.Automaton v.Source).1 = v)
def viewAft (g : TGraph) (v : TView) (h : TGraph × Bool) : TView × Bool := if h.2 && validV g v then (viewOf h.1 v.Automaton v.Source, true) else (v, false)
theorem validV_parts {g : TGraph} {v : TView} (h : validV g v = true) : goodB g v.Automaton v.Source 0 = true := by
  unfold validV buildV at h
  split at h
  · assumption
  · cases h
theorem good_del {g h : TGraph} {a : TAutomaton} {x : Int} (hg : goodB g a x 0 = true) (hh : validG h = true) (hv : h.Values = g.Values) : goodB h a x 0 = true := by
  unfold goodB at *
  rw [hv, hh]
  simp only [Bool.and_eq_true] at *
  exact ⟨⟨⟨trivial, hg.1.1.2⟩, hg.1.2⟩, hg.2⟩
end Go.Q
namespace Go.Proofs.YtoealglkenhphaaGreat
open Go.RowKit Go.Q Go.D
theorem implcopyGraph (g : TGraph) (hz1 : g.Values.length ≤ 1073741824) (hz2 : g.Edges.length ≤ 1073741824) : FnT Tryz.prog 105 [.agg (cGraph g)] (.a (.agg (cGraph g))) := by
  refine FnT.walk Tryz.func105 rfl (by kernel_rfl) Tryz.ntmps105 rfl fun hlen w0 => ?_
  try simp [cPair, cToken, cExpr, cEdge, cGraph, cStep, cWalk, cChange, cBatch, cHistory, cPositions, cAutomaton, cProductStep, cPathAtom, cConjunction, cView, cDelta, cRegistered, cRegistry] at hlen
  refine AW.seq ?_
  refine AW.region ?_
  refine AWl.put (R_boxz rfl rfl rfl (.tmp rfl fun _ => rfl) (ts := _) (by rfl)) rfl ?_
  refine AWl.add (R_alloc 2 rfl rfl rfl in43 rfl rfl rfl) rfl ?_
  refine AWl.nil ?_
  refine AW.seq ?_
  refine AW.le (σ' := ⟨_, [(0, _), (1, _), (2, _)], [(2, _)]⟩) (Le.sub0 rfl ⟨rfl, rfl, rfl, trivial⟩ ⟨rfl, trivial⟩) ?_
  refine AW.drawK 8 (nthB [[], [0], [0, 1], [], [], [4], [0, 1, 2, 3, 4, 5], [0, 1, 2, 3, 4, 5, 6]]) [(6, 6)] (by kernel_rfl) (by kernel_rfl) (by kernel_rfl) ?_
  refine DrawK.step (LocK.of rfl fun σ' hs => (by exact R_fieldAddr rfl (.no rfl) (hd_sup hs rfl) (.tmp (hs.slots _ _ rfl) fun _ => rfl) fl43_0)) ?_
  refine DrawK.step (LocK.of rfl fun σ' hs => (by exact R_load rfl (.no rfl) (hd_sup hs rfl) (.tmp (hs.slots _ _ rfl) fun _ => rfl) ty22 rfl rfl)) ?_
  refine DrawK.step (LocK.ofs1 rfl fun σ' hs hf => R_call 500 (implcopyInts g.Values hz1) rfl rfl (hd_sup hs rfl) (.cons (.tmp (hs.slots _ _ rfl) fun _ => rfl) (readA_sup hs rfl) .nil) rfl (all_fresh hf)) ?_
  refine DrawK.step (LocK.of1 rfl fun σ' hs hf => R_empty 6 rfl rfl (hd_sup hs rfl) Tryz.underlying41 ty46 hf) ?_
  refine DrawK.step (LocK.of rfl fun σ' hs => (by exact R_fieldAddr rfl (.no rfl) (hd_sup hs rfl) (.tmp (hs.slots _ _ rfl) fun _ => rfl) fl43_1)) ?_
  refine DrawK.step (LocK.of rfl fun σ' hs => (by exact R_load rfl (.no rfl) (hd_sup hs rfl) (.tmp (hs.slots _ _ rfl) fun _ => rfl) ty41 rfl rfl)) ?_
  refine DrawK.step (LocK.ofc rfl rfl fun σ' hs => R_append (id := 6) rfl rfl (hd_sup hs rfl) (.tmp (hs.slots _ _ rfl) fun _ => rfl) (hs.res _ _ rfl) (.tmp (hs.slots _ _ rfl) fun _ => rfl) (by exact .t) (by exact isV_map (fun _ => rfl) _) Tryz.underlying41 in46 rfl (by (simp [chunk]; omega)) (by (unfold maxLen; simp [chunk]; omega))) ?_
  refine DrawK.step (LocK.of rfl fun σ' hs => R_build (ps := [(0, .tmp 5), (1, .tmp 9)]) rfl rfl (hd_sup hs rfl) in43 rfl rfl st43 (.cons (.tmp (hs.slots _ _ rfl) fun _ => rfl) rfl rfl fp43_0 (.cons (.tmp (hs.slots _ _ rfl) fun _ => rfl) rfl rfl fp43_1 .nil)) rfl) ?_
  refine DrawK.fin rfl rfl rfl ?_
  refine AWl.le (σ' := ⟨_, [(0, _), (1, _), (2, _), (10, _)], [(2, _), (500, _), (6, _)]⟩) (Le.sub0 rfl ⟨rfl, rfl, rfl, rfl, trivial⟩ ⟨rfl, rfl, rfl, trivial⟩) ?_
  refine AWl.chgb (R_store_pb rfl rfl rfl (.tmp rfl fun _ => rfl) (.tmp rfl fun _ => rfl) rfl ty43 rfl rfl rfl (by kernel_rfl) rfl) ?_
  refine AWl.nil ?_
  refine AW.ret ?_
  refine Res.one rfl (.cell rfl rfl ty43 rfl rfl .nil) rfl ?_
  rfl
theorem specl3Copy (g : TGraph) (hz1 : g.Values.length ≤ 1073741824) (hz2 : g.Edges.length ≤ 1073741824) : FnT Tryz.prog 97 [.agg (cGraph g)] (.a (.agg (cGraph g))) := by
  refine FnT.walk Tryz.func97 rfl (by kernel_rfl) Tryz.ntmps97 rfl fun hlen w0 => ?_
  try simp [cPair, cToken, cExpr, cEdge, cGraph, cStep, cWalk, cChange, cBatch, cHistory, cPositions, cAutomaton, cProductStep, cPathAtom, cConjunction, cView, cDelta, cRegistered, cRegistry] at hlen
  refine AW.seq ?_
  refine AW.region ?_
  refine AWl.put (R_boxz rfl rfl rfl (.tmp rfl fun _ => rfl) (ts := _) (by rfl)) rfl ?_
  refine AWl.add (R_alloc 2 rfl rfl rfl in43 rfl rfl rfl) rfl ?_
  refine AWl.nil ?_
  refine AW.seq ?_
  refine AW.le (σ' := ⟨_, [(0, _), (1, _), (2, _)], [(2, _)]⟩) (Le.sub0 rfl ⟨rfl, rfl, rfl, trivial⟩ ⟨rfl, trivial⟩) ?_
  refine AW.drawK 9 (nthB [[], [], [1], [0, 1, 2], [], [], [5], [0, 1, 2, 3, 4, 5, 6], [0, 1, 2, 3, 4, 5, 6, 7]]) [(3, 3), (7, 7)] (by kernel_rfl) (by kernel_rfl) (by kernel_rfl) ?_
  refine DrawK.step (LocK.of1 rfl fun σ' hs hf => R_empty 3 rfl rfl (hd_sup hs rfl) Tryz.underlying22 ty3 hf) ?_
  refine DrawK.step (LocK.of rfl fun σ' hs => (by exact R_fieldAddr rfl (.no rfl) (hd_sup hs rfl) (.tmp (hs.slots _ _ rfl) fun _ => rfl) fl43_0)) ?_
  refine DrawK.step (LocK.of rfl fun σ' hs => (by exact R_load rfl (.no rfl) (hd_sup hs rfl) (.tmp (hs.slots _ _ rfl) fun _ => rfl) ty22 rfl rfl)) ?_
  refine DrawK.step (LocK.ofc rfl rfl fun σ' hs => R_append (id := 3) rfl rfl (hd_sup hs rfl) (.tmp (hs.slots _ _ rfl) fun _ => rfl) (hs.res _ _ rfl) (.tmp (hs.slots _ _ rfl) fun _ => rfl) (by exact .t) (by exact isV_map (fun _ => rfl) _) Tryz.underlying22 in3 rfl (by (simp [chunk]; omega)) (by (unfold maxLen; simp [chunk]; omega))) ?_
  refine DrawK.step (LocK.of1 rfl fun σ' hs hf => R_empty 7 rfl rfl (hd_sup hs rfl) Tryz.underlying41 ty46 hf) ?_
  refine DrawK.step (LocK.of rfl fun σ' hs => (by exact R_fieldAddr rfl (.no rfl) (hd_sup hs rfl) (.tmp (hs.slots _ _ rfl) fun _ => rfl) fl43_1)) ?_
  refine DrawK.step (LocK.of rfl fun σ' hs => (by exact R_load rfl (.no rfl) (hd_sup hs rfl) (.tmp (hs.slots _ _ rfl) fun _ => rfl) ty41 rfl rfl)) ?_
  refine DrawK.step (LocK.ofc rfl rfl fun σ' hs => R_append (id := 7) rfl rfl (hd_sup hs rfl) (.tmp (hs.slots _ _ rfl) fun _ => rfl) (hs.res _ _ rfl) (.tmp (hs.slots _ _ rfl) fun _ => rfl) (by exact .t) (by exact isV_map (fun _ => rfl) _) Tryz.underlying41 in46 rfl (by (simp [chunk]; omega)) (by (unfold maxLen; simp [chunk]; omega))) ?_
  refine DrawK.step (LocK.of rfl fun σ' hs => R_build (ps := [(0, .tmp 6), (1, .tmp 10)]) rfl rfl (hd_sup hs rfl) in43 rfl rfl st43 (.cons (.tmp (hs.slots _ _ rfl) fun _ => rfl) rfl rfl fp43_0 (.cons (.tmp (hs.slots _ _ rfl) fun _ => rfl) rfl rfl fp43_1 .nil)) rfl) ?_
  refine DrawK.fin rfl rfl rfl ?_
  refine AWl.le (σ' := ⟨_, [(0, _), (1, _), (2, _), (11, _)], [(2, _), (3, _), (7, _)]⟩) (Le.sub0 rfl ⟨rfl, rfl, rfl, rfl, trivial⟩ ⟨rfl, rfl, rfl, trivial⟩) ?_
  refine AWl.chgb (R_store_pb rfl rfl rfl (.tmp rfl fun _ => rfl) (.tmp rfl fun _ => rfl) rfl ty43 rfl rfl rfl (by kernel_rfl) rfl) ?_
  refine AWl.nil ?_
  refine AW.ret ?_
  refine Res.one rfl (.cell rfl rfl ty43 rfl rfl .nil) rfl ?_
  rfl
end Go.Proofs.YtoealglkenhphaaGreat
