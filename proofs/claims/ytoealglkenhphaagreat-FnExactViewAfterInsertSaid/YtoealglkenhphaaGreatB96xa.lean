/- Merged texts. -/
import Derived.Test.YtoealglkenhphaaGreatB39xa
set_option linter.unusedVariables false
set_option linter.unusedSimpArgs false
set_option maxHeartbeats 1000000
set_option maxRecDepth 100000
namespace Go.Q
open Go.D
end Go.Q
namespace Go.Proofs.YtoealglkenhphaaGreat
open Go.RowKit Go.Q Go.D
theorem implcopyView (v : TView) (hz : okView v) : FnT Tryz.prog 110 [.agg (cView v)] (.a (.agg (cView v))) := by
  refine FnT.walk Tryz.func110 rfl (by kernel_rfl) Tryz.ntmps110 rfl fun hlen w0 => ?_
  try simp [cPair, cToken, cExpr, cEdge, cGraph, cStep, cWalk, cChange, cBatch, cHistory, cPositions, cAutomaton, cProductStep, cPathAtom, cConjunction, cView, cDelta, cRegistered, cRegistry] at hlen
  have hz2 : v.Ranks.length ≤ 1048576 := hz.2.1
  have hz3 : v.Supports.length ≤ 1048576 := hz.2.2.1
  refine AW.seq ?_
  refine AW.region ?_
  refine AWl.put (R_boxz rfl rfl rfl (.tmp rfl fun _ => rfl) (ts := _) (by rfl)) rfl ?_
  refine AWl.add (R_alloc 2 rfl rfl rfl in38 rfl rfl rfl) rfl ?_
  refine AWl.nil ?_
  refine AW.seq ?_
  refine AW.drawn 12 (nthB [[], [0], [0, 1], [], [3], [], [5], [0, 1, 2, 5, 6], [], [8], [0, 1, 2, 5, 6, 7, 8, 9], [0, 1, 2, 3, 4, 5, 6, 7, 8, 9, 10]]) (by kernel_rfl) (by kernel_rfl) (by kernel_rfl) ?_
  refine DrawC.step rfl rfl rfl (Loc.of rfl fun σ' hs => (by exact R_fieldAddr rfl (.no rfl) (hd_sup hs rfl) (.tmp (hs.slots _ _ rfl) fun _ => rfl) fl38_0)) ?_
  refine DrawC.step rfl rfl rfl (Loc.of rfl fun σ' hs => (by exact R_load rfl (.no rfl) (hd_sup hs rfl) (.tmp (hs.slots _ _ rfl) fun _ => rfl) ty36 rfl rfl)) ?_
  refine DrawC.step rfl rfl rfl (Loc.ofs rfl fun σ' hs hf => R_call 500 (implcopyAutomatonZ v.Automaton hz.1) rfl rfl (hd_sup hs rfl) (.cons (.tmp (hs.slots _ _ rfl) fun _ => rfl) (readA_sup hs rfl) .nil) rfl (all_fresh hf)) ?_
  refine DrawC.step rfl rfl rfl (Loc.of rfl fun σ' hs => (by exact R_fieldAddr rfl (.no rfl) (hd_sup hs rfl) (.tmp (hs.slots _ _ rfl) fun _ => rfl) fl38_1)) ?_
  refine DrawC.step rfl rfl rfl (Loc.of rfl fun σ' hs => (by exact R_load rfl (.no rfl) (hd_sup hs rfl) (.tmp (hs.slots _ _ rfl) fun _ => rfl) ty3 rfl rfl)) ?_
  refine DrawC.step rfl rfl rfl (Loc.of rfl fun σ' hs => (by exact R_fieldAddr rfl (.no rfl) (hd_sup hs rfl) (.tmp (hs.slots _ _ rfl) fun _ => rfl) fl38_2)) ?_
  refine DrawC.step rfl rfl rfl (Loc.of rfl fun σ' hs => (by exact R_load rfl (.no rfl) (hd_sup hs rfl) (.tmp (hs.slots _ _ rfl) fun _ => rfl) ty22 rfl rfl)) ?_
  refine DrawC.step rfl rfl rfl (Loc.ofs rfl fun σ' hs hf => R_call 1000 (implcopyInts v.Ranks (by omega)) rfl rfl (hd_sup hs rfl) (.cons (.tmp (hs.slots _ _ rfl) fun _ => rfl) (readA_sup hs rfl) .nil) rfl (all_fresh hf)) ?_
  refine DrawC.step rfl rfl rfl (Loc.of rfl fun σ' hs => (by exact R_fieldAddr rfl (.no rfl) (hd_sup hs rfl) (.tmp (hs.slots _ _ rfl) fun _ => rfl) fl38_3)) ?_
  refine DrawC.step rfl rfl rfl (Loc.of rfl fun σ' hs => (by exact R_load rfl (.no rfl) (hd_sup hs rfl) (.tmp (hs.slots _ _ rfl) fun _ => rfl) ty22 rfl rfl)) ?_
  refine DrawC.step rfl rfl rfl (Loc.ofs rfl fun σ' hs hf => R_call 1300 (implcopyInts v.Supports (by omega)) rfl rfl (hd_sup hs rfl) (.cons (.tmp (hs.slots _ _ rfl) fun _ => rfl) (readA_sup hs rfl) .nil) rfl (all_fresh hf)) ?_
  refine DrawC.step rfl rfl rfl (Loc.of rfl fun σ' hs => R_build (ps := [(0, .tmp 5), (1, .tmp 7), (2, .tmp 10), (3, .tmp 13)]) rfl rfl (hd_sup hs rfl) in38 rfl rfl st38 (.cons (.tmp (hs.slots _ _ rfl) fun _ => rfl) rfl rfl fp38_0 (.cons (.tmp (hs.slots _ _ rfl) fun _ => rfl) rfl rfl fp38_1 (.cons (.tmp (hs.slots _ _ rfl) fun _ => rfl) rfl rfl fp38_2 (.cons (.tmp (hs.slots _ _ rfl) fun _ => rfl) rfl rfl fp38_3 .nil)))) rfl) ?_
  refine DrawC.fin rfl rfl ?_
  refine AWl.chgb (R_store_pb rfl rfl rfl (.tmp rfl fun _ => rfl) (.tmp rfl fun _ => rfl) rfl ty38 rfl rfl rfl (by kernel_rfl) rfl) ?_
  refine AWl.nil ?_
  refine AW.ret ?_
  refine Res.one rfl (.cell rfl rfl ty38 rfl rfl .nil) rfl ?_
  rfl
theorem implviewOf (g : TGraph) (v : TView) (h : TGraph) (ok : Bool) (hz : okView v) (hok : ok = true → validV g v = true → goodB h v.Automaton v.Source 0 = true) : FnT Tryz.prog 54 [.agg (cGraph g), .agg (cView v), .agg (cGraph h), .one (.v (.bool ok))] (.tup [.agg (cView (viewAft g v (h, ok)).1), .one (.v (.bool (viewAft g v (h, ok)).2))]) := by
  refine FnT.walk Tryz.func54 rfl (by kernel_rfl) Tryz.ntmps54 rfl fun hlen w0 => ?_
  try simp [cPair, cToken, cExpr, cEdge, cGraph, cStep, cWalk, cChange, cBatch, cHistory, cPositions, cAutomaton, cProductStep, cPathAtom, cConjunction, cView, cDelta, cRegistered, cRegistry] at hlen
  skip
  refine AW.seq ?_
  refine AW.region ?_
  refine AWl.put (R_boxz rfl rfl rfl (.tmp rfl fun _ => rfl) (ts := _) (by rfl)) rfl ?_
  refine AWl.put (R_boxz rfl rfl rfl (.tmp rfl fun _ => rfl) (ts := _) (by rfl)) rfl ?_
  refine AWl.put (R_boxz rfl rfl rfl (.tmp rfl fun _ => rfl) (ts := _) (by rfl)) rfl ?_
  refine AWl.add (R_alloc 8 rfl rfl rfl in38 rfl rfl rfl) rfl ?_
  refine AWl.put (R_assign rfl (.no rfl) rfl (.const rfl)) rfl ?_
  refine AWl.nil ?_
  refine AW.seq ?_
  refine AW.seq ?_
  refine AW.region ?_
  refine AWl.put (R_move rfl (.no rfl) rfl (.tmp rfl fun _ => rfl)) rfl ?_
  refine AWl.put (R_not rfl (.no rfl) rfl (.tmp rfl fun _ => rfl)) rfl ?_
  refine AWl.put (R_move rfl (.no rfl) rfl (.tmp rfl fun _ => rfl)) rfl ?_
  refine AWl.put ((by exact R_load rfl (by exact .not1 rfl rfl rfl rfl) rfl (.tmp rfl (by exact fun _ => rfl)) ty43 rfl rfl)) rfl ?_
  refine AWl.put ((by exact R_load rfl (by exact .not1 rfl rfl rfl rfl) rfl (.tmp rfl (by exact fun _ => rfl)) ty38 rfl rfl)) rfl ?_
  refine AWl.put (R_callz (FnT.fr (implIsValidView g v)) rfl (by exact .not1 rfl rfl rfl rfl) rfl (.cons (.tmp rfl (by exact id)) rfl (.cons (.tmp rfl (by exact id)) rfl .nil))) rfl ?_
  refine AWl.put (R_not rfl (by exact .not1 rfl rfl rfl rfl) rfl (.tmp rfl (by exact id))) rfl ?_
  refine AWl.put (R_or rfl (.no rfl) rfl (.tmp rfl fun _ => rfl) (.tmp rfl (by exact id))) rfl ?_
  refine AWl.nil ?_
  refine AW.cond (.tmp rfl fun _ => rfl) (fun h17 => ?_) (fun h17 => ?_)
  · skip
    skip
    have hc : (ok && validV g v) = false := by (have h17' : (!ok || !validV g v) = true := by simpa [validV] using h17); (cases hk0 : ok <;> cases hk1 : validV g v <;> simp_all)
    refine AW.seq ?_
    refine AW.le (σ' := ⟨_, [(0, _), (1, _), (2, _), (3, _), (4, _), (5, _), (6, _), (8, _), (9, _)], [(8, _)]⟩) (Le.sub0 rfl ⟨rfl, rfl, rfl, rfl, rfl, rfl, rfl, rfl, rfl, trivial⟩ ⟨rfl, trivial⟩) ?_
    refine AW.region ?_
    refine AWl.put ((by exact R_load rfl (.no rfl) rfl (.tmp rfl fun _ => rfl) ty38 rfl rfl)) rfl ?_
    refine AWl.adds (R_call 1900 (implcopyView v hz) rfl rfl rfl (.cons (.tmp rfl fun _ => rfl) rfl .nil) rfl rfl) rfl ?_
    refine AWl.chgb (R_store_pb rfl rfl rfl (.tmp rfl fun _ => rfl) (.tmp rfl fun _ => rfl) rfl ty38 rfl rfl rfl (by kernel_rfl) rfl) ?_
    refine AWl.le (σ' := ⟨_, [(0, _), (1, _), (2, _), (3, _), (4, _), (5, _), (6, _), (8, _), (9, _)], [(8, _), (1900, _), (1901, _), (1902, _), (1903, _)]⟩) (Le.sub0 rfl ⟨rfl, rfl, rfl, rfl, rfl, rfl, rfl, rfl, rfl, trivial⟩ ⟨rfl, rfl, rfl, rfl, rfl, trivial⟩) ?_
    refine AWl.put (R_assign rfl (.no rfl) rfl (.const rfl)) rfl ?_
    refine AWl.nil ?_
    refine AW.ret ?_
    refine Res.many rfl (.cell rfl rfl ty38 rfl rfl (.tmp rfl .nil)) rfl ?_ (by simp)
    unfold viewAft; rw [hc]; rfl
  · skip
    skip
    have hc : (ok && validV g v) = true := by (have h17' : (!ok || !validV g v) = false := by simpa [validV] using h17); (cases hk0 : ok <;> cases hk1 : validV g v <;> simp_all)
    refine AW.skip ?_
    refine AW.seq ?_
    refine AW.le (σ' := ⟨_, [(0, _), (1, _), (2, _), (3, _), (4, _), (5, _), (6, _), (8, _), (9, _)], [(8, _)]⟩) (Le.sub0 rfl ⟨rfl, rfl, rfl, rfl, rfl, rfl, rfl, rfl, rfl, trivial⟩ ⟨rfl, trivial⟩) ?_
    refine AW.region ?_
    refine AWl.put ((by exact R_load rfl (.no rfl) rfl (.tmp rfl fun _ => rfl) ty43 rfl rfl)) rfl ?_
    refine AWl.put ((by exact R_fieldAddr rfl (.no rfl) rfl (.tmp rfl fun _ => rfl) fl38_0)) rfl ?_
    refine AWl.put ((by exact R_load rfl (.no rfl) rfl (.tmp rfl fun _ => rfl) ty36 rfl rfl)) rfl ?_
    refine AWl.put ((by exact R_fieldAddr rfl (.no rfl) rfl (.tmp rfl fun _ => rfl) fl38_1)) rfl ?_
    refine AWl.put ((by exact R_load rfl (.no rfl) rfl (.tmp rfl fun _ => rfl) ty3 rfl rfl)) rfl ?_
    refine AWl.adds (R_call 2500 (implBuildView h v.Automaton v.Source) rfl rfl rfl (.cons (.tmp rfl fun _ => rfl) rfl (.cons (.tmp rfl fun _ => rfl) rfl (.cons (.tmp rfl fun _ => rfl) rfl .nil))) rfl rfl) rfl ?_
    refine AWl.put (R_extract rfl (.no rfl) rfl rfl (fun _ => rfl) rfl) rfl ?_
    refine AWl.put (R_extract rfl (.no rfl) rfl rfl (fun _ => rfl) rfl) rfl ?_
    refine AWl.chgb (R_store_pb rfl rfl rfl (.tmp rfl fun _ => rfl) (.tmp rfl fun _ => rfl) rfl ty38 rfl rfl rfl (by kernel_rfl) rfl) ?_
    refine AWl.le (σ' := ⟨_, [(0, _), (1, _), (2, _), (3, _), (4, _), (5, _), (6, _), (8, _), (9, _), (27, _)], [(8, _), (2500, _), (2501, _), (2502, _), (2503, _)]⟩) (Le.sub0 rfl ⟨rfl, rfl, rfl, rfl, rfl, rfl, rfl, rfl, rfl, rfl, trivial⟩ ⟨rfl, rfl, rfl, rfl, rfl, trivial⟩) ?_
    refine AWl.put (R_assign rfl (.no rfl) rfl (.tmp rfl fun _ => rfl)) rfl ?_
    refine AWl.nil ?_
    refine AW.ret ?_
    refine Res.many rfl (.cell rfl rfl ty38 rfl rfl (.tmp rfl .nil)) rfl ?_ (by simp)
    unfold viewAft buildV; rw [hc, if_pos (hok (by simp at hc; exact hc.1) (by simp at hc; exact hc.2))]; rfl
end Go.Proofs.YtoealglkenhphaaGreat
set_option linter.unusedVariables false
set_option linter.unusedSimpArgs false
set_option maxHeartbeats 1000000
set_option maxRecDepth 100000
namespace Go.Q
open Go.D
theorem findI_two {α : Type} (p : α → Bool) : ∀ (l : List α) (m : Nat), (findI p l m = -1 ∧ ∀ x ∈ l, p x = false) ∨ ∃ (k : Nat) (x : α), l[k]? = some x ∧ p x = true ∧ findI p l m = ((m + k : Nat) : Int) ∧ ∀ y ∈ l.take k, p y = false
  | [], m => .inl ⟨rfl, by simp⟩
  | z :: l, m => by
    rw [findI]
    cases hz : p z with
    | true => exact .inr ⟨0, z, rfl, hz, by simp, by simp⟩
    | false =>
      rw [if_neg (by simp)]
      rcases findI_two p l (m + 1) with ⟨h1, h2⟩ | ⟨k, x, h1, h2, h3, h4⟩
      · refine .inl ⟨h1, fun x hx => ?_⟩
        rcases List.mem_cons.1 hx with rfl | hx
        · exact hz
        · exact h2 x hx
      · refine .inr ⟨k + 1, x, by simpa using h1, h2, by rw [h3]; omega, fun y hy => ?_⟩
        rw [List.take_succ_cons] at hy
        rcases List.mem_cons.1 hy with rfl | hy
        · exact hz
        · exact h4 y hy
/-! ### An edge put in -/
def insAt (l : List TEdge) (e : TEdge) : Nat := (l.takeWhile fun x => decide (x.ID < e.ID)).length
theorem insAt_le (l : List TEdge) (e : TEdge) : insAt l e ≤ l.length := (List.takeWhile_prefix _).length_le
theorem insAt_lt {l : List TEdge} {e : TEdge} {k : Nat} {x : TEdge} (hk : k < insAt l e) (hx : l[k]? = some x) : x.ID < e.ID := by
  have hp := List.takeWhile_prefix (p := fun x : TEdge => decide (x.ID < e.ID)) (l := l)
  have h1 : (l.takeWhile fun x => decide (x.ID < e.ID))[k]? = some x := by
    rw [List.prefix_iff_getElem?] at hp
    have := hp k hk
    rw [← hx, this]; exact List.getElem?_eq_getElem hk
  have h2 := List.all_eq_true.1 (List.all_takeWhile (p := fun x : TEdge => decide (x.ID < e.ID)) (l := l)) x (List.mem_of_getElem? h1)
  simpa using h2
theorem insAt_eq : ∀ {l : List TEdge} {e : TEdge} {k : Nat}, k ≤ l.length → (∀ j x, j < k → l[j]? = some x → x.ID < e.ID) → (∀ x, l[k]? = some x → ¬ x.ID < e.ID) → insAt l e = k
  | [], e, k, hk, _, _ => by simp at hk; subst hk; rfl
  | y :: l, e, 0, _, _, h => by
    have := h y rfl
    unfold insAt
    rw [List.takeWhile_cons, if_neg (by simpa using this)]; rfl
  | y :: l, e, k + 1, hk, h1, h2 => by
    have h0 := h1 0 y (by omega) rfl
    have ih := insAt_eq (l := l) (e := e) (k := k) (by simp at hk; omega) (fun j x hj hx => h1 (j + 1) x (by omega) (by simpa using hx)) (fun x hx => h2 x (by simpa using hx))
    unfold insAt at ih ⊢
    rw [List.takeWhile_cons, if_pos (by simpa using h0), List.length_cons, ih]
theorem insAt_ge {l : List TEdge} {e : TEdge} {x : TEdge} (hx : l[insAt l e]? = some x) : ¬ x.ID < e.ID := by
  have h1 := List.getElem?_eq_some_iff.1 hx
  have h2 : l = (l.takeWhile fun x => decide (x.ID < e.ID)) ++ l.dropWhile fun x => decide (x.ID < e.ID) := (List.takeWhile_append_dropWhile).symm
  rw [h2, List.getElem?_append_right (by unfold insAt; rw [← h2]; exact Nat.le_refl _)] at hx
  rw [← h2] at hx
  have e0 : insAt l e - (l.takeWhile fun x => decide (x.ID < e.ID)).length = 0 := by unfold insAt; omega
  rw [e0] at hx
  cases hd : l.dropWhile fun x => decide (x.ID < e.ID) with
  | nil => rw [hd] at hx; cases hx
  | cons z r =>
    rw [hd] at hx
    simp at hx
    subst hx
    have := List.head?_dropWhile_not (fun x : TEdge => decide (x.ID < e.ID)) l
    rw [hd] at this
    simpa using this
def insL (l : List TEdge) (e : TEdge) : List TEdge := l.take (insAt l e) ++ e :: l.drop (insAt l e)
def insOk (g : TGraph) (e : TEdge) : Bool := validG g && edgeOk e g.Values.length && decide (edgeIndex g e.ID < 0) && !decide (g.Edges.length = 12)
def insG (g : TGraph) (e : TEdge) : TGraph × Bool := if insOk g e = true then (⟨g.Values, insL g.Edges e⟩, true) else (g, false)
theorem insL_get {l : List TEdge} {e : TEdge} {k : Nat} : (insL l e)[k]? = if k < insAt l e then l[k]? else if k = insAt l e then some e else l[k - 1]? := by
  have hle := insAt_le l e
  unfold insL
  by_cases h : k < insAt l e
  · rw [if_pos h, List.getElem?_append_left (by rw [List.length_take]; omega), List.getElem?_take, if_pos h]
  · rw [if_neg h, List.getElem?_append_right (by rw [List.length_take]; omega), List.length_take, show min (insAt l e) l.length = insAt l e by omega]
    by_cases h2 : k = insAt l e
    · rw [if_pos h2, h2]; simp
    · rw [if_neg h2, show k - insAt l e = (k - 1 - insAt l e) + 1 by omega, List.getElem?_cons_succ, List.getElem?_drop]
      congr 1; omega
theorem insL_len (l : List TEdge) (e : TEdge) : (insL l e).length = l.length + 1 := by
  have hle := insAt_le l e
  unfold insL
  rw [List.length_append, List.length_cons, List.length_take, List.length_drop]; omega
theorem idx_none {g : TGraph} {id : Int} (h : edgeIndex g id < 0) {x : TEdge} (hx : x ∈ g.Edges) : x.ID ≠ id := by
  unfold edgeIndex at h
  rcases findI_two (fun e : TEdge => decide (e.ID = id)) g.Edges 0 with ⟨_, h2⟩ | ⟨k, _, _, _, h3, _⟩
  · simpa using h2 x hx
  · rw [h3] at h; omega
theorem insG_valid {g : TGraph} {e : TEdge} (h : (insG g e).2 = true) : validG (insG g e).1 = true ∧ (insG g e).1.Values = g.Values ∧ validG g = true := by
  unfold insG at *
  split at h
  · rename_i hc
    rw [if_pos hc]
    unfold insOk at hc
    simp only [Bool.and_eq_true, decide_eq_true_eq, Bool.not_eq_true', decide_eq_false_iff_not] at hc
    obtain ⟨⟨⟨hg, he⟩, hi⟩, h12⟩ := hc
    refine ⟨?_, rfl, hg⟩
    have hri := rise_all (validG_rise hg)
    have hg' := hg
    unfold validG at hg' ⊢
    simp only [Bool.and_eq_true, decide_eq_true_eq] at hg' ⊢
    have hle := insAt_le g.Edges e
    refine ⟨⟨hg'.1.1, List.all_eq_true.2 fun k hk => ?_⟩, hg'.2.1, by rw [insL_len]; omega⟩
    have hk := List.mem_range.1 hk
    rw [insL_len] at hk
    have hlook : ∀ q y, g.Edges[q]? = some y → edgeOk y (g.Values.length : Int) = true := fun q y hy => by
      have := List.all_eq_true.1 hg'.1.2 q (List.mem_range.2 (List.getElem?_eq_some_iff.1 hy).1)
      unfold edgeAt at this
      rw [hy] at this
      simp only [Bool.and_eq_true] at this
      exact this.1
    unfold edgeAt
    simp only [insL_get]
    by_cases h1 : k < insAt g.Edges e
    · rw [if_pos h1, List.getElem?_eq_getElem (show k < g.Edges.length by omega)]
      simp only [Bool.and_eq_true, Bool.not_eq_true', Bool.and_eq_false_iff, decide_eq_false_iff_not]
      refine ⟨hlook k _ (List.getElem?_eq_getElem _), ?_⟩
      by_cases h0 : k = 0
      · exact .inl (by omega)
      · rw [if_pos (by omega), List.getElem?_eq_getElem (show k - 1 < g.Edges.length by omega), Option.getD_some]
        have := hri 0 (k - 1) _ _ (List.getElem?_eq_getElem (show k - 1 < g.Edges.length by omega)) (by rw [show k - 1 + 0 + 1 = k by omega]; exact List.getElem?_eq_getElem (show k < g.Edges.length by omega))
        exact .inr (by omega)
    · rw [if_neg h1]
      by_cases h2 : k = insAt g.Edges e
      · rw [if_pos h2]
        simp only [Bool.and_eq_true, Bool.not_eq_true', Bool.and_eq_false_iff, decide_eq_false_iff_not]
        refine ⟨he, ?_⟩
        by_cases h0 : k = 0
        · exact .inl (by omega)
        · rw [if_pos (by omega), List.getElem?_eq_getElem (show k - 1 < g.Edges.length by omega), Option.getD_some]
          have := insAt_lt (l := g.Edges) (e := e) (k := k - 1) (by omega) (List.getElem?_eq_getElem (show k - 1 < g.Edges.length by omega))
          exact .inr (by omega)
      · rw [if_neg h2, List.getElem?_eq_getElem (show k - 1 < g.Edges.length by omega)]
        simp only [Bool.and_eq_true, Bool.not_eq_true', Bool.and_eq_false_iff, decide_eq_false_iff_not]
        refine ⟨hlook (k - 1) _ (List.getElem?_eq_getElem _), .inr ?_⟩
        rw [if_neg (by omega)]
        by_cases h3 : k - 1 = insAt g.Edges e
        · rw [if_pos h3, Option.getD_some]
          have hy : g.Edges[insAt g.Edges e]? = some (g.Edges[k - 1]'(by omega)) := by rw [← h3]; exact List.getElem?_eq_getElem _
          have h4 := insAt_ge hy
          have h5 := idx_none hi (List.mem_of_getElem? hy)
          omega
        · rw [if_neg h3, List.getElem?_eq_getElem (show k - 1 - 1 < g.Edges.length by omega), Option.getD_some]
          have := hri 0 (k - 1 - 1) _ _ (List.getElem?_eq_getElem (show k - 1 - 1 < g.Edges.length by omega)) (by rw [show k - 1 - 1 + 0 + 1 = k - 1 by omega]; exact List.getElem?_eq_getElem (show k - 1 < g.Edges.length by omega))
          omega
  · cases h
end Go.Q
