import Derived.Test.YtoealglkenhphaaGreatB39xb
import Derived.Test.YtoealglkenhphaaGreatAbsGxb
import Derived.WideLaws
import Derived.Test.YtoealglkenhphaaGreatAbsHxb
import Derived.Test.YtoealglkenhphaaGreatAbsOxb
set_option linter.unusedVariables false
set_option linter.unusedSimpArgs false
set_option maxHeartbeats 1000000
set_option maxRecDepth 100000
namespace Go.Q
open Go.D
end Go.Q
namespace Go.Proofs.YtoealglkenhphaaGreat
open Go.RowKit Go.Q Go.D
theorem implcopyView (v : TView) (hz : okView v) : FnT Tryz.prog 110 [.agg (cView v)] (.a (.agg (cView v))) := by
 refine FnT.walk Tryz.func110 rfl (by kernel_rfl) Tryz.ntmps110 rfl fun hlen w0 => ?_
 try simp [cEdge, cGraph, cStep, cChange, cBatch, cAutomaton, cProductStep, cView] at hlen
 have hz2 : v.Ranks.length ≤ 1048576 := hz.2.1
 have hz3 : v.Supports.length ≤ 1048576 := hz.2.2.1
 refine AW.sr ?_
 refine AWl.put (R_boxz rfl rfl rfl (.tm rfl) (ts := _) (by rfl)) rfl ?_
 refine AWl.add (R_alloc 2 rfl rfl rfl in38 rfl rfl rfl) rfl ?_
 refine AWl.nil ?_
 refine AW.seq ?_
 refine AW.drawn 12 (nthB [[], [0], [0, 1], [], [3], [], [5], [0, 1, 2, 5, 6], [], [8], [0, 1, 2, 5, 6, 7, 8, 9], [0, 1, 2, 3, 4, 5, 6, 7, 8, 9, 10]]) (by kernel_rfl) (by kernel_rfl) (by kernel_rfl) ?_
 refine DrawC.step rfl rfl rfl (Loc.of rfl fun σ' hs => (by exact R_fieldAddr rfl (.no rfl) (hd_sup hs rfl) (.tm (hs.slots _ _ rfl)) fl38_0)) ?_
 refine DrawC.step rfl rfl rfl (Loc.of rfl fun σ' hs => (by exact R_load rfl (.no rfl) (hd_sup hs rfl) (.tm (hs.slots _ _ rfl)) ty36 rfl rfl)) ?_
 refine DrawC.step rfl rfl rfl (Loc.ofs rfl fun σ' hs hf => R_call 500 (implcopyAutomatonZ v.Automaton hz.1) rfl rfl (hd_sup hs rfl) (.cons (.tm (hs.slots _ _ rfl)) (readA_sup hs rfl) .nil) rfl (all_fresh hf)) ?_
 refine DrawC.step rfl rfl rfl (Loc.of rfl fun σ' hs => (by exact R_fieldAddr rfl (.no rfl) (hd_sup hs rfl) (.tm (hs.slots _ _ rfl)) fl38_1)) ?_
 refine DrawC.step rfl rfl rfl (Loc.of rfl fun σ' hs => (by exact R_load rfl (.no rfl) (hd_sup hs rfl) (.tm (hs.slots _ _ rfl)) ty3 rfl rfl)) ?_
 refine DrawC.step rfl rfl rfl (Loc.of rfl fun σ' hs => (by exact R_fieldAddr rfl (.no rfl) (hd_sup hs rfl) (.tm (hs.slots _ _ rfl)) fl38_2)) ?_
 refine DrawC.step rfl rfl rfl (Loc.of rfl fun σ' hs => (by exact R_load rfl (.no rfl) (hd_sup hs rfl) (.tm (hs.slots _ _ rfl)) ty22 rfl rfl)) ?_
 refine DrawC.step rfl rfl rfl (Loc.ofs rfl fun σ' hs hf => R_call 1000 (implcopyInts v.Ranks (by omega)) rfl rfl (hd_sup hs rfl) (.cons (.tm (hs.slots _ _ rfl)) (readA_sup hs rfl) .nil) rfl (all_fresh hf)) ?_
 refine DrawC.step rfl rfl rfl (Loc.of rfl fun σ' hs => (by exact R_fieldAddr rfl (.no rfl) (hd_sup hs rfl) (.tm (hs.slots _ _ rfl)) fl38_3)) ?_
 refine DrawC.step rfl rfl rfl (Loc.of rfl fun σ' hs => (by exact R_load rfl (.no rfl) (hd_sup hs rfl) (.tm (hs.slots _ _ rfl)) ty22 rfl rfl)) ?_
 refine DrawC.step rfl rfl rfl (Loc.ofs rfl fun σ' hs hf => R_call 1300 (implcopyInts v.Supports (by omega)) rfl rfl (hd_sup hs rfl) (.cons (.tm (hs.slots _ _ rfl)) (readA_sup hs rfl) .nil) rfl (all_fresh hf)) ?_
 refine DrawC.step rfl rfl rfl (Loc.of rfl fun σ' hs => R_build (ps := [(0, .tmp 5), (1, .tmp 7), (2, .tmp 10), (3, .tmp 13)]) rfl rfl (hd_sup hs rfl) in38 rfl rfl st38 (.cons (.tm (hs.slots _ _ rfl)) rfl rfl fp38_0 (.cons (.tm (hs.slots _ _ rfl)) rfl rfl fp38_1 (.cons (.tm (hs.slots _ _ rfl)) rfl rfl fp38_2 (.cons (.tm (hs.slots _ _ rfl)) rfl rfl fp38_3 .nil)))) rfl) ?_
 refine DrawC.fin rfl rfl ?_
 refine AWl.chgb (R_store_pb rfl rfl rfl (.tm rfl) (.tm rfl) rfl ty38 rfl rfl rfl (by kernel_rfl) rfl) ?_
 refine AWl.nil ?_
 refine AW.ret ?_
 refine Res.one rfl (.cell rfl rfl ty38 rfl rfl .nil) rfl ?_
 rfl
theorem implviewOf (g : TGraph) (v : TView) (h : TGraph) (ok : Bool) (hz : okView v) (hok : ok = true → validV g v = true → goodB h v.Automaton v.Source 0 = true) : FnT Tryz.prog 54 [.agg (cGraph g), .agg (cView v), .agg (cGraph h), .one (.v (.bool ok))] (.tup [.agg (cView (viewAft g v (h, ok)).1), .one (.v (.bool (viewAft g v (h, ok)).2))]) := by
 refine FnT.walk Tryz.func54 rfl (by kernel_rfl) Tryz.ntmps54 rfl fun hlen w0 => ?_
 try simp [cEdge, cGraph, cStep, cChange, cBatch, cAutomaton, cProductStep, cView] at hlen
 skip
 refine AW.sr ?_
 refine AWl.put (R_boxz rfl rfl rfl (.tm rfl) (ts := _) (by rfl)) rfl ?_
 refine AWl.put (R_boxz rfl rfl rfl (.tm rfl) (ts := _) (by rfl)) rfl ?_
 refine AWl.put (R_boxz rfl rfl rfl (.tm rfl) (ts := _) (by rfl)) rfl ?_
 refine AWl.add (R_alloc 8 rfl rfl rfl in38 rfl rfl rfl) rfl ?_
 refine AWl.ac rfl rfl rfl rfl rfl ?_
 refine AWl.nil ?_
 refine AW.seq ?_
 refine AW.sr ?_
 refine AWl.mv rfl rfl rfl rfl rfl ?_
 refine AWl.put (R_not rfl (.no rfl) rfl (.tm rfl)) rfl ?_
 refine AWl.mv rfl rfl rfl rfl rfl ?_
 refine AWl.put (by exact R_load rfl (by exact .not1 rfl rfl rfl rfl) rfl (.tmp rfl (by exact fun _ => rfl)) ty43 rfl rfl) rfl ?_
 refine AWl.put (by exact R_load rfl (by exact .not1 rfl rfl rfl rfl) rfl (.tmp rfl (by exact fun _ => rfl)) ty38 rfl rfl) rfl ?_
 refine AWl.put (R_callz (FnT.fr (implIsValidView g v)) rfl (by exact .not1 rfl rfl rfl rfl) rfl (.cons (.tmp rfl (by exact id)) rfl (.cons (.tmp rfl (by exact id)) rfl .nil))) rfl ?_
 refine AWl.put (R_not rfl (by exact .not1 rfl rfl rfl rfl) rfl (.tmp rfl (by exact id))) rfl ?_
 refine AWl.put (R_or rfl (.no rfl) rfl (.tm rfl) (.tmp rfl (by exact id))) rfl ?_
 refine AWl.nil ?_
 refine AW.cond (.tm rfl) (fun h17 => ?_) (fun h17 => ?_)
 ·skip
  skip
  have hc : (ok && validV g v) = false := by (have h17' : (!ok || !validV g v) = true := by simpa [validV] using h17); (cases hk0 : ok <;> cases hk1 : validV g v <;> simp_all)
  refine AW.seq ?_
  refine AW.le (σ' := ⟨_, [(0, _), (1, _), (2, _), (3, _), (4, _), (5, _), (6, _), (8, _), (9, _)], [(8, _)]⟩) (Le.sub0 rfl ⟨rfl, rfl, rfl, rfl, rfl, rfl, rfl, rfl, rfl, trivial⟩ ⟨rfl, trivial⟩) ?_
  refine AW.region ?_
  refine AWl.put (by exact R_load rfl (.no rfl) rfl (.tm rfl) ty38 rfl rfl) rfl ?_
  refine AWl.adds (R_call 1900 (implcopyView v hz) rfl rfl rfl (.cons (.tm rfl) rfl .nil) rfl rfl) rfl ?_
  refine AWl.chgb (R_store_pb rfl rfl rfl (.tm rfl) (.tm rfl) rfl ty38 rfl rfl rfl (by kernel_rfl) rfl) ?_
  refine AWl.le (σ' := ⟨_, [(0, _), (1, _), (2, _), (3, _), (4, _), (5, _), (6, _), (8, _), (9, _)], [(8, _), (1900, _), (1901, _), (1902, _), (1903, _)]⟩) (Le.sub0 rfl ⟨rfl, rfl, rfl, rfl, rfl, rfl, rfl, rfl, rfl, trivial⟩ ⟨rfl, rfl, rfl, rfl, rfl, trivial⟩) ?_
  refine AWl.ac rfl rfl rfl rfl rfl ?_
  refine AWl.nil ?_
  refine AW.ret ?_
  refine Res.many rfl (.cell rfl rfl ty38 rfl rfl (.tmp rfl .nil)) rfl ?_ (by simp)
  unfold viewAft; rw [hc]; rfl
 ·skip
  skip
  have hc : (ok && validV g v) = true := by (have h17' : (!ok || !validV g v) = false := by simpa [validV] using h17); (cases hk0 : ok <;> cases hk1 : validV g v <;> simp_all)
  refine AW.skip ?_
  refine AW.seq ?_
  refine AW.le (σ' := ⟨_, [(0, _), (1, _), (2, _), (3, _), (4, _), (5, _), (6, _), (8, _), (9, _)], [(8, _)]⟩) (Le.sub0 rfl ⟨rfl, rfl, rfl, rfl, rfl, rfl, rfl, rfl, rfl, trivial⟩ ⟨rfl, trivial⟩) ?_
  refine AW.region ?_
  refine AWl.put (by exact R_load rfl (.no rfl) rfl (.tm rfl) ty43 rfl rfl) rfl ?_
  refine AWl.put (by exact R_fieldAddr rfl (.no rfl) rfl (.tm rfl) fl38_0) rfl ?_
  refine AWl.put (by exact R_load rfl (.no rfl) rfl (.tm rfl) ty36 rfl rfl) rfl ?_
  refine AWl.put (by exact R_fieldAddr rfl (.no rfl) rfl (.tm rfl) fl38_1) rfl ?_
  refine AWl.put (by exact R_load rfl (.no rfl) rfl (.tm rfl) ty3 rfl rfl) rfl ?_
  refine AWl.adds (R_call 2500 (implBuildView h v.Automaton v.Source) rfl rfl rfl (.cons (.tm rfl) rfl (.cons (.tm rfl) rfl (.cons (.tm rfl) rfl .nil))) rfl rfl) rfl ?_
  refine AWl.put (R_extract rfl (.no rfl) rfl rfl (fun _ => rfl) rfl) rfl ?_
  refine AWl.put (R_extract rfl (.no rfl) rfl rfl (fun _ => rfl) rfl) rfl ?_
  refine AWl.chgb (R_store_pb rfl rfl rfl (.tm rfl) (.tm rfl) rfl ty38 rfl rfl rfl (by kernel_rfl) rfl) ?_
  refine AWl.le (σ' := ⟨_, [(0, _), (1, _), (2, _), (3, _), (4, _), (5, _), (6, _), (8, _), (9, _), (27, _)], [(8, _), (2500, _), (2501, _), (2502, _), (2503, _)]⟩) (Le.sub0 rfl ⟨rfl, rfl, rfl, rfl, rfl, rfl, rfl, rfl, rfl, rfl, trivial⟩ ⟨rfl, rfl, rfl, rfl, rfl, trivial⟩) ?_
  refine AWl.av rfl rfl rfl rfl rfl ?_
  refine AWl.nil ?_
  refine AW.ret ?_
  refine Res.many rfl (.cell rfl rfl ty38 rfl rfl (.tmp rfl .nil)) rfl ?_ (by simp)
  unfold viewAft buildV; rw [hc, if_pos (hok (by simp at hc; exact hc.1) (by simp at hc; exact hc.2))]; rfl
end Go.Proofs.YtoealglkenhphaaGreat
set_option linter.unusedVariables false
set_option linter.unusedSimpArgs false
set_option maxHeartbeats 1000000
set_option maxRecDepth 100000
namespace Go.Q
open Go.D
theorem findI_two {α : Type} (p : α → Bool) : ∀ (l : List α) (m : Nat), (findI p l m = -1 ∧ ∀ x ∈ l, p x = false) ∨ ∃ (k : Nat) (x : α), l[k]? = some x ∧ p x = true ∧ findI p l m = ((m + k : Nat) : Int) ∧ ∀ y ∈ l.take k, p y = false
 | [], m => .inl ⟨rfl, by simp⟩
 | z :: l, m => by
  rw [findI]
  cases hz : p z with
  | true => exact .inr ⟨0, z, rfl, hz, by simp, by simp⟩
  | false =>
   rw [if_neg (by simp)]
   rcases findI_two p l (m + 1) with ⟨h1, h2⟩ | ⟨k, x, h1, h2, h3, h4⟩
   ·refine .inl ⟨h1, fun x hx => ?_⟩
    rcases List.mem_cons.1 hx with rfl | hx
    ·exact hz
    ·exact h2 x hx
   ·refine .inr ⟨k + 1, x, by simpa using h1, h2, by rw [h3]; omega, fun y hy => ?_⟩
    rw [List.take_succ_cons] at hy
    rcases List.mem_cons.1 hy with rfl | hy
    ·exact hz
    ·exact h4 y hy
def insAt (l : List TEdge) (e : TEdge) : Nat := (l.takeWhile fun x => decide (x.ID < e.ID)).length
theorem insAt_le (l : List TEdge) (e : TEdge) : insAt l e ≤ l.length := (List.takeWhile_prefix _).length_le
theorem insAt_lt {l : List TEdge} {e : TEdge} {k : Nat} {x : TEdge} (hk : k < insAt l e) (hx : l[k]? = some x) : x.ID < e.ID := by
 have hp := List.takeWhile_prefix (p := fun x : TEdge => decide (x.ID < e.ID)) (l := l)
 have h1 : (l.takeWhile fun x => decide (x.ID < e.ID))[k]? = some x := by
  rw [List.prefix_iff_getElem?] at hp
  have := hp k hk
  rw [← hx, this]; exact List.getElem?_eq_getElem hk
 have h2 := List.all_eq_true.1 (List.all_takeWhile (p := fun x : TEdge => decide (x.ID < e.ID)) (l := l)) x (List.mem_of_getElem? h1)
 simpa using h2
theorem insAt_eq : ∀ {l : List TEdge} {e : TEdge} {k : Nat}, k ≤ l.length → (∀ j x, j < k → l[j]? = some x → x.ID < e.ID) → (∀ x, l[k]? = some x → ¬ x.ID < e.ID) → insAt l e = k
 | [], e, k, hk, _, _ => by simp at hk; subst hk; rfl
 | y :: l, e, 0, _, _, h => by
  have := h y rfl
  unfold insAt
  rw [List.takeWhile_cons, if_neg (by simpa using this)]; rfl
 | y :: l, e, k + 1, hk, h1, h2 => by
  have h0 := h1 0 y (by omega) rfl
  have ih := insAt_eq (l := l) (e := e) (k := k) (by simp at hk; omega) (fun j x hj hx => h1 (j + 1) x (by omega) (by simpa using hx)) (fun x hx => h2 x (by simpa using hx))
  unfold insAt at ih ⊢
  rw [List.takeWhile_cons, if_pos (by simpa using h0), List.length_cons, ih]
theorem insAt_ge {l : List TEdge} {e : TEdge} {x : TEdge} (hx : l[insAt l e]? = some x) : ¬ x.ID < e.ID := by
 have h1 := List.getElem?_eq_some_iff.1 hx
 have h2 : l = (l.takeWhile fun x => decide (x.ID < e.ID)) ++ l.dropWhile fun x => decide (x.ID < e.ID) := (List.takeWhile_append_dropWhile).symm
 rw [h2, List.getElem?_append_right (by unfold insAt; rw [← h2]; exact Nat.le_refl _)] at hx
 rw [← h2] at hx
 have e0 : insAt l e - (l.takeWhile fun x => decide (x.ID < e.ID)).length = 0 := by unfold insAt; omega
 rw [e0] at hx
 cases hd : l.dropWhile fun x => decide (x.ID < e.ID) with
 | nil => rw [hd] at hx; cases hx
 | cons z r =>
  rw [hd] at hx
  simp at hx
  subst hx
  have := List.head?_dropWhile_not (fun x : TEdge => decide (x.ID < e.ID)) l
  rw [hd] at this
  simpa using this
def insL (l : List TEdge) (e : TEdge) : List TEdge := l.take (insAt l e) ++ e :: l.drop (insAt l e)
def insOk (g : TGraph) (e : TEdge) : Bool := validG g && edgeOk e g.Values.length && decide (edgeIndex g e.ID < 0) && !decide (g.Edges.length = 12)
def insG (g : TGraph) (e : TEdge) : TGraph × Bool := if insOk g e = true then (⟨g.Values, insL g.Edges e⟩, true) else (g, false)
theorem insL_get {l : List TEdge} {e : TEdge} {k : Nat} : (insL l e)[k]? = if k < insAt l e then l[k]? else if k = insAt l e then some e else l[k - 1]? := by
 have hle := insAt_le l e
 unfold insL
 by_cases h : k < insAt l e
 ·rw [if_pos h, List.getElem?_append_left (by rw [List.length_take]; omega), List.getElem?_take, if_pos h]
 ·rw [if_neg h, List.getElem?_append_right (by rw [List.length_take]; omega), List.length_take, show min (insAt l e) l.length = insAt l e by omega]
  by_cases h2 : k = insAt l e
  ·rw [if_pos h2, h2]; simp
  ·rw [if_neg h2, show k - insAt l e = (k - 1 - insAt l e) + 1 by omega, List.getElem?_cons_succ, List.getElem?_drop]
   congr 1; omega
theorem insL_len (l : List TEdge) (e : TEdge) : (insL l e).length = l.length + 1 := by
 have hle := insAt_le l e
 unfold insL
 rw [List.length_append, List.length_cons, List.length_take, List.length_drop]; omega
theorem idx_none {g : TGraph} {id : Int} (h : edgeIndex g id < 0) {x : TEdge} (hx : x ∈ g.Edges) : x.ID ≠ id := by
 unfold edgeIndex at h
 rcases findI_two (fun e : TEdge => decide (e.ID = id)) g.Edges 0 with ⟨_, h2⟩ | ⟨k, _, _, _, h3, _⟩
 ·simpa using h2 x hx
 ·rw [h3] at h; omega
theorem insG_valid {g : TGraph} {e : TEdge} (h : (insG g e).2 = true) : validG (insG g e).1 = true ∧ (insG g e).1.Values = g.Values ∧ validG g = true := by
 unfold insG at *
 split at h
 ·rename_i hc
  rw [if_pos hc]
  unfold insOk at hc
  simp only [Bool.and_eq_true, decide_eq_true_eq, Bool.not_eq_true', decide_eq_false_iff_not] at hc
  obtain ⟨⟨⟨hg, he⟩, hi⟩, h12⟩ := hc
  refine ⟨?_, rfl, hg⟩
  have hri := rise_all (validG_rise hg)
  have hg' := hg
  unfold validG at hg' ⊢
  simp only [Bool.and_eq_true, decide_eq_true_eq] at hg' ⊢
  have hle := insAt_le g.Edges e
  refine ⟨⟨hg'.1.1, List.all_eq_true.2 fun k hk => ?_⟩, hg'.2.1, by rw [insL_len]; omega⟩
  have hk := List.mem_range.1 hk
  rw [insL_len] at hk
  have hlook : ∀ q y, g.Edges[q]? = some y → edgeOk y (g.Values.length : Int) = true := fun q y hy => by
   have := List.all_eq_true.1 hg'.1.2 q (List.mem_range.2 (List.getElem?_eq_some_iff.1 hy).1)
   unfold edgeAt at this
   rw [hy] at this
   simp only [Bool.and_eq_true] at this
   exact this.1
  unfold edgeAt
  simp only [insL_get]
  by_cases h1 : k < insAt g.Edges e
  ·rw [if_pos h1, List.getElem?_eq_getElem (show k < g.Edges.length by omega)]
   simp only [Bool.and_eq_true, Bool.not_eq_true', Bool.and_eq_false_iff, decide_eq_false_iff_not]
   refine ⟨hlook k _ (List.getElem?_eq_getElem _), ?_⟩
   by_cases h0 : k = 0
   ·exact .inl (by omega)
   ·rw [if_pos (by omega), List.getElem?_eq_getElem (show k - 1 < g.Edges.length by omega), Option.getD_some]
    have := hri 0 (k - 1) _ _ (List.getElem?_eq_getElem (show k - 1 < g.Edges.length by omega)) (by rw [show k - 1 + 0 + 1 = k by omega]; exact List.getElem?_eq_getElem (show k < g.Edges.length by omega))
    exact .inr (by omega)
  ·rw [if_neg h1]
   by_cases h2 : k = insAt g.Edges e
   ·rw [if_pos h2]
    simp only [Bool.and_eq_true, Bool.not_eq_true', Bool.and_eq_false_iff, decide_eq_false_iff_not]
    refine ⟨he, ?_⟩
    by_cases h0 : k = 0
    ·exact .inl (by omega)
    ·rw [if_pos (by omega), List.getElem?_eq_getElem (show k - 1 < g.Edges.length by omega), Option.getD_some]
     have := insAt_lt (l := g.Edges) (e := e) (k := k - 1) (by omega) (List.getElem?_eq_getElem (show k - 1 < g.Edges.length by omega))
     exact .inr (by omega)
   ·rw [if_neg h2, List.getElem?_eq_getElem (show k - 1 < g.Edges.length by omega)]
    simp only [Bool.and_eq_true, Bool.not_eq_true', Bool.and_eq_false_iff, decide_eq_false_iff_not]
    refine ⟨hlook (k - 1) _ (List.getElem?_eq_getElem _), .inr ?_⟩
    rw [if_neg (by omega)]
    by_cases h3 : k - 1 = insAt g.Edges e
    ·rw [if_pos h3, Option.getD_some]
     have hy : g.Edges[insAt g.Edges e]? = some (g.Edges[k - 1]'(by omega)) := by rw [← h3]; exact List.getElem?_eq_getElem _
     have h4 := insAt_ge hy
     have h5 := idx_none hi (List.mem_of_getElem? hy)
     omega
    ·rw [if_neg h3, List.getElem?_eq_getElem (show k - 1 - 1 < g.Edges.length by omega), Option.getD_some]
     have := hri 0 (k - 1 - 1) _ _ (List.getElem?_eq_getElem (show k - 1 - 1 < g.Edges.length by omega)) (by rw [show k - 1 - 1 + 0 + 1 = k - 1 by omega]; exact List.getElem?_eq_getElem (show k - 1 < g.Edges.length by omega))
     omega
 ·cases h
def chgG (g : TGraph) (c : TChange) : TGraph × Bool := if c.Insert = true then insG g c.Edge else if c.Edge ∈ g.Edges then delG g c.Edge.ID else (g, false)
def runL : TGraph → List TChange → TGraph × Bool
 | g, [] => (g, true)
 | g, c :: r => if (chgG g c).2 = true then runL (chgG g c).1 r else (g, false)
def applyB (g : TGraph) (b : TBatch) : TGraph × Bool := if validG g = true ∧ b.Changes.length ≤ 6 ∧ (runL g b.Changes).2 = true then runL g b.Changes else (g, false)
theorem chgG_valid {g : TGraph} {c : TChange} (h : (chgG g c).2 = true) : validG (chgG g c).1 = true ∧ (chgG g c).1.Values = g.Values ∧ validG g = true := by
 unfold chgG at *
 split at h
 ·rename_i hi; rw [if_pos hi]; exact insG_valid h
 ·rename_i hi
  rw [if_neg hi]
  split at h
  ·rename_i hm; rw [if_pos hm]; exact delG_valid h
  ·cases h
theorem runL_valid : ∀ {l : List TChange} {g : TGraph}, validG g = true → (runL g l).2 = true → validG (runL g l).1 = true ∧ (runL g l).1.Values = g.Values
 | [], g, hg, _ => ⟨hg, rfl⟩
 | c :: r, g, hg, h => by
  unfold runL at h ⊢
  split at h
  ·rename_i hc
   rw [if_pos hc]
   obtain ⟨h1, h2, _⟩ := chgG_valid hc
   obtain ⟨h3, h4⟩ := runL_valid h1 h
   exact ⟨h3, h4.trans h2⟩
  ·cases h
theorem applyB_valid {g : TGraph} {b : TBatch} (h : (applyB g b).2 = true) : validG (applyB g b).1 = true ∧ (applyB g b).1.Values = g.Values ∧ validG g = true := by
 unfold applyB at *
 split at h
 ·rename_i hc
  rw [if_pos hc]
  exact ⟨(runL_valid hc.1 h).1, (runL_valid hc.1 h).2, hc.1⟩
 ·cases h
theorem runL_at {l : List TChange} {k : Nat} {x : TChange} {g : TGraph} (hx : l[k]? = some x) (h : (chgG g x).2 = true) : runL g (l.drop k) = runL (chgG g x).1 (l.drop (k + 1)) := by
 obtain ⟨hk, rfl⟩ := List.getElem?_eq_some_iff.1 hx
 rw [List.drop_eq_getElem_cons hk, runL, if_pos h]
theorem runL_bad {l : List TChange} {k : Nat} {x : TChange} {g : TGraph} (hx : l[k]? = some x) (h : (chgG g x).2 = false) : (runL g (l.drop k)).2 = false := by
 obtain ⟨hk, rfl⟩ := List.getElem?_eq_some_iff.1 hx
 rw [List.drop_eq_getElem_cons hk, runL, if_neg (by rw [h]; decide)]
theorem applyB_no {g : TGraph} {b : TBatch} (h : validG g = false ∨ 6 < b.Changes.length ∨ (runL g b.Changes).2 = false) : applyB g b = (g, false) := by
 unfold applyB
 rw [if_neg]
 rintro ⟨h1, h2, h3⟩
 rcases h with h | h | h
 ·rw [h1] at h; cases h
 ·omega
 ·rw [h3] at h; cases h
theorem mem_index {g : TGraph} (hg : validG g = true) {e : TEdge} : e ∈ g.Edges ↔ ∃ k : Nat, edgeIndex g e.ID = (k : Int) ∧ g.Edges[k]? = some e := by
 constructor
 ·intro hm
  obtain ⟨i, hi⟩ := List.getElem?_of_mem hm
  rcases findI_two (fun x : TEdge => decide (x.ID = e.ID)) g.Edges 0 with ⟨_, h2⟩ | ⟨k, x, h1, h2, h3, h4⟩
  ·have := h2 e hm; simp at this
  ·refine ⟨k, by unfold edgeIndex; rw [h3]; simp, ?_⟩
   have hxe : x.ID = e.ID := by simpa using h2
   have hri := rise_all (validG_rise hg)
   have : k = i := by
    rcases Nat.lt_trichotomy k i with h | h | h
    ·have := hri (i - k - 1) k x e h1 (by rw [show k + (i - k - 1) + 1 = i by omega]; exact hi); omega
    ·exact h
    ·have := hri (k - i - 1) i e x hi (by rw [show i + (k - i - 1) + 1 = k by omega]; exact h1); omega
   rw [this]; exact hi
 ·rintro ⟨k, _, h⟩; exact List.mem_of_getElem? h
end Go.Q
set_option linter.unusedVariables false
set_option linter.unusedSimpArgs false
namespace Go.Q
open Go.RowKit
def swN (u v i : Nat) : Nat := bif Nat.beq i u then v else bif Nat.beq i v then u else i
theorem swN_if (u v i : Nat) : swN u v i = if i = u then v else if i = v then u else i := by
 unfold swN
 have e : ∀ a b : Nat, Nat.beq a b = decide (a = b) := fun a b => by
  cases h : Nat.beq a b with
  | true => simp [Nat.eq_of_beq_eq_true h]
  | false => simp [Nat.ne_of_beq_eq_false h]
 rw [e, e]
 by_cases h1 : i = u
 ·simp [h1]
 ·by_cases h2 : i = v
  ·simp [h1, h2]
  ·simp [h1, h2]
theorem swN_swN (u v i : Nat) : swN u v (swN u v i) = i := by
 rw [swN_if, swN_if]
 by_cases h1 : i = u
 ·subst h1
  rw [if_pos rfl]
  by_cases h2 : v = i
  ·rw [if_pos h2, h2]
  ·rw [if_neg h2, if_pos rfl]
 ·rw [if_neg h1]
  by_cases h2 : i = v
  ·subst h2; rw [if_pos rfl, if_pos rfl]
  ·rw [if_neg h2, if_neg h1, if_neg h2]
theorem swN_inj {u v i j : Nat} (h : swN u v i = swN u v j) : i = j := by
 have := congrArg (swN u v) h
 rwa [swN_swN, swN_swN] at this
def swE (u v : Nat) : E → E
 | .t x => .t x
 | .rf id => .rf (swN u v id)
 | .vw id x => .vw (swN u v id) x
 | .pp id o => .pp (swN u v id) o
 | .pr id k i j => .pr (swN u v id) k i j
 | .sb id k i j => .sb (swN u v id) k i j
 | .tl id k j => .tl (swN u v id) k j
 | .pf id k m => .pf (swN u v id) k m
 | .no => .no
def swEs (u v : Nat) : List E → List E
 | [] => []
 | e :: r => swE u v e :: swEs u v r
def swA (u v : Nat) : A → A
 | .one e => .one (swE u v e)
 | .agg l => .agg (swEs u v l)
def swAs (u v : Nat) : List A → List A
 | [] => []
 | e :: r => swA u v e :: swAs u v r
def swS (u v : Nat) : S → S
 | .a x => .a (swA u v x)
 | .tup l => .tup (swAs u v l)
def swR (u v : Nat) : R → R
 | .row k rows => .row k rows
 | .box cs => .box (swEs u v cs)
 | .hdr none x => .hdr none x
 | .hdr (some j) x => .hdr (some (swN u v j)) x
def swSl (u v : Nat) : List (Nat × (Bool × S)) → List (Nat × (Bool × S))
 | [] => []
 | (i, p, x) :: r => (i, p, swS u v x) :: swSl u v r
def swRl (u v : Nat) : List (Nat × R) → List (Nat × R)
 | [] => []
 | (i, x) :: r => (swN u v i, swR u v x) :: swRl u v r
def St.sw (u v : Nat) (σ : St) : St := ⟨σ.n, swSl u v σ.slots, swRl u v σ.res⟩
def Ip.sw (u v : Nat) (I : Ip) : Ip := ⟨I.Z, fun i => I.F (swN u v i), fun i => I.hd (swN u v i), fun i => I.B (swN u v i)⟩
section
variable {u v : Nat} {I : Ip} {w : World}
theorem VE.sw {e : E} {c : Value} (h : VE I w e c) : VE (I.sw u v) w (swE u v e) c := by
 cases e <;> simp only [VE, swE, Ip.sw, swN_swN] at h ⊢ <;> exact h
theorem VEs.sw : ∀ {l : List E} {cs : List Value}, VEs I w l cs → VEs (I.sw u v) w (swEs u v l) cs
 | [], _, h => h
 | e :: r, cs, h => by
  obtain ⟨c, cr, h1, h2, h3⟩ := h
  exact ⟨c, cr, h1, h2.sw, VEs.sw h3⟩
theorem VA.sw {x : A} {c : Value} (h : VA I w x c) : VA (I.sw u v) w (swA u v x) c := by
 cases x with
 | one e => exact VE.sw (show VE I w e c from h)
 | agg l => obtain ⟨cs, h1, h2⟩ := h; exact ⟨cs, h1, h2.sw⟩
theorem VAs.sw : ∀ {l : List A} {cs : List Value}, VAs I w l cs → VAs (I.sw u v) w (swAs u v l) cs
 | [], _, h => h
 | e :: r, cs, h => by
  obtain ⟨c, cr, h1, h2, h3⟩ := h
  exact ⟨c, cr, h1, h2.sw, VAs.sw h3⟩
theorem VS.sw {p : Bool} {x : S} {c : Value} (h : VS I w (p, x) c) : VS (I.sw u v) w (p, swS u v x) c := by
 unfold VS at h ⊢
 simp only at h ⊢
 split at h
 ·rename_i hp
  rw [if_pos hp]
  cases x with
  | a x => exact VA.sw h
  | tup l => obtain ⟨vs, h1, h2⟩ := h; exact ⟨vs, h1, h2.sw⟩
 ·rename_i hp
  rw [if_neg hp]; exact h
theorem RR.sw {id : Nat} {r : R} (h : RR I w id r) : RR (I.sw u v) w (swN u v id) (swR u v r) := by
 cases r with
 | row k rows => unfold RR swR Ip.sw; simp only [swN_swN]; exact h
 | box cs =>
  obtain ⟨h1, vs, e, h2, h3⟩ := h
  unfold RR swR
  simp only
  refine ⟨by simpa only [Ip.sw, swN_swN] using h1, vs, e, by simpa only [Ip.sw, swN_swN] using h2, h3.sw⟩
 | hdr j x =>
  obtain ⟨h1, h2⟩ := h
  cases j with
  | none => exact ⟨by simpa only [Ip.sw, swN_swN] using h1, fun i hi => by cases hi⟩
  | some j =>
   refine ⟨by simpa only [Ip.sw, swN_swN] using h1, fun i hi => ?_⟩
   cases hi
   simpa only [Ip.sw, swN_swN] using h2 j rfl
end
theorem look_swSl (u v : Nat) : ∀ (l : List (Nat × (Bool × S))) (i : Nat) (y : Bool × S), look (swSl u v l) i = some y → ∃ x, look l i = some (y.1, x) ∧ y.2 = swS u v x
 | [], _, _, h => by cases h
 | (k, p, x) :: r, i, y, h => by
  rw [swSl, look_cons] at h
  by_cases e : k = i
  ·rw [if_pos e] at h
   cases h
   exact ⟨x, by rw [look_cons, if_pos e], rfl⟩
  ·rw [if_neg e] at h
   obtain ⟨x', h1, h2⟩ := look_swSl u v r i y h
   exact ⟨x', by rw [look_cons, if_neg e]; exact h1, h2⟩
theorem look_swRl (u v : Nat) : ∀ (l : List (Nat × R)) (i : Nat) (y : R), look (swRl u v l) i = some y → ∃ x, look l (swN u v i) = some x ∧ y = swR u v x
 | [], _, _, h => by cases h
 | (k, x) :: r, i, y, h => by
  rw [swRl, look_cons] at h
  by_cases e : swN u v k = i
  ·rw [if_pos e] at h
   cases h
   exact ⟨x, by rw [look_cons, if_pos (by rw [← e, swN_swN])], rfl⟩
  ·rw [if_neg e] at h
   obtain ⟨x', h1, h2⟩ := look_swRl u v r i y h
   exact ⟨x', by rw [look_cons, if_neg (fun h => e (by rw [h, swN_swN]))]; exact h1, h2⟩
theorem Le.sw (u v : Nat) (σ : St) : Le σ (σ.sw u v) := by
 rintro w0 a w ⟨I, h⟩
 refine ⟨I.sw u v, ⟨h.ext, h.defers, h.size, fun i x hx => ?_, fun id r hr => ?_, h.old, fun id b hb => h.lt (swN u v id) b hb, fun id r hr => ?_, fun i j hij b hb => ?_⟩⟩
 ·obtain ⟨y, h1, h2⟩ := look_swSl u v σ.slots i x hx
  have := (h.slots i _ h1).sw (u := u) (v := v)
  rw [← h2] at this
  exact this
 ·obtain ⟨y, h1, h2⟩ := look_swRl u v σ.res id r hr
  have := (h.res _ _ h1).sw (u := u) (v := v)
  rw [swN_swN, ← h2] at this
  exact this
 ·obtain ⟨y, h1, h2⟩ := look_swRl u v σ.res id r hr
  exact h.own _ _ h1
 ·exact h.apart (swN u v i) (swN u v j) (fun e => hij (swN_inj e)) b hb
theorem Le.trans {σ σ' σ'' : St} (h1 : Le σ σ') (h2 : Le σ' σ'') : Le σ σ'' := fun w0 a w h => h2 w0 a w (h1 w0 a w h)
section
variable {Q : Exit → St → Prop} {σ : St}
theorem ThenQ.ex {K : St → Prop} {i : Nat} (h : Q (.exit i) σ) : ThenQ K Q (.exit i) σ := h
theorem Round1.ex {β1 : Type} {Inv : β1 → Prop} {J : β1 → St} {m : β1 → Nat} {a1 : β1} {i : Nat} (h : Q (.exit i) σ) : Round1 Inv J m a1 Q (.exit i) σ := h
theorem Round2.ex {β1 β2 : Type} {Inv : β1 → β2 → Prop} {J : β1 → β2 → St} {m : β1 → β2 → Nat} {a1 : β1} {a2 : β2} {i : Nat} (h : Q (.exit i) σ) : Round2 Inv J m a1 a2 Q (.exit i) σ := h
theorem Round3.ex {β1 β2 β3 : Type} {Inv : β1 → β2 → β3 → Prop} {J : β1 → β2 → β3 → St} {m : β1 → β2 → β3 → Nat} {a1 : β1} {a2 : β2} {a3 : β3} {i : Nat} (h : Q (.exit i) σ) : Round3 Inv J m a1 a2 a3 Q (.exit i) σ := h
theorem Round4.ex {β1 β2 β3 β4 : Type} {Inv : β1 → β2 → β3 → β4 → Prop} {J : β1 → β2 → β3 → β4 → St} {m : β1 → β2 → β3 → β4 → Nat} {a1 : β1} {a2 : β2} {a3 : β3} {a4 : β4} {i : Nat} (h : Q (.exit i) σ) : Round4 Inv J m a1 a2 a3 a4 Q (.exit i) σ := h
theorem Round5.ex {β1 β2 β3 β4 β5 : Type} {Inv : β1 → β2 → β3 → β4 → β5 → Prop} {J : β1 → β2 → β3 → β4 → β5 → St} {m : β1 → β2 → β3 → β4 → β5 → Nat} {a1 : β1} {a2 : β2} {a3 : β3} {a4 : β4} {a5 : β5} {i : Nat} (h : Q (.exit i) σ) : Round5 Inv J m a1 a2 a3 a4 a5 Q (.exit i) σ := h
end
section
variable {P : Program} {ops : Array Oper} {o : Oper} {σ : St} {q : Bool}
end
end Go.Q
set_option linter.unusedVariables false
set_option linter.unusedSimpArgs false
namespace Go.Q
open Go.RowKit
end Go.Q
set_option linter.unusedVariables false
set_option linter.unusedSimpArgs false
namespace Go.Q
open Go.RowKit
section
variable {P : Program} {ops : Array Oper} {o : Oper} {σ : St} {q : Bool}
end
end Go.Q
set_option linter.unusedVariables false
set_option linter.unusedSimpArgs false
namespace Go.Q
open Go.RowKit
section
variable {P : Program} {ops : Array Oper} {o : Oper} {σ : St}
end
end Go.Q
set_option linter.unusedVariables false
set_option linter.unusedSimpArgs false
namespace Go.Q
open Go.RowKit
section
variable {P : Program} {ops : Array Oper} {o : Oper} {σ : St} {q : Bool}
end
end Go.Q
set_option linter.unusedVariables false
set_option linter.unusedSimpArgs false
namespace Go.Q
open Go.RowKit
section
variable {P : Program} {ops : Array Oper} {o : Oper} {σ : St} {q : Bool}
end
end Go.Q
set_option linter.unusedVariables false
set_option linter.unusedSimpArgs false
namespace Go.Q
open Go.RowKit
section
variable {P : Program} {ops : Array Oper} {o : Oper} {σ : St} {q : Bool}
end
end Go.Q
set_option linter.unusedVariables false
set_option linter.unusedSimpArgs false
namespace Go.Q
open Go.RowKit
section
variable {P : Program} {ops : Array Oper} {o : Oper} {σ : St}
inductive GetL (σ : St) : List Operand → List E → Prop where
 | nil : GetL σ [] []
 | cons {x : Operand} {e : E} {l : List Operand} {es : List E} (hx : Get σ true x (.one e)) (h : GetL σ l es) : GetL σ (x :: l) (e :: es)
theorem GetL.ves {I : Ip} {w0 : Base} {w : World} {a : Act} (hr : RelI I w0 σ a w) {l : List Operand} {es : List E} (h : GetL σ l es) : VEs I w es (l.map a.eval) := by
 induction h with
 | nil => rfl
 | cons hx h ih => exact ⟨_, _, rfl, hx.va hr rfl, ih⟩
def ownAll (ts : List T) : List (Bool × V0) := ts.map fun t => (true, .one t)
theorem V0c_all {w : World} {FF : List Nat} : ∀ {ts : List T} {cs : List Value} {G : List Nat}, Cs true w ts cs G → V0c w FF (ownAll ts) cs G
 | [], cs, G, h => by simp only [Cs] at h; exact h
 | t :: ts, cs, G, h => by
  simp only [Cs] at h
  obtain ⟨c, cr, G1, G2, rfl, h1, h2, rfl⟩ := h
  exact ⟨c, cr, G1, G2, rfl, h1, V0c_all h2, by simp⟩
theorem R_consumeL {f : FuncId} {l : List Operand} {tys : Array TypeId} {es : List E} {ts : List T} {out : V} {σ' : St} {y : S} {rs : List (Nat × R)} (n : Nat) (h : FnC P f (ownAll ts) out) (ho : o.op = .call { callee := .value (.func f), args := l.toArray, argTypes := tys }) (hg : o.guard = none) (hd : o.dst.all (fun d => Nat.blt d σ.n) = true)
  (hx : GetL σ l es) (ha : absorb σ es = some (σ', ts)) (hout : outV n out = some (y, rs)) (hf : (rs.all fun x => !σ'.has x.1) = true) : Op1 P ops o σ ((σ'.adds rs).put o.dst (true, y)) := by
 rintro w0 a w ⟨I, hr⟩ K Q hK
 simp only [Region.wanted, hg, if_true]
 obtain ⟨I', G, r1, r2, r3, r4, _⟩ := RelI.absorb ha hr (hx.ves hr)
 have hc : V0c w G (ownAll ts) (l.map a.eval) G := V0c_all r2
 unfold Oper.wp
 rw [run_enter h.1 ho]
 refine (h.2 w _ G (r1.goodF fun b hb => (r4 b hb).1) hc r3 fun b hb => (r4 b hb).2.2.1).mono fun e w' hR => ?_
 obtain ⟨v, F', rfl, h1, h2, h3, h4⟩ := hR
 have r1' := r1.chgF r4 h4
 have hfree : ∀ b ∈ F', Free I' w0 w' b := fun b hb => by
  rcases (h3 b hb).1 with g | g
  ·exact ⟨.inl (Nat.le_trans r1.ext.size g), Vr.lt h1 b hb, (h3 b hb).2, fun hz => by have := r1.old b hz; omega, fun i hi => by have := (r1.lt i b hi).1; omega⟩
  ·exact ⟨(r4 b g).1, Vr.lt h1 b hb, (h3 b hb).2, (r4 b g).2.2.2.1, (r4 b g).2.2.2.2⟩
 obtain ⟨I2, g1, g2⟩ := outV_ok hout hf r1' h1 h2 hfree
 refine hK _ _ ⟨I2, g1.put ?_ g2⟩
 have e1 : (σ'.adds rs).n = σ'.n := adds_n rs
 rw [e1, absorb_n ha]; exact hd
end
end Go.Q
set_option linter.unusedVariables false
set_option linter.unusedSimpArgs false
namespace Go.Q
open Go.RowKit
section
variable {P : Program}
structure MixD (P : Program) (l : List Oper) (n : Nat) (sl : List (Nat × (Bool × S))) (rs : List (Nat × R)) (outs : List Out) (acc : List (Nat × St)) (todo : List (Nat × List Nat)) (es : List (Nat × Nat × Nat)) (Fin : (Nat → St) → Prop) : Prop where
 pf : ∃ st : Nat → St, (∀ k σ, look acc k = some σ → st k = σ) ∧ (∀ p ∈ todo, Le (stL (memN p.2) 0 outs ⟨n, sl, rs⟩) (st p.1)) ∧ (∀ e ∈ es, ∀ o, l[e.2.1]? = some o → ∀ w0, AWl P w0 l.toArray (EndQ (st e.2.2)) [o] (st e.1)) ∧ Fin st
variable {l : List Oper} {n : Nat} {sl : List (Nat × (Bool × S))} {rs : List (Nat × R)} {outs : List Out} {acc : List (Nat × St)} {todo : List (Nat × List Nat)} {es : List (Nat × Nat × Nat)} {Fin : (Nat → St) → Prop}
theorem MixD.add {b : Nat} {S : List Nat} (σ' : St) (hb : look acc b = none) (hle : Le (stL (memN S) 0 outs ⟨n, sl, rs⟩) σ') (h : MixD P l n sl rs outs ((b, σ') :: acc) todo es Fin) : MixD P l n sl rs outs acc ((b, S) :: todo) es Fin := by
 obtain ⟨st, h1, h2, h3⟩ := h.pf
 have h1' : ∀ k σ, look acc k = some σ → st k = σ := fun k σ hk => h1 k σ (by
  rw [look_cons, if_neg (fun e => ?_)]
  ·exact hk
  ·subst e; rw [hb] at hk; cases hk)
 refine ⟨st, h1', fun p hp => ?_, h3⟩
 rcases List.mem_cons.1 hp with rfl | hp
 ·show Le _ (st b)
  rw [h1 b σ' (by rw [look_cons, if_pos rfl])]
  exact hle
 ·exact h2 p hp
theorem MixD.go (h : Dag P l acc es Fin) : MixD P l n sl rs outs acc [] es Fin := by
 obtain ⟨st, h1, h2, h3⟩ := h.pf
 exact ⟨st, h1, fun p hp => (by cases hp), h2, h3⟩
def FinX (P : Program) (w0 : Base) (Q : Exit → St → Prop) (N k : Nat) (B : Nat → List Nat) (es : List (Nat × Nat × Nat)) (todo : List (Nat × List Nat)) (l : List Oper) (n : Nat) (sl : List (Nat × (Bool × S))) (rs : List (Nat × R)) (outs : List Out) : Prop :=
 delS (outs.map (·.1)) sl = sl ∧ outB B ⟨n, sl, rs⟩ outs = true ∧ MixD P l n sl rs outs [] todo es (fun st => AWl P w0 l.toArray Q (l.drop N) (st k))
theorem FinX.mk {w0 : Base} {Q : Exit → St → Prop} {N k : Nat} {B : Nat → List Nat} (hd : delS (outs.map (·.1)) sl = sl) (hU : outB B ⟨n, sl, rs⟩ outs = true) (h : MixD P l n sl rs outs [] todo es (fun st => AWl P w0 l.toArray Q (l.drop N) (st k))) : FinX P w0 Q N k B es todo l n sl rs outs := ⟨hd, hU, h⟩
end
end Go.Q
set_option linter.unusedVariables false
set_option linter.unusedSimpArgs false
set_option maxHeartbeats 1000000
set_option maxRecDepth 100000
namespace Go.Proofs.YtoealglkenhphaaGreat
open Go.RowKit Go.Q Go.D
theorem insEnd (l : List TEdge) (e : TEdge) (hz : l.length ≤ 1048576) : FnC Tryz.prog 108 (ownAll [.sl 4 (l.map cEdge), .v (.int .i64 (l.length : Nat)), .sl 4 [cEdge e]]) (.a (.one (.sl 4 ((l ++ [e]).map cEdge)))) := by
 refine FnC.walk Tryz.func108 rfl (by kernel_rfl) Tryz.ntmps108 rfl (by rfl) fun w0 => ?_
 refine AW.le (σ' := ⟨_, [(0, _), (1, _), (2, _)], [(1000, _), (1100, _)]⟩) (Le.sub0 rfl ⟨rfl, rfl, rfl, trivial⟩ ⟨rfl, rfl, trivial⟩) ?_
 try simp [cEdge, cGraph, cStep, cChange, cBatch, cAutomaton, cProductStep, cView] at hlen
 refine AW.sr ?_
 refine AWl.ac rfl rfl rfl rfl rfl ?_
 refine AWl.nilS (i := 6) 20001 4 rfl rfl ?_
 refine AWl.nil ?_
 refine AW.sr ?_
 refine AWl.mv rfl rfl rfl rfl rfl ?_
 refine AWl.mv rfl rfl rfl rfl rfl ?_
 refine AWl.put (R_slice_vwr (n := l.length) rfl (.no rfl) rfl (.tm rfl) rfl (.yes (.tm rfl) (fun _ => by first | rfl | omega | (simp <;> omega))) .no Tryz.underlying41 ty46 (fun _ => ⟨by simp, by simp⟩)) rfl ?_
 refine AWl.nil ?_
 refine AW.sr ?_
 refine AWl.mv rfl rfl rfl rfl rfl ?_
 refine AWl.put (by exact R_len rfl (.no rfl) rfl (.tm rfl) (by exact .rf rfl) Tryz.underlying41) rfl ?_
 refine AWl.av rfl rfl rfl rfl rfl ?_
 refine AWl.nil ?_
 refine AW.seq ?_
 refine AW.sr ?_
 refine AWl.mv rfl rfl rfl rfl rfl ?_
 refine AWl.put (R_eq rfl (.no rfl) rfl (.tm rfl) (.const rfl)) rfl ?_
 refine AWl.nil ?_
 refine AW.cond (.tm rfl) (fun h16 => ?_) (fun h16 => ?_)
 ·exact absurd h16 (by simp)
 ·skip
  try simp at h16
  refine AW.skip ?_
  refine AW.seq ?_
  refine AW.le (σ' := ⟨_, [(0, _), (1, _), (2, _), (6, _), (7, _)], [(1000, _), (1100, _), (20001, _)]⟩) (Le.sub0 rfl ⟨rfl, rfl, rfl, rfl, rfl, trivial⟩ ⟨rfl, rfl, rfl, trivial⟩) ?_
  refine AW.region ?_
  refine AWl.mv rfl rfl rfl rfl rfl ?_
  refine AWl.put (by exact R_lenm rfl (.no rfl) rfl (.tm rfl) (by exact .rf rfl) Tryz.underlying41) rfl ?_
  refine AWl.av rfl rfl rfl rfl rfl ?_
  refine AWl.nil ?_
  refine AW.seq ?_
  refine AW.sr ?_
  refine AWl.mv rfl rfl rfl rfl rfl ?_
  refine AWl.mv rfl rfl rfl rfl rfl ?_
  refine AWl.put (R_eq rfl (.no rfl) rfl (.tm rfl) (.tm rfl)) rfl ?_
  refine AWl.nil ?_
  refine AW.cond (.tm rfl) (fun h22 => ?_) (fun h22 => ?_)
  ·skip
   try simp at h22
   refine AW.sr ?_
   refine AWl.mv rfl rfl rfl rfl rfl ?_
   refine AWl.mv rfl rfl rfl rfl rfl ?_
   refine AWl.abschgput (R_append_own rfl rfl rfl (.tm rfl) rfl (.tm rfl) rfl rfl Tryz.underlying41 in46 rfl (by (simp [chunk]; omega)) (by (unfold maxLen; simp [chunk]; omega))) rfl ?_
   refine AWl.le (σ' := ⟨_, [(0, _), (1, _), (2, _), (6, _), (7, _), (8, _), (22, _), (25, _)], [(1000, _), (20001, _)]⟩) (Le.sub0 rfl ⟨rfl, rfl, rfl, rfl, rfl, rfl, rfl, rfl, trivial⟩ ⟨rfl, rfl, trivial⟩) ?_
   refine AWl.av rfl rfl rfl rfl rfl ?_
   refine AWl.nil ?_
   refine AW.ret ?_
   refine Res.one rfl (.tmp rfl .nil) rfl ?_
   simp; rfl
  ·exact absurd h22 (by simp)
end Go.Proofs.YtoealglkenhphaaGreat
