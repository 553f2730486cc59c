import Derived.Test.YtbkhopfpejhnlaaGreatB61rc
set_option linter.unusedVariables false
set_option linter.unusedSimpArgs false
set_option maxHeartbeats 1000000
set_option maxRecDepth 100000
namespace Go.Q
open Go.D
def gle (h g : TGraph) : Prop := h.Values = g.Values ∧ ∀ e ∈ h.Edges, e ∈ g.Edges
theorem gle.refl (g : TGraph) : gle g g := ⟨rfl, fun _ h => h⟩
theorem gle.trans {a b c : TGraph} (h1 : gle a b) (h2 : gle b c) : gle a c := ⟨h1.1.trans h2.1, fun e he => h2.2 e (h1.2 e he)⟩
theorem compL_mono {a b c d : List TPair} (h1 : ∀ p ∈ a, p ∈ c) (h2 : ∀ p ∈ b, p ∈ d) : ∀ p ∈ compL a b, p ∈ compL c d := fun p hp => by
 obtain ⟨x, hx, y, hy, h⟩ := mem_compL.1 hp
 exact mem_compL.2 ⟨x, h1 x hx, y, h2 y hy, h⟩
theorem pmerge_mono {a b c d : List TPair} (h1 : ∀ p ∈ a, p ∈ c) (h2 : ∀ p ∈ b, p ∈ d) : ∀ p ∈ pmerge a b, p ∈ pmerge c d := fun p hp => by
 rcases mem_pmerge.1 hp with h | h
 · exact mem_pmerge.2 (.inl (h1 p h))
 · exact mem_pmerge.2 (.inr (h2 p h))
theorem itC_mono {n : Nat} {l r : List TPair} (h : ∀ p ∈ l, p ∈ r) : ∀ k, ∀ p ∈ itC n l k, p ∈ itC n r k
 | 0 => fun _ hp => hp
 | k + 1 => pmerge_mono (itC_mono h k) (compL_mono (itC_mono h k) h)
theorem pwL_mono {n : Nat} {l r : List TPair} (h : ∀ p ∈ l, p ∈ r) : ∀ k, ∀ p ∈ pwL n l k, p ∈ pwL n r k
 | 0 => fun _ hp => hp
 | k + 1 => compL_mono (pwL_mono h k) h
theorem outP_mono {n : Nat} {l r : List TPair} {low : Int} (h : ∀ p ∈ l, p ∈ r) : ∀ k, ∀ p ∈ outP n l low k, p ∈ outP n r low k
 | 0 => fun _ hp => hp
 | k + 1 => by
  rw [outP, outP]
  split
  · exact pmerge_mono (outP_mono h k) (pwL_mono h k)
  · exact outP_mono h k
theorem letL_mono {h g : TGraph} (hl : gle h g) (k : Int) : ∀ p ∈ letL h k, p ∈ letL g k := fun p hp => by
 unfold letL at hp ⊢
 rw [mem_setG, List.mem_append] at hp ⊢
 rcases hp with hp | hp
 · refine .inl ?_
   obtain ⟨x, hx, hp⟩ := List.mem_flatMap.1 hp
   rw [hl.1] at hx
   refine List.mem_flatMap.2 ⟨x, hx, ?_⟩
   unfold selfP at hp ⊢
   rw [hl.1] at hp; exact hp
 · refine .inr ?_
   obtain ⟨e, he, hp⟩ := List.mem_flatMap.1 hp
   exact List.mem_flatMap.2 ⟨e, hl.2 e he, hp⟩
theorem relOf_mono {h g : TGraph} (hl : gle h g) : ∀ x : Tr, ∀ p ∈ relOf h x, p ∈ relOf g x
 | .leaf t => by
  rw [relOf, relOf, hl.1]
  split
  · exact fun _ hp => hp
  · split
    · exact letL_mono hl _
    · exact fun _ hp => hp
 | .un t x => by
  rw [relOf, relOf, hl.1]
  split
  · exact itC_mono (relOf_mono hl x) _
  · exact outP_mono (relOf_mono hl x) _
 | .bin t x y => by
  rw [relOf, relOf]
  split
  · exact compL_mono (relOf_mono hl x) (relOf_mono hl y)
  · exact pmerge_mono (relOf_mono hl x) (relOf_mono hl y)
theorem evalE_mono {h g : TGraph} {e : TExpr} (hl : gle h g) (hg : validG g = true) {p : TPair} (hp : p ∈ (evalE h e).1) : p ∈ (evalE g e).1 := by
 unfold evalE at hp ⊢
 split at hp
 · rename_i hc
   simp only [Bool.and_eq_true] at hc
   rw [hg, hc.2, Bool.and_self, if_pos rfl]
   split at hp
   · rename_i x hx
     exact relOf_mono hl x p hp
   · cases hp
 · cases hp
theorem refut_iff {g : TGraph} {a b : TExpr} {x y : Int} : refut g a b x y = true ↔ validG g = true ∧ isValidExpr a = true ∧ isValidExpr b = true ∧ (⟨x, y⟩ : TPair) ∈ (evalE g a).1 ∧ ¬ (⟨x, y⟩ : TPair) ∈ (evalE g b).1 := by
 unfold refut
 rw [evalE_2, evalE_2]
 simp only [Bool.and_eq_true, decide_eq_true_eq, Bool.not_eq_true', decide_eq_false_iff_not]
 exact ⟨fun ⟨⟨⟨⟨h1, h2⟩, _, h3⟩, h4⟩, h5⟩ => ⟨h1, h2, h3, h4, h5⟩, fun ⟨h1, h2, h3, h4, h5⟩ => ⟨⟨⟨⟨h1, h2⟩, h1, h3⟩, h4⟩, h5⟩⟩
theorem delG_in {g : TGraph} {e : TEdge} (hg : validG g = true) (he : e ∈ g.Edges) : (delG g e.ID).2 = true ∧ (delG g e.ID).1.Values = g.Values ∧ ∀ z, z ∈ (delG g e.ID).1.Edges ↔ z ∈ g.Edges ∧ z.ID ≠ e.ID := by
 have h0 : 0 ≤ edgeIndex g e.ID := by
  have := findI_any (fun z : TEdge => decide (z.ID = e.ID)) g.Edges 0
  rw [List.any_eq_true.2 ⟨e, he, by simp⟩] at this
  exact of_decide_eq_true this
 have hc : (validG g && decide (0 ≤ edgeIndex g e.ID)) = true := by rw [hg, decide_eq_true h0]; rfl
 unfold delG
 rw [if_pos hc]
 refine ⟨rfl, rfl, fun z => ?_⟩
 rcases findI_lt (p := fun z : TEdge => decide (z.ID = e.ID)) (l := g.Edges) (m := 0) with h1 | ⟨k, w, h1, h2, h3⟩
 · unfold edgeIndex at h0; omega
 · have hk : (edgeIndex g e.ID).toNat = k := by unfold edgeIndex; rw [h3]; omega
   have hw : w.ID = e.ID := by simpa using h2
   have hkl := (List.getElem?_eq_some_iff.1 h1).1
   have hri := rise_all (validG_rise hg)
   have hap : ∀ j u, g.Edges[j]? = some u → j ≠ k → u.ID ≠ e.ID := fun j u hj hne => by
    rcases Nat.lt_or_gt_of_ne hne with h | h
    · have := hri (k - j - 1) j u w hj (by rw [show j + (k - j - 1) + 1 = k by omega]; exact h1)
      omega
    · have := hri (j - k - 1) k w u h1 (by rw [show k + (j - k - 1) + 1 = j by omega]; exact hj)
      omega
   rw [hk]
   constructor
   · intro hz
     obtain ⟨q, hq⟩ := List.getElem?_of_mem hz
     rw [del_get hkl] at hq
     split at hq
     · exact ⟨List.mem_of_getElem? hq, hap q z hq (by omega)⟩
     · exact ⟨List.mem_of_getElem? hq, hap (q + 1) z hq (by omega)⟩
   · rintro ⟨hz, hne⟩
     obtain ⟨q, hq⟩ := List.getElem?_of_mem hz
     have hqk : q ≠ k := fun e' => by subst e'; rw [h1] at hq; cases hq; exact hne hw
     rcases Nat.lt_or_gt_of_ne hqk with h | h
     · exact List.mem_of_getElem? (i := q) (by rw [del_get hkl, if_pos h]; exact hq)
     · exact List.mem_of_getElem? (i := q - 1) (by rw [del_get hkl, if_neg (by omega), show q - 1 + 1 = q by omega]; exact hq)
theorem kept_later {h g : TGraph} {a b : TExpr} {x y : Int} {e : TEdge} (hl : gle h g) (hh : validG h = true) (hg : refut g a b x y = true) (he : e ∈ h.Edges) (hn : refut (delG g e.ID).1 a b x y = false) : refut (delG h e.ID).1 a b x y = false := by
 cases hr : refut (delG h e.ID).1 a b x y with
 | false => rfl
 | true =>
  obtain ⟨g1, g2, g3, g4, g5⟩ := refut_iff.1 hg
  obtain ⟨r1, r2, r3, r4, r5⟩ := refut_iff.1 hr
  obtain ⟨d1, d2, d3⟩ := delG_in g1 (hl.2 e he)
  obtain ⟨c1, c2, c3⟩ := delG_in hh he
  have hv := delG_valid d1
  have hle : gle (delG h e.ID).1 (delG g e.ID).1 := ⟨by rw [c2, d2]; exact hl.1, fun z hz => (d3 z).2 ⟨hl.2 z ((c3 z).1 hz).1, ((c3 z).1 hz).2⟩⟩
  have hle2 : gle (delG g e.ID).1 g := ⟨d2, fun z hz => ((d3 z).1 hz).1⟩
  have : refut (delG g e.ID).1 a b x y = true := refut_iff.2 ⟨hv.1, g2, g3, evalE_mono hle hv.1 r4, fun hb => g5 (evalE_mono hle2 g1 hb)⟩
  rw [this] at hn; cases hn
theorem shrTo_min {g : TGraph} {a b : TExpr} {x y : Int} (hg : refut g a b x y = true) : ∀ k, k ≤ g.Edges.length → refut (shrTo g a b x y k) a b x y = true ∧ gle (shrTo g a b x y k) g ∧ ∀ j e, j < k → g.Edges[j]? = some e → e ∈ (shrTo g a b x y k).Edges → refut (delG (shrTo g a b x y k) e.ID).1 a b x y = false
 | 0, _ => ⟨hg, gle.refl g, fun j e h => by omega⟩
 | k + 1, hk => by
  obtain ⟨h1, h2, h3⟩ := shrTo_min hg k (by omega)
  have he : g.Edges[k]? = some (g.Edges[k]'(by omega)) := List.getElem?_eq_getElem _
  generalize g.Edges[k]'(by omega) = e at he
  rw [shrTo_succ a b x y he]
  generalize shrTo g a b x y k = h at h1 h2 h3 ⊢
  have hv := (refut_iff.1 h1).1
  cases hr : refut (delG h e.ID).1 a b x y with
  | false =>
   rw [shrStep_no (.inr hr)]
   refine ⟨h1, h2, fun j z hj hz hm => ?_⟩
   rcases Nat.lt_or_ge j k with hj' | hj'
   · exact h3 j z hj' hz hm
   · have : j = k := by omega
     subst this
     rw [he] at hz; cases hz; exact hr
  | true =>
   rw [shrStep_yes hr]
   have hle : gle (delG h e.ID).1 h := by
    cases hd : (delG h e.ID).2 with
    | false => rw [delG_same hd]; exact gle.refl h
    | true =>
     refine ⟨(delG_valid hd).2.1, fun z hz => ?_⟩
     unfold delG at hz
     split at hz
     · rcases List.mem_append.1 hz with hz | hz
       · exact List.mem_of_mem_take hz
       · exact List.mem_of_mem_drop hz
     · exact hz
   refine ⟨hr, hle.trans h2, fun j z hj hz hm => ?_⟩
   rcases Nat.lt_or_ge j k with hj' | hj'
   · exact kept_later hle (refut_iff.1 hr).1 h1 hm (h3 j z hj' hz (hle.2 z hm))
   · have : j = k := by omega
     subst this
     rw [he] at hz; cases hz
     exfalso
     by_cases hin : e ∈ h.Edges
     · exact (((delG_in hv hin).2.2 e).1 hm).2 rfl
     · exact hin (hle.2 e hm)
theorem shrink_min {g : TGraph} {a b : TExpr} {x y : Int} (hg : refut g a b x y = true) {e : TEdge} (he : e ∈ (shrinkR g a b x y).1.Edges) : refut (delG (shrinkR g a b x y).1 e.ID).1 a b x y = false := by
 unfold shrinkR at he ⊢
 rw [if_pos hg] at he ⊢
 obtain ⟨h1, h2, h3⟩ := shrTo_min hg g.Edges.length (Nat.le_refl _)
 obtain ⟨j, hj⟩ := List.getElem?_of_mem (h2.2 e he)
 exact h3 j e (List.getElem?_eq_some_iff.1 hj).1 hj he
theorem shrink_ref {g : TGraph} {a b : TExpr} {x y : Int} (hg : refut g a b x y = true) : refut (shrinkR g a b x y).1 a b x y = true := by
 unfold shrinkR
 rw [if_pos hg]
 exact (shrTo_min hg g.Edges.length (Nat.le_refl _)).1
end Go.Q
