import Derived.Test.YtbkhopfpejhnlaaGreatB59rb
import Derived.Test.YtbkhopfpejhnlaaGreatB114rb
set_option linter.unusedVariables false
set_option linter.unusedSimpArgs false
set_option maxHeartbeats 1000000
set_option maxRecDepth 100000
namespace Go.Q
open Go.D
def posL (n : Nat) (l : List Int) (j : Nat) : Nat := n + (l.take j).countP isMove
theorem posL_zero (n : Nat) (l : List Int) : posL n l 0 = n := by simp [posL]
theorem posL_move {n : Nat} {k : Int} {l : List Int} (h : isMove k = true) (j : Nat) : posL n (k :: l) (j + 1) = posL (n + 1) l j := by
 unfold posL; rw [List.take_succ_cons, List.countP_cons, if_pos h]; omega
theorem posL_test {n : Nat} {k : Int} {l : List Int} (h : isMove k = false) (j : Nat) : posL n (k :: l) (j + 1) = posL n l j := by
 unfold posL; rw [List.take_succ_cons, List.countP_cons, if_neg (by simp [h])]; omega
theorem letL_self {g : TGraph} {k : Int} {x : Nat} {v : Int} (hx : g.Values[x]? = some v) (hk : k = 6 + v) : (⟨(x : Int), (x : Int)⟩ : TPair) ∈ letL g k := by
 unfold letL
 rw [mem_setG, List.mem_append]
 refine .inl (List.mem_flatMap.2 ⟨x, List.mem_range.2 (List.getElem?_eq_some_iff.1 hx).1, ?_⟩)
 unfold selfP
 rw [hx, Option.getD_some, if_pos hk]; simp
theorem letL_edge {g : TGraph} {k : Int} {n : Nat} (hk : 0 ≤ k) (h : lineEdge (n : Int) k ∈ g.Edges) : (⟨(n : Int), ((n + 1 : Nat) : Int)⟩ : TPair) ∈ letL g k := by
 unfold letL
 rw [mem_setG, List.mem_append]
 refine .inr (List.mem_flatMap.2 ⟨_, h, ?_⟩)
 unfold edgeP lineEdge
 split
 · rw [List.mem_append]; right
   rw [if_pos (by simp only; omega)]; simp
 · rw [List.mem_append]; left
   rw [if_pos (by simp only; omega)]; simp
theorem lineGo_steps : ∀ {l vs : List Int} {es : List TEdge} {t : Bool} {g : TGraph} {n : Nat}, (∀ x ∈ l, 0 ≤ x ∧ x ≤ 8) → vs.length = n + 1 → lineGo l vs es t = some g →
 (∀ e ∈ es, e ∈ g.Edges) ∧ (∀ i, i < n → g.Values[i]? = vs[i]?) ∧ (t = true → g.Values[n]? = vs[n]?) ∧ (∀ j k, l[j]? = some k → (⟨(posL n l j : Int), (posL n l (j + 1) : Int)⟩ : TPair) ∈ letL g k) ∧ posL n l l.length + 1 = g.Values.length
 | [], vs, es, t, g, n, _, hn, h => by
  simp only [lineGo, Option.some.injEq] at h
  subst h
  exact ⟨fun _ he => he, fun _ _ => rfl, fun _ => rfl, fun j k hj => by simp at hj, by simp [posL, hn]⟩
 | k :: r, vs, es, t, g, n, hl, hn, h => by
  have hk := hl k (by simp)
  have hr : ∀ x ∈ r, 0 ≤ x ∧ x ≤ 8 := fun x hx => hl x (by simp [hx])
  have hn1 : ((vs.length : Int) - 1).toNat = n := by omega
  have hn2 : (vs.length : Int) - 1 = (n : Int) := by omega
  rw [lineGo] at h
  split at h
  · rename_i hm
    split at h
    · cases h
    · obtain ⟨g1, g2, g3, g4, g5⟩ := lineGo_steps (n := n + 1) hr (by simp [hn]) h
      have hval : ∀ i, i < n + 1 → g.Values[i]? = vs[i]? := fun i hi => by rw [g2 i hi, List.getElem?_append_left (by omega)]
      refine ⟨fun e he => g1 e (by simp [he]), fun i hi => hval i (by omega), fun _ => hval n (by omega), fun j q hj => ?_, ?_⟩
      · cases j with
        | zero =>
         simp at hj; subst hj
         rw [posL_zero, posL_move hm, posL_zero]
         exact letL_edge hk.1 (g1 _ (by rw [hn2]; simp))
        | succ j => rw [posL_move hm, posL_move hm]; exact g4 j q (by simpa using hj)
      · rw [List.length_cons, posL_move hm]; exact g5
  · rename_i hm
    have hm : isMove k = false := by simpa using hm
    split at h
    · cases h
    · rename_i ht
      rw [hn1] at h
      obtain ⟨g1, g2, g3, g4, g5⟩ := lineGo_steps (n := n) hr (by simp [hn]) h
      have hv : g.Values[n]? = some (k - 6) := by rw [g3 rfl, List.getElem?_set_self (by omega)]
      refine ⟨g1, fun i hi => by rw [g2 i hi, List.getElem?_set_ne (by omega)], fun htt => ?_, fun j q hj => ?_, ?_⟩
      · subst htt
        simp only [Bool.true_and, Bool.not_eq_true', decide_eq_false_iff_not, Decidable.not_not] at ht
        unfold lineGo.lastV at ht
        rw [hn1] at ht
        have hq : vs[n]? = some (vs[n]'(by omega)) := List.getElem?_eq_getElem _
        rw [hq, Option.getD_some] at ht
        rw [hv, hq, ht]
      · cases j with
        | zero =>
         simp at hj; subst hj
         rw [posL_zero, posL_test hm, posL_zero]
         exact letL_self hv (by omega)
        | succ j => rw [posL_test hm, posL_test hm]; exact g4 j q (by simpa using hj)
      · rw [List.length_cons, posL_test hm]; exact g5
theorem posL_le (n : Nat) (l : List Int) {i j : Nat} (h : i ≤ j) : posL n l i ≤ posL n l j := by
 unfold posL
 have : l.take i = (l.take j).take i := by rw [List.take_take, Nat.min_eq_left h]
 rw [this]
 have := List.countP_append (p := isMove) (l₁ := (l.take j).take i) (l₂ := (l.take j).drop i)
 rw [List.take_append_drop] at this
 omega
theorem itC_up {n : Nat} {l : List TPair} {p : TPair} : ∀ {k m : Nat}, k ≤ m → p ∈ itC n l k → p ∈ itC n l m
 | k, 0, h, hp => by
  have : k = 0 := by omega
  subst this
  exact hp
 | k, m + 1, h, hp => by
  by_cases e : k = m + 1
  · subst e; exact hp
  · exact itC_more (itC_up (by omega) hp)
section
variable {g : TGraph} {w : List Int} (hg : validG g = true) (hs : ∀ j k, w[j]? = some k → (⟨(posL 0 w j : Int), (posL 0 w (j + 1) : Int)⟩ : TPair) ∈ letL g k) (hq : ∀ j, j ≤ w.length → posL 0 w j < g.Values.length)
include hq in
theorem word_id {i j : Nat} (hi : i ≤ w.length) (h : idR i j = true) : (⟨(posL 0 w i : Int), (posL 0 w j : Int)⟩ : TPair) ∈ idL g.Values.length := by
 have : i = j := by simpa [idR] using h
 subst this
 have := hq i hi
 exact mem_idL.2 ⟨⟨by simp only; omega, by simp only; omega⟩, rfl⟩
theorem word_then {f f' : GR} {l l' : List TPair} (h1 : ∀ i j, i ≤ w.length → j ≤ w.length → f i j = true → (⟨(posL 0 w i : Int), (posL 0 w j : Int)⟩ : TPair) ∈ l) (h2 : ∀ i j, i ≤ w.length → j ≤ w.length → f' i j = true → (⟨(posL 0 w i : Int), (posL 0 w j : Int)⟩ : TPair) ∈ l')
 {i j : Nat} (hi : i ≤ w.length) (hj : j ≤ w.length) (h : thenR (w.length + 1) f f' i j = true) : (⟨(posL 0 w i : Int), (posL 0 w j : Int)⟩ : TPair) ∈ compL l l' := by
 obtain ⟨k, hk, a, b⟩ := thenR_true.1 h
 exact mem_compL.2 ⟨_, h1 i k hi (by omega) a, _, h2 k j (by omega) hj b, rfl, rfl, rfl⟩
include hq in
theorem word_star {f : GR} {l : List TPair} (h1 : ∀ i j, i ≤ w.length → j ≤ w.length → f i j = true → (⟨(posL 0 w i : Int), (posL 0 w j : Int)⟩ : TPair) ∈ l) : ∀ k i j, i ≤ w.length → j ≤ w.length → starR (w.length + 1) f k i j = true → (⟨(posL 0 w i : Int), (posL 0 w j : Int)⟩ : TPair) ∈ itC g.Values.length l k
 | 0, i, j, hi, hj, h => word_id hq hi h
 | k + 1, i, j, hi, hj, h => by
  have h : (starR (w.length + 1) f k i j || thenR (w.length + 1) (starR (w.length + 1) f k) f i j) = true := h
  rcases Bool.or_eq_true _ _ ▸ h with h | h
  · exact itC_more (word_star h1 k i j hi hj h)
  · exact mem_pmerge.2 (.inr (word_then (word_star h1 k) h1 hi hj h))
include hq in
theorem word_pow {f : GR} {l : List TPair} (h1 : ∀ i j, i ≤ w.length → j ≤ w.length → f i j = true → (⟨(posL 0 w i : Int), (posL 0 w j : Int)⟩ : TPair) ∈ l) : ∀ k i j, i ≤ w.length → j ≤ w.length → powR (w.length + 1) f k i j = true → (⟨(posL 0 w i : Int), (posL 0 w j : Int)⟩ : TPair) ∈ pwL g.Values.length l k
 | 0, i, j, hi, hj, h => word_id hq hi h
 | k + 1, i, j, hi, hj, h => word_then (word_pow h1 k) h1 hi hj h
include hq in
theorem word_rep {f : GR} {l : List TPair} {low : Int} (h1 : ∀ i j, i ≤ w.length → j ≤ w.length → f i j = true → (⟨(posL 0 w i : Int), (posL 0 w j : Int)⟩ : TPair) ∈ l) : ∀ k i j, i ≤ w.length → j ≤ w.length → repR (w.length + 1) f low k i j = true → (⟨(posL 0 w i : Int), (posL 0 w j : Int)⟩ : TPair) ∈ outP g.Values.length l low k
 | 0, i, j, hi, hj, h => by cases h
 | k + 1, i, j, hi, hj, h => by
  rw [repR] at h
  rw [outP]
  split at h
  · rename_i hlow
    rw [if_pos hlow]
    have h : (repR (w.length + 1) f low k i j || powR (w.length + 1) f k i j) = true := h
    rcases Bool.or_eq_true _ _ ▸ h with h | h
    · exact mem_pmerge.2 (.inl (word_rep h1 k i j hi hj h))
    · exact mem_pmerge.2 (.inr (word_pow hq h1 k i j hi hj h))
  · rename_i hlow
    rw [if_neg hlow]; exact word_rep h1 k i j hi hj h
include hg hs hq in
theorem word_rel : ∀ (x : Tr) (i j : Nat), i ≤ w.length → j ≤ w.length → wordR w x i j = true → (⟨(posL 0 w i : Int), (posL 0 w j : Int)⟩ : TPair) ∈ relOf g x
 | .leaf t, i, j, hi, hj, h => by
  rw [wordR] at h
  rw [relOf]
  split at h
  · rename_i e; rw [if_pos e]; exact word_id hq hi h
  · rename_i e
    rw [if_neg e]
    split at h
    · rename_i e2
      rw [if_pos e2]
      unfold letR at h
      simp only [Bool.and_eq_true, decide_eq_true_eq] at h
      rw [h.1]; exact hs i _ h.2
    · cases h
 | .un t x, i, j, hi, hj, h => by
  rw [wordR] at h
  rw [relOf]
  have ih := word_rel x
  split at h
  · rename_i e
    rw [if_pos e]
    have h1 := word_star hq ih (w.length + 1) i j hi hj h
    have h2 := itC_up (show w.length + 1 ≤ max (w.length + 1) 5 by omega) h1
    rw [closeL_stay (validG_len hg).2.1 (relOf_ok hg x).1 (by omega)] at h2
    exact h2
  · rename_i e
    rw [if_neg e]
    exact word_rep hq ih _ i j hi hj h
 | .bin t x y, i, j, hi, hj, h => by
  rw [wordR] at h
  rw [relOf]
  have ih := word_rel x
  have ih2 := word_rel y
  split at h
  · rename_i e; rw [if_pos e]; exact word_then ih ih2 hi hj h
  · rename_i e
    rw [if_neg e]
    have h : (wordR w x i j || wordR w y i j) = true := h
    rcases Bool.or_eq_true _ _ ▸ h with h | h
    · exact mem_pmerge.2 (.inl (ih i j hi hj h))
    · exact mem_pmerge.2 (.inr (ih2 i j hi hj h))
end
theorem onLine_of {e : TExpr} {w : List Int} {x : Tr} (hf : (lineGraph w).2 = true) (he : isValidExpr e = true) (hx : treeM e.Tokens = some x) (h : wordR w x 0 w.length = true) : onLine e w = true := by
 have hg := lineGraph_valid hf
 have hs : (∀ j k, w[j]? = some k → (⟨(posL 0 w j : Int), (posL 0 w (j + 1) : Int)⟩ : TPair) ∈ letL (lineGraph w).1 k) ∧ posL 0 w w.length + 1 = (lineGraph w).1.Values.length := by
  unfold lineGraph at hf ⊢
  split at hf
  · rename_i g hgo
    split at hgo
    · rename_i hw
      have hl : ∀ x ∈ w, 0 ≤ x ∧ x ≤ 8 := fun x hx => by
       unfold isWord at hw
       simp only [Bool.and_eq_true] at hw
       have := List.all_eq_true.1 hw.1 x hx
       unfold inB at this
       simpa using this
      obtain ⟨_, _, _, h4, h5⟩ := lineGo_steps (n := 0) hl rfl hgo
      exact ⟨h4, h5⟩
    · cases hgo
  · cases hf
 have hq : ∀ j, j ≤ w.length → posL 0 w j < (lineGraph w).1.Values.length := fun j hj => by
  have := posL_le 0 w hj
  omega
 have h1 := word_rel hg hs.1 hq x 0 w.length (by omega) (Nat.le_refl _) h
 unfold onLine
 rw [evalE_some hg he hx, hf]
 simp only [Bool.true_and, decide_eq_true_eq]
 rw [posL_zero] at h1
 have e : ((lineGraph w).1.Values.length : Int) - 1 = (posL 0 w w.length : Int) := by omega
 rw [e]; exact h1
end Go.Q
