/- Least costs with least numbers of steps: the plain law. -/
import Derived.Test.YtjmbiiciogakoaaB44x
set_option linter.unusedVariables false
set_option linter.unusedSimpArgs false
set_option maxHeartbeats 1000000
set_option maxRecDepth 100000
namespace Go.Q
open Go.D
/-- There is a way of cost d and s steps from i to a goal. -/
inductive WC2 (E : Nat → List (Int × Int)) (G : Nat → Bool) : Nat → Int → Int → Prop where
  | goal {i : Nat} : G i = true → WC2 E G i 0 0
  | step {i : Nat} {z c d s : Int} : (z, c) ∈ E i → WC2 E G z.toNat d s → WC2 E G i (d + c) (s + 1)
theorem atW_set {W : List (Int × Int)} {k : Nat} {j : Int} {v : Int × Int} (hk : k < W.length) : atW (W.set k v) j = if j.toNat = k then v else atW W j := by
  unfold atW
  rw [List.getElem?_set]
  by_cases e : j.toNat = k
  · rw [e, if_pos rfl, if_pos hk, if_pos rfl]; rfl
  · rw [if_neg (fun h => e h.symm), if_neg e]
structure WI (E : Nat → List (Int × Int)) (G : Nat → Bool) (N : Nat) (W : List (Int × Int)) : Prop where
  len : W.length = N
  snd : ∀ i, i < N → 0 ≤ (atW W (i : Int)).1 → WC2 E G i (atW W (i : Int)).1 (atW W (i : Int)).2
  gl : ∀ i, i < N → G i = true → atW W (i : Int) = (0, 0)
  un : ∀ i, i < N → (atW W (i : Int)).1 < 0 → atW W (i : Int) = (-1, 0)
  st : ∀ i, i < N → 0 ≤ (atW W (i : Int)).2
/-- An edge by which nothing gets less. -/
def fixw (W : List (Int × Int)) (i : Nat) (e : Int × Int) : Prop := (atW W e.1).1 < 0 ∨ lessW ((atW W e.1).1 + e.2, (atW W e.1).2 + 1) (atW W (i : Int)) = false
section
variable {E : Nat → List (Int × Int)} {G : Nat → Bool} {N : Nat} {W : List (Int × Int)}
theorem WI.step (h : WI E G N W) {i : Nat} {z c : Int} (hi : i < N) (he : (z, c) ∈ E i) (hz : 0 ≤ z ∧ z < N) (hc : 0 ≤ c) (hd : 0 ≤ (atW W z).1) (hl : lessW ((atW W z).1 + c, (atW W z).2 + 1) (atW W (i : Int)) = true) :
    WI E G N (W.set i ((atW W z).1 + c, (atW W z).2 + 1)) := by
  have hil : i < W.length := by rw [h.len]; exact hi
  have ez : ((z.toNat : Nat) : Int) = z := Int.toNat_of_nonneg hz.1
  have hs := h.snd z.toNat (by omega) (by rw [ez]; exact hd)
  have hst := h.st z.toNat (by omega)
  rw [ez] at hs hst
  have hat : ∀ j : Nat, atW (W.set i ((atW W z).1 + c, (atW W z).2 + 1)) (j : Int) = if j = i then ((atW W z).1 + c, (atW W z).2 + 1) else atW W (j : Int) := fun j => by rw [atW_set hil]; simp
  refine ⟨by rw [List.length_set]; exact h.len, fun j hj hv => ?_, fun j hj hg => ?_, fun j hj hv => ?_, fun j hj => ?_⟩
  · rw [hat] at hv ⊢
    by_cases e : j = i
    · subst e; rw [if_pos rfl]; exact .step he hs
    · rw [if_neg e] at hv ⊢; exact h.snd j hj hv
  · rw [hat]
    by_cases e : j = i
    · subst e
      have := h.gl j hj hg
      rw [this] at hl
      unfold lessW at hl
      simp only [Bool.or_eq_true, Bool.and_eq_true, decide_eq_true_eq] at hl
      omega
    · rw [if_neg e]; exact h.gl j hj hg
  · rw [hat] at hv ⊢
    by_cases e : j = i
    · rw [if_pos e] at hv; simp only at hv; omega
    · rw [if_neg e] at hv ⊢; exact h.un j hj hv
  · rw [hat]
    by_cases e : j = i
    · rw [if_pos e]; simp only; omega
    · rw [if_neg e]; exact h.st j hj
theorem WI.least (h : WI E G N W) (hE : ∀ i, i < N → ∀ e ∈ E i, 0 ≤ e.1 ∧ e.1 < N) (hf : ∀ i, i < N → ∀ e ∈ E i, fixw W i e) {i : Nat} {d s : Int} (hw : WC2 E G i d s) : i < N → 0 ≤ (atW W (i : Int)).1 ∧ ((atW W (i : Int)).1 < d ∨ (atW W (i : Int)).1 = d ∧ (atW W (i : Int)).2 ≤ s) := by
  induction hw with
  | goal hg => intro hi; rw [h.gl _ hi hg]; simp
  | @step i z c d s he _ ih =>
    intro hi
    have hz := hE i hi _ he
    simp only at hz
    have h1 := ih (by omega)
    have hzz : ((z.toNat : Nat) : Int) = z := Int.toNat_of_nonneg hz.1
    rw [hzz] at h1
    rcases hf i hi _ he with h2 | h2
    · simp only at h2; omega
    · unfold lessW at h2
      simp only [Bool.or_eq_false_iff, Bool.and_eq_false_iff, decide_eq_false_iff_not] at h2
      omega
theorem WI.same {W' : List (Int × Int)} (h : WI E G N W) (h' : WI E G N W') (hE : ∀ i, i < N → ∀ e ∈ E i, 0 ≤ e.1 ∧ e.1 < N) (hf : ∀ i, i < N → ∀ e ∈ E i, fixw W i e) (hf' : ∀ i, i < N → ∀ e ∈ E i, fixw W' i e) : W = W' := by
  refine List.ext_getElem? fun i => ?_
  by_cases hi : i < N
  · have g1 := atW_get (W := W) (k := (i : Int)) (by rw [h.len]; simpa using hi)
    have g2 := atW_get (W := W') (k := (i : Int)) (by rw [h'.len]; simpa using hi)
    simp only [Int.toNat_natCast] at g1 g2
    rw [g1, g2]
    congr 1
    by_cases h1 : 0 ≤ (atW W (i : Int)).1
    · have b1 := h'.least hE hf' (h.snd i hi h1) hi
      have b2 := h.least hE hf (h'.snd i hi b1.1) hi
      exact Prod.ext (by omega) (by omega)
    · by_cases h2 : 0 ≤ (atW W' (i : Int)).1
      · have b2 := h.least hE hf (h'.snd i hi h2) hi
        omega
      · rw [h.un i hi (by omega), h'.un i hi (by omega)]
  · rw [List.getElem?_eq_none (by rw [h.len]; omega), List.getElem?_eq_none (by rw [h'.len]; omega)]
/-- The list that such a search ends with. -/
noncomputable def leastW (E : Nat → List (Int × Int)) (G : Nat → Bool) (N : Nat) : List (Int × Int) :=
  open Classical in if h : ∃ W, WI E G N W ∧ ∀ i, i < N → ∀ e ∈ E i, fixw W i e then Classical.choose h else []
theorem leastW_eq (hE : ∀ i, i < N → ∀ e ∈ E i, 0 ≤ e.1 ∧ e.1 < N) (h : WI E G N W) (hf : ∀ i, i < N → ∀ e ∈ E i, fixw W i e) : leastW E G N = W := by
  have hx : ∃ W, WI E G N W ∧ ∀ i, i < N → ∀ e ∈ E i, fixw W i e := ⟨W, h, hf⟩
  unfold leastW
  rw [dif_pos hx]
  obtain ⟨h1, h2⟩ := Classical.choose_spec hx
  exact h1.same h hE h2 hf
theorem fixw_fixd {i : Nat} {e : Int × Int} (h : fixw W i e) : fixd (W.map (·.1)) i e := by
  rcases h with h | h
  · exact .inl (by rw [← atW_fst]; exact h)
  · obtain ⟨z, c⟩ := e
    exact lessW_fix h
end
noncomputable def weightsOf (g : TGraph) (a : TAutomaton) (l : List Int) (y : Int) : List (Int × Int) := leastW (edgesOf g a l) (goalOf g a y) (a.Accept.length * g.Values.length)
theorem weights_costs {g : TGraph} {a : TAutomaton} (ha : validA a = true) (hg : validG g = true) {l : List Int} {y : Int} {P0 : Nat} {W : List (Int × Int)} (hc : CW (edgesOf g a l) (goalOf g a y) (a.Accept.length * g.Values.length) P0 W) (h : WI (edgesOf g a l) (goalOf g a y) (a.Accept.length * g.Values.length) W) (hf : ∀ i, i < a.Accept.length * g.Values.length → ∀ e ∈ edgesOf g a l i, fixw W i e) : weightsOf g a l y = W ∧ (weightsOf g a l y).map (·.1) = costsOf g a l y := by
  have hE := fun i hi => edges_ok ha hg l (i := i) hi
  have e1 : weightsOf g a l y = W := leastW_eq hE h hf
  refine ⟨e1, ?_⟩
  rw [e1]
  exact (leastL_eq hE hc.ci fun i hi e he => fixw_fixd (hf i hi e he)).symm
/-- The weights at the start. -/
def weights0 (g : TGraph) (a : TAutomaton) (y : Int) : List (Int × Int) := (List.range (a.Accept.length * g.Values.length)).map fun i => if goalOf g a y i then (0, 0) else (-1, 0)
theorem weights0_len (g : TGraph) (a : TAutomaton) (y : Int) : (weights0 g a y).length = a.Accept.length * g.Values.length := by unfold weights0; simp
theorem weights0_at {g : TGraph} {a : TAutomaton} {y : Int} {i : Nat} (hi : i < a.Accept.length * g.Values.length) : atW (weights0 g a y) (i : Int) = if goalOf g a y i then (0, 0) else (-1, 0) := by
  unfold atW weights0
  rw [Int.toNat_natCast, List.getElem?_map, List.getElem?_range hi]; rfl
theorem weights0_fst (g : TGraph) (a : TAutomaton) (y : Int) : (weights0 g a y).map (·.1) = costs0 g a y (a.Accept.length * g.Values.length) := by
  unfold weights0 costs0
  rw [List.map_map]
  apply List.map_congr_left
  intro i _
  simp only [Function.comp]
  split <;> rfl
def P0 (g : TGraph) (a : TAutomaton) (y : Int) : Nat := phi (9 * (a.Accept.length * g.Values.length) + 1) (costs0 g a y (a.Accept.length * g.Values.length))
theorem P0_le {g : TGraph} {a : TAutomaton} {y : Int} (hN : a.Accept.length * g.Values.length ≤ 60) : P0 g a y ≤ 32460 := by
  unfold P0
  have := phi_le (B := 9 * (a.Accept.length * g.Values.length) + 1) (O := costs0 g a y (a.Accept.length * g.Values.length)) (fun v hv => by
    unfold costs0 at hv
    obtain ⟨i, _, rfl⟩ := List.mem_map.1 hv
    split <;> omega)
  rw [costs0_len] at this
  refine Nat.le_trans this (Nat.le_trans (Nat.mul_le_mul hN (show 9 * (a.Accept.length * g.Values.length) + 1 ≤ 541 by omega)) (by omega))
theorem weights0_CW {g : TGraph} {a : TAutomaton} {l : List Int} {y : Int} : CW (edgesOf g a l) (goalOf g a y) (a.Accept.length * g.Values.length) (P0 g a y) (weights0 g a y) := by
  refine ⟨?_, ?_, fun w hw => ?_⟩
  · rw [weights0_fst]; exact costs0_CI
  · rw [weights0_fst]; exact Nat.le_refl _
  · rw [weights0_fst]
    unfold weights0 at hw
    obtain ⟨i, _, rfl⟩ := List.mem_map.1 hw
    unfold P0
    split <;> simp
theorem weights0_WI {g : TGraph} {a : TAutomaton} {l : List Int} {y : Int} : WI (edgesOf g a l) (goalOf g a y) (a.Accept.length * g.Values.length) (weights0 g a y) := by
  refine ⟨weights0_len _ _ _, fun i hi h => ?_, fun i hi h => ?_, fun i hi h => ?_, fun i hi => ?_⟩
  · rw [weights0_at hi] at h ⊢
    by_cases hg : goalOf g a y i = true
    · rw [if_pos hg]; exact .goal hg
    · rw [if_neg hg] at h; simp only at h; omega
  · rw [weights0_at hi, if_pos h]
  · rw [weights0_at hi] at h ⊢
    by_cases hg : goalOf g a y i = true
    · rw [if_pos hg] at h; simp only at h; omega
    · rw [if_neg hg]
  · rw [weights0_at hi]
    split <;> simp
/-- The goals put in, one after the other. -/
def zeroW (l : List Int) (W : List (Int × Int)) : List (Int × Int) := l.foldl (fun W i => W.set i.toNat (0, 0)) W
theorem zeroW_at {l : List Int} {j : Nat} {k : Int} (h : l[j]? = some k) (W : List (Int × Int)) : zeroW (l.take (j + 1)) W = (zeroW (l.take j) W).set k.toNat (0, 0) := by
  unfold zeroW
  rw [take_at h, List.foldl_append]; rfl
theorem zeroW_len : ∀ (l : List Int) (W : List (Int × Int)), (zeroW l W).length = W.length
  | [], _ => rfl
  | k :: l, W => by
    have := zeroW_len l (W.set k.toNat (0, 0))
    rw [List.length_set] at this
    exact this
theorem zeroW_get : ∀ (l : List Int) (W : List (Int × Int)) {i : Nat}, i < W.length → (zeroW l W)[i]? = if l.any (fun k => decide (k.toNat = i)) then some (0, 0) else W[i]?
  | [], _, _, _ => by simp [zeroW]
  | k :: l, W, i, hi => by
    have := zeroW_get l (W.set k.toNat (0, 0)) (i := i) (by rw [List.length_set]; exact hi)
    show (zeroW l (W.set k.toNat (0, 0)))[i]? = _
    rw [this, List.any_cons, List.getElem?_set]
    by_cases e : k.toNat = i
    · subst e; simp [hi]
    · simp [e]
theorem zeroW_goals {g : TGraph} {a : TAutomaton} (ha : validA a = true) {y v : Int} (hy : 0 ≤ y) (hv : g.Values[y.toNat]? = some v) : zeroW (goalsL a y v) (List.replicate (a.Accept.length * g.Values.length) (-1, 0)) = weights0 g a y := by
  have hA := validA_len ha
  refine List.ext_getElem? fun i => ?_
  by_cases hi : i < a.Accept.length * g.Values.length
  · rw [zeroW_get _ _ (by simpa using hi), List.getElem?_replicate_of_lt hi]
    unfold weights0
    rw [List.getElem?_map, List.getElem?_range hi]
    have hdm := nd_ok (p := i) hA.1 hi
    have hde := Int.mul_ediv_add_emod (i : Int) (a.Accept.length : Int)
    have key : (goalsL a y v).any (fun k => decide (k.toNat = i)) = goalOf g a y i := by
      rw [Bool.eq_iff_iff, List.any_eq_true]
      unfold goalsL goalOf
      simp only [List.mem_map, List.mem_filter, List.mem_range, decide_eq_true_eq, Bool.and_eq_true]
      constructor
      · rintro ⟨k, ⟨s, ⟨hs, hacc⟩, rfl⟩, e⟩
        have hym : 0 ≤ y * (a.Accept.length : Int) := Int.mul_nonneg hy (by omega)
        have e2 : (i : Int) = (s : Int) + y * (a.Accept.length : Int) := by omega
        have e3 : (i : Int) / (a.Accept.length : Int) = y := by
          rw [e2, Int.add_mul_ediv_right _ _ (by omega), Int.ediv_eq_zero_of_lt (by omega) (by omega)]; omega
        have e4 : (i : Int) % (a.Accept.length : Int) = s := by
          rw [e2, Int.add_mul_emod_self_right, Int.emod_eq_of_lt (by omega) (by omega)]
        refine ⟨e3, ?_⟩
        rw [e3, e4, hv]; exact hacc
      · rintro ⟨h1, h2⟩
        refine ⟨(i : Int), ⟨((i : Int) % (a.Accept.length : Int)).toNat, ⟨by omega, ?_⟩, ?_⟩, by simp⟩
        · rw [Int.toNat_of_nonneg hdm.2.1]
          rw [h1, hv] at h2; exact h2
        · rw [Int.toNat_of_nonneg hdm.2.1, ← h1, Int.mul_comm]; exact hde
    rw [key]
    simp only [Option.map_some]
    split <;> rfl
  · rw [List.getElem?_eq_none (by rw [zeroW_len]; simpa using hi), List.getElem?_eq_none (by rw [weights0_len]; omega)]
/-- The edges of a vertex, arc by arc. -/
theorem edges_arcs {g : TGraph} {a : TAutomaton} (hg : validG g = true) {l : List Int} (hl : areCosts l = true) {i : Nat} {v : Int} (hv : g.Values[((i : Int) / (a.Accept.length : Int)).toNat]? = some v) (e : Int × Int) : e ∈ edgesOf g a l i ↔ ∃ y ∈ arcsAt g ((i : Int) / a.Accept.length), ∃ t ∈ bitsI (aft1 a ((i : Int) % a.Accept.length) v y.letter), e = (y.to * (a.Accept.length : Int) + t, l[y.letter.toNat]?.getD 0) := by
  unfold edgesOf stepsOf
  rw [hv, Option.getD_some]
  simp only [List.mem_map, List.mem_flatMap]
  constructor
  · rintro ⟨z, ⟨y, hy, hz⟩, rfl⟩
    unfold vertS at hz
    obtain ⟨t, ht, rfl⟩ := List.mem_map.1 hz
    refine ⟨y, hy, (t : Int), by unfold bitsI; exact List.mem_map.2 ⟨t, ht, rfl⟩, ?_⟩
    unfold edgeOf
    simp only
    rw [arc_cost hg hl hy]
  · rintro ⟨y, hy, t, ht, rfl⟩
    unfold bitsI at ht
    obtain ⟨q, hq, rfl⟩ := List.mem_map.1 ht
    refine ⟨⟨y.step, y.to, q⟩, ⟨y, hy, by unfold vertS; exact List.mem_map.2 ⟨q, hq, rfl⟩⟩, ?_⟩
    unfold edgeOf
    simp only
    rw [arc_cost hg hl hy]
end Go.Q
