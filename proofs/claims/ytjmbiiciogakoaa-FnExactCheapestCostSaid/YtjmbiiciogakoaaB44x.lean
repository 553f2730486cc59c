/- The least costs to a node: the edges that a product gives, and the spec's text. -/
import Derived.Test.YtjmbiiciogakoaaB42x
import Derived.Test.YtjmbiiciogakoaaB19x
import Derived.Test.YtjmbiiciogakoaaB18x
import Derived.Test.YtjmbiiciogakoaaB04x
import Derived.Test.YtjmbiiciogakoaaAbsQx
set_option linter.unusedVariables false
set_option linter.unusedSimpArgs false
set_option maxHeartbeats 1000000
set_option maxRecDepth 100000
namespace Go.Q
open Go.D
section
variable {E : Nat → List (Int × Int)} {G : Nat → Bool} {N : Nat} {O : List Int}
/-- The list that such a search ends with. -/
noncomputable def leastL (E : Nat → List (Int × Int)) (G : Nat → Bool) (N : Nat) : List Int :=
  open Classical in if h : ∃ O, CI E G N O ∧ ∀ i, i < N → ∀ e ∈ E i, fixd O i e then Classical.choose h else []
theorem leastL_eq (hE : ∀ i, i < N → ∀ e ∈ E i, 0 ≤ e.1 ∧ e.1 < N) (h : CI E G N O) (hf : ∀ i, i < N → ∀ e ∈ E i, fixd O i e) : leastL E G N = O := by
  have hx : ∃ O, CI E G N O ∧ ∀ i, i < N → ∀ e ∈ E i, fixd O i e := ⟨O, h, hf⟩
  unfold leastL
  rw [dif_pos hx]
  obtain ⟨h1, h2⟩ := Classical.choose_spec hx
  refine List.ext_getElem? fun i => ?_
  by_cases hi : i < N
  · have e := CI.same h1 h hE h2 hf hi
    have g1 := atI_get (out := Classical.choose hx) (k := (i : Int)) (by rw [h1.len]; simpa using hi)
    have g2 := atI_get (out := O) (k := (i : Int)) (by rw [h.len]; simpa using hi)
    simp only [Int.toNat_natCast] at g1 g2
    rw [g1, g2, e]
  · rw [List.getElem?_eq_none (by rw [h1.len]; omega), List.getElem?_eq_none (by rw [h.len]; omega)]
end
def edgeOf (g : TGraph) (n : Int) (l : List Int) (s : TProductStep) : Int × Int := (s.Node * n + s.State, stepCost g l s.Step)
def edgesOf (g : TGraph) (a : TAutomaton) (l : List Int) (i : Nat) : List (Int × Int) := (stepsOf g a ((i : Int) / a.Accept.length) ((i : Int) % a.Accept.length)).map (edgeOf g a.Accept.length l)
def goalOf (g : TGraph) (a : TAutomaton) (y : Int) (i : Nat) : Bool := decide ((i : Int) / a.Accept.length = y) && acc a ((i : Int) % a.Accept.length) (g.Values[((i : Int) / a.Accept.length).toNat]?.getD 0)
noncomputable def costsOf (g : TGraph) (a : TAutomaton) (l : List Int) (y : Int) : List Int := leastL (edgesOf g a l) (goalOf g a y) (a.Accept.length * g.Values.length)
theorem edges_ok {g : TGraph} {a : TAutomaton} (ha : validA a = true) (hg : validG g = true) (l : List Int) {i : Nat} (hi : i < a.Accept.length * g.Values.length) : ∀ e ∈ edgesOf g a l i, 0 ≤ e.1 ∧ e.1 < ((a.Accept.length * g.Values.length : Nat) : Int) := by
  intro e he
  have h := nxN_ok ha hg hi
  rw [nxN_steps] at h
  obtain ⟨z, hz, rfl⟩ := List.mem_map.1 he
  exact h _ (List.mem_map.2 ⟨z, hz, rfl⟩)
theorem arc_letter {g : TGraph} (h : validG g = true) {x : Int} {y : TArc} (hy : y ∈ arcsAt g x) : stepLetter g y.step = y.letter := by
  obtain ⟨j, hj⟩ := List.getElem?_of_mem hy
  obtain ⟨k, e, he, h1, h2, h3⟩ := arcsAt_edge h hj
  have hk := edgeIndex_at h he
  rw [← h1] at hk
  have hs := stepEdge_yes (s := y.step) h he hk
  unfold stepLetter
  rw [hs, h2]
  rfl
theorem cost_at {l : List Int} (hl : areCosts l = true) {k : Int} (h0 : 0 ≤ k) (h6 : k < 6) : l[k.toNat]? = some (l[k.toNat]?.getD 0) ∧ 0 ≤ l[k.toNat]?.getD 0 ∧ l[k.toNat]?.getD 0 ≤ 9 := by
  unfold areCosts at hl
  simp only [Bool.and_eq_true, decide_eq_true_eq, List.all_eq_true] at hl
  have hg : l[k.toNat]? = some (l[k.toNat]'(by omega)) := List.getElem?_eq_getElem _
  have hi := hl.1 _ (List.mem_of_getElem? hg)
  unfold inB at hi
  simp only [Bool.and_eq_true, decide_eq_true_eq] at hi
  rw [hg]
  exact ⟨rfl, hi⟩
theorem arc_cost {g : TGraph} (h : validG g = true) {l : List Int} (hl : areCosts l = true) {x : Int} {y : TArc} (hy : y ∈ arcsAt g x) : stepCost g l y.step = l[y.letter.toNat]?.getD 0 := by
  obtain ⟨j, hj⟩ := List.getElem?_of_mem hy
  have ho := arcsAt_ok h hj
  unfold stepCost
  rw [arc_letter h hy, if_neg (by rw [hl]; simp; omega)]
theorem steps_cost {g : TGraph} {a : TAutomaton} (hg : validG g = true) {l : List Int} (hl : areCosts l = true) {x s : Int} {z : TProductStep} (hz : z ∈ stepsOf g a x s) : 0 ≤ stepCost g l z.Step ∧ stepCost g l z.Step ≤ 9 := by
  unfold stepsOf at hz
  obtain ⟨y, hy, hz⟩ := List.mem_flatMap.1 hz
  unfold vertS at hz
  obtain ⟨t, ht, rfl⟩ := List.mem_map.1 hz
  obtain ⟨j, hj⟩ := List.getElem?_of_mem hy
  have ho := arcsAt_ok hg hj
  show 0 ≤ stepCost g l y.step ∧ stepCost g l y.step ≤ 9
  rw [arc_cost hg hl hy]
  exact (cost_at hl ho.1 ho.2.1).2
theorem edges_cost {g : TGraph} {a : TAutomaton} (hg : validG g = true) {l : List Int} (hl : areCosts l = true) {i : Nat} : ∀ e ∈ edgesOf g a l i, 0 ≤ e.2 ∧ e.2 ≤ 9 := by
  intro e he
  obtain ⟨z, hz, rfl⟩ := List.mem_map.1 he
  exact steps_cost hg hl hz
/-- The costs at the start of the search. -/
def costs0 (g : TGraph) (a : TAutomaton) (y : Int) (k : Nat) : List Int := (List.range k).map fun i => if goalOf g a y i then 0 else -1
theorem costs0_len (g : TGraph) (a : TAutomaton) (y : Int) (k : Nat) : (costs0 g a y k).length = k := by unfold costs0; simp
theorem costs0_at (g : TGraph) (a : TAutomaton) (y : Int) {k i : Nat} (hi : i < k) : atI (costs0 g a y k) (i : Int) = if goalOf g a y i then 0 else -1 := by
  unfold atI costs0
  simp [hi]
theorem costs0_CI {g : TGraph} {a : TAutomaton} {l : List Int} {y : Int} {N : Nat} : CI (edgesOf g a l) (goalOf g a y) N (costs0 g a y N) := by
  have hm : ∀ v ∈ costs0 g a y N, v = 0 ∨ v = -1 := by
    intro v hv
    unfold costs0 at hv
    obtain ⟨i, _, rfl⟩ := List.mem_map.1 hv
    split <;> simp
  have hn := negs_le (costs0 g a y N)
  rw [costs0_len] at hn
  refine ⟨costs0_len _ _ _ _, fun v hv => ?_, fun v hv => ?_, fun i hi h => ?_, fun i hi h => ?_⟩
  · rcases hm v hv with rfl | rfl <;> omega
  · rcases hm v hv with rfl | rfl <;> omega
  · rw [costs0_at g a y hi] at h ⊢
    split at h
    · rename_i hg; rw [if_pos hg]; exact .goal hg
    · omega
  · rw [costs0_at g a y hi, if_pos h]
end Go.Q
