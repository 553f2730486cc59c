/- Numbers in ascending order; what is reached; components. -/
import Derived.Test.YtocnceglpkobaaaB27x
import Derived.Test.YtocnceglpkobaaaB16x
import Derived.Test.YtocnceglpkobaaaSort1x
set_option linter.unusedVariables false
set_option linter.unusedSimpArgs false
set_option maxHeartbeats 1000000
set_option maxRecDepth 100000
namespace Go.Q
open Go.D
/-! ### What a breadth first search reaches -/
inductive Rch (nx : Nat → List Int) (S : Int → Prop) : Int → Prop where
  | base {q : Int} : S q → Rch nx S q
  | step {q k : Int} : Rch nx S q → k ∈ nx q.toNat → Rch nx S k
theorem Rch.mono {nx : Nat → List Int} {S S' : Int → Prop} (h : ∀ q, S q → Rch nx S' q) {k : Int} (hr : Rch nx S k) : Rch nx S' k := by
  induction hr with
  | base hq => exact h _ hq
  | step _ hk ih => exact .step ih hk
def visI (out : List Int) (j : Int) : Prop := 0 ≤ j ∧ j < out.length ∧ 0 ≤ atI out j
theorem atI_set {out : List Int} {k j : Int} {v : Int} (hk : 0 ≤ k ∧ k < out.length) (hj : 0 ≤ j) : atI (out.set k.toNat v) j = if j = k then v else atI out j := by
  unfold atI
  rw [List.getElem?_set]
  by_cases e : j = k
  · subst e; rw [if_pos rfl, if_pos (show j.toNat < out.length by omega), if_pos rfl]; rfl
  · rw [if_neg (by omega), if_neg e]
theorem set_vis {k j v : Int} {out : List Int} (hv : 0 ≤ v) (hk : 0 ≤ k ∧ k < out.length) : visI (out.set k.toNat v) j ↔ visI out j ∨ j = k := by
  unfold visI
  rw [List.length_set]
  constructor
  · rintro ⟨h1, h3, h2⟩
    rw [atI_set hk h1] at h2
    by_cases e : j = k
    · exact .inr e
    · rw [if_neg e] at h2; exact .inl ⟨h1, h3, h2⟩
  · rintro (⟨h1, h3, h2⟩ | rfl)
    · refine ⟨h1, h3, ?_⟩
      rw [atI_set hk h1]
      split <;> assumption
    · refine ⟨hk.1, hk.2, ?_⟩
      rw [atI_set hk hk.1, if_pos rfl]; exact hv
theorem rlx_vis {q k j : Int} {out r : List Int} (hq : visI out q) (hk : 0 ≤ k ∧ k < out.length) : visI (rlx q (out, r) k).1 j ↔ visI out j ∨ j = k := by
  unfold rlx
  dsimp only
  split
  · exact set_vis (by have := hq.2.2; omega) hk
  · rename_i hneg
    have hneg' : ¬ atI out k < 0 := hneg
    constructor
    · exact .inl
    · rintro (h | rfl)
      · exact h
      · exact ⟨hk.1, hk.2, Int.not_lt.1 hneg'⟩
theorem rlx_qu {q k j : Int} {out r : List Int} (hk : 0 ≤ k ∧ k < out.length) : j ∈ (rlx q (out, r) k).2 ↔ j ∈ r ∨ (j = k ∧ ¬ visI out j) := by
  unfold rlx visI
  dsimp only
  split
  · simp only [List.mem_append, List.mem_singleton]
    constructor
    · rintro (h | rfl)
      · exact .inl h
      · exact .inr ⟨rfl, fun h => by omega⟩
    · rintro (h | ⟨rfl, _⟩)
      · exact .inl h
      · exact .inr rfl
  · constructor
    · exact .inl
    · rintro (h | ⟨rfl, h⟩)
      · exact h
      · exact absurd ⟨hk.1, hk.2, by omega⟩ h
theorem relax_vis {q j : Int} : ∀ {l out r : List Int}, visI out q → (∀ k ∈ l, 0 ≤ k ∧ k < out.length) → (visI (relax q l (out, r)).1 j ↔ visI out j ∨ j ∈ l) ∧ (j ∈ (relax q l (out, r)).2 ↔ j ∈ r ∨ (j ∈ l ∧ ¬ visI out j))
  | [], out, r, _, _ => by simp [relax]
  | k :: l, out, r, hq, hl => by
    have hk := hl k (by simp)
    have e : relax q (k :: l) (out, r) = relax q l ((rlx q (out, r) k).1, (rlx q (out, r) k).2) := rfl
    have hlen := rlx_len q (out, r) k
    have ih := relax_vis (q := q) (j := j) (l := l) (out := (rlx q (out, r) k).1) (r := (rlx q (out, r) k).2) ((rlx_vis hq hk).2 (.inl hq)) fun k' hk' => by rw [hlen]; exact hl k' (by simp [hk'])
    rw [e]
    have h1 := rlx_vis (q := q) (j := j) (r := r) hq hk
    have h2 := rlx_qu (q := q) (j := j) (out := out) (r := r) hk
    constructor
    · rw [ih.1, h1, List.mem_cons]; simp only [or_assoc]
    · rw [ih.2, h1, h2, List.mem_cons]
      by_cases hv : visI out j <;> by_cases hjk : j = k <;> by_cases hjl : j ∈ l <;> simp [hv, hjk, hjl] <;> simp_all
theorem bfs_vis {nx : Nat → List Int} {N : Nat} (hn : ∀ p, p < N → ∀ k ∈ nx p, 0 ≤ k ∧ k < N) {j : Int} : ∀ (f : Nat) (out qu : List Int), BfsI N out qu → negs out + qu.length < f → (∀ q ∈ qu, visI out q) → (∀ p, visI out p → p ∈ qu ∨ ∀ k ∈ nx p.toNat, visI out k) →
    (visI (bfs nx f out qu) j ↔ Rch nx (visI out) j)
  | 0, _, _, _, h, _, _ => by omega
  | f + 1, out, [], hI, _, _, hc => by
    rw [bfs]
    constructor
    · exact .base
    · intro h
      induction h with
      | base h => exact h
      | step _ hk ih => exact (hc _ ih).resolve_left (by simp) _ hk
  | f + 1, out, q :: r, hI, hf, hv, hc => by
    rw [bfs]
    have hq := hI.mem q (by simp)
    have hqv := hv q (by simp)
    have hnq := hn q.toNat (by omega)
    have hR := BfsI.relax (N := N) hq (l := nx q.toNat) (st := (out, r)) hI.tail hnq
    have hvis := fun j => relax_vis (q := q) (j := j) (l := nx q.toNat) (out := out) (r := r) hqv fun k hk => by rw [hI.len]; exact hnq k hk
    have h2 := hR.2.1
    simp only [List.length_cons] at hf h2
    have ih := bfs_vis hn (j := j) f (relax q (nx q.toNat) (out, r)).1 (relax q (nx q.toNat) (out, r)).2 hR.1 (by omega) (fun p hp => ?_) (fun p hpv => ?_)
    · rw [ih]
      constructor
      · refine Rch.mono fun p hp => ?_
        rcases ((hvis p).1).1 hp with h | h
        · exact .base h
        · exact .step (.base hqv) h
      · exact Rch.mono fun p hp => .base (((hvis p).1).2 (.inl hp))
    · rw [(hvis p).1]
      rcases ((hvis p).2).1 hp with h | ⟨h, _⟩
      · exact .inl (hv p (by simp [h]))
      · exact .inr h
    · by_cases hpo : visI out p
      · rcases hc p hpo with h | h
        · rcases List.mem_cons.1 h with rfl | h
          · exact .inr fun k hk => ((hvis k).1).2 (.inr hk)
          · exact .inl (((hvis p).2).2 (.inl h))
        · exact .inr fun k hk => ((hvis k).1).2 (.inl (h k hk))
      · rcases ((hvis p).1).1 hpv with h | h
        · exact absurd h hpo
        · exact .inl (((hvis p).2).2 (.inr ⟨h, hpo⟩))
theorem zeroAll_vis {j : Int} : ∀ {l out : List Int}, (∀ q ∈ l, 0 ≤ q ∧ q < out.length) → (visI (zeroAll l out) j ↔ visI out j ∨ j ∈ l)
  | [], _, _ => by simp [zeroAll]
  | k :: l, out, hl => by
    have hk := hl k (by simp)
    have e : zeroAll (k :: l) out = zeroAll l (out.set k.toNat 0) := rfl
    rw [e, zeroAll_vis (fun q hq => by rw [List.length_set]; exact hl q (by simp [hq])), List.mem_cons, set_vis (by omega) hk, or_assoc]
theorem spread_vis {nx : Nat → List Int} {N : Nat} (hn : ∀ p, p < N → ∀ k ∈ nx p, 0 ≤ k ∧ k < N) {l : List Int} (hl : ∀ q ∈ l, 0 ≤ q ∧ q < (N : Int)) {j : Int} : visI (spreadOf nx N l) j ↔ Rch nx (· ∈ l) j := by
  have hz : ∀ p, visI (zeroAll l (List.replicate N (-1))) p ↔ p ∈ l := fun p => by
    rw [zeroAll_vis fun q hq => by simpa using hl q hq]
    constructor
    · rintro (⟨h1, h3, h2⟩ | h)
      · exfalso
        unfold atI at h2
        rw [List.length_replicate] at h3
        rw [List.getElem?_replicate, if_pos (by omega)] at h2; simp at h2
      · exact h
    · exact .inr
  have hst := bfs_start (N := N) hl
  unfold spreadOf
  have hng := negs_le (zeroAll l (List.replicate N (-1)))
  rw [zeroAll_len] at hng
  simp only [List.length_replicate] at hng
  rw [bfs_vis hn _ _ _ hst (by omega) (fun q hq => (hz q).2 hq) (fun p hp => .inl ((hz p).1 hp))]
  constructor
  · exact Rch.mono fun p hp => .base ((hz p).1 hp)
  · exact Rch.mono fun p hp => .base ((hz p).2 hp)
/-! ### One or more steps: by bits -/
def R1 (nx : Nat → List Int) (i : Nat) (k : Int) : Prop := Rch nx (· ∈ nx i) k
theorem R1.trans {nx : Nat → List Int} {i j : Nat} {k : Int} (h1 : R1 nx i j) (h2 : R1 nx j k) : R1 nx i k := by
  refine Rch.mono (fun q hq => ?_) h2
  exact .step h1 (by simpa using hq)
def wB (l : List Int) : Nat := l.foldl (fun m k => m ||| 2 ^ k.toNat) 0
theorem foldl_or_test (j : Nat) : ∀ (l : List Int) (m : Nat), (l.foldl (fun m k => m ||| 2 ^ k.toNat) m).testBit j = (m.testBit j || l.any fun k => decide (k.toNat = j))
  | [], m => by simp
  | k :: l, m => by
    rw [List.foldl_cons, foldl_or_test j l, Nat.testBit_or, Nat.testBit_two_pow, List.any_cons, Bool.or_assoc]
theorem wB_test {l : List Int} (hl : ∀ k ∈ l, 0 ≤ k) (j : Nat) : (wB l).testBit j = true ↔ (j : Int) ∈ l := by
  unfold wB
  rw [foldl_or_test, Nat.zero_testBit, Bool.false_or, List.any_eq_true]
  constructor
  · rintro ⟨k, hk, h⟩
    have := hl k hk
    have e := of_decide_eq_true h
    rwa [show (j : Int) = k by omega]
  · intro h
    exact ⟨_, h, by simp⟩
def wK (nx : Nat → List Int) : Nat → Nat → Nat
  | 0, i => wB (nx i)
  | K + 1, i => if (wK nx K i).testBit K then wK nx K i ||| wK nx K K else wK nx K i
theorem wK_test (nx : Nat → List Int) (K i j : Nat) : (wK nx (K + 1) i).testBit j = true ↔ (wK nx K i).testBit j = true ∨ ((wK nx K i).testBit K = true ∧ (wK nx K K).testBit j = true) := by
  rw [wK]
  split
  · rename_i h; rw [Nat.testBit_or, Bool.or_eq_true]; simp [h]
  · rename_i h; simp [h]
theorem wK_self (nx : Nat → List Int) (K : Nat) : wK nx (K + 1) K = wK nx K K := by
  rw [wK]; split
  · exact Nat.or_self _
  · rfl
theorem wK_sound {nx : Nat → List Int} (hn : ∀ i, ∀ k ∈ nx i, 0 ≤ k) : ∀ (K i j : Nat), (wK nx K i).testBit j = true → R1 nx i j
  | 0, i, j, h => .base ((wB_test (hn i) j).1 h)
  | K + 1, i, j, h => by
    rcases (wK_test nx K i j).1 h with h | ⟨h1, h2⟩
    · exact wK_sound hn K i j h
    · exact (wK_sound hn K i K h1).trans (wK_sound hn K K j h2)
theorem wK_trans (nx : Nat → List Int) : ∀ (K m i j : Nat), m < K → (wK nx K i).testBit m = true → (wK nx K m).testBit j = true → (wK nx K i).testBit j = true
  | 0, m, i, j, h, _, _ => by omega
  | K + 1, m, i, j, h, h1, h2 => by
    rw [wK_test] at h1 h2 ⊢
    by_cases e : m = K
    · subst e
      have h2' : (wK nx m m).testBit j = true := h2.elim id fun h => h.2
      have h1' : (wK nx m i).testBit m = true := h1.elim id fun h => h.1
      exact .inr ⟨h1', h2'⟩
    · have hm : m < K := by omega
      rcases h1 with h1 | ⟨h1, h1'⟩
      · rcases h2 with h2 | ⟨h2, h2'⟩
        · exact .inl (wK_trans nx K m i j hm h1 h2)
        · exact .inr ⟨wK_trans nx K m i K hm h1 h2, h2'⟩
      · rcases h2 with h2 | ⟨_, h2'⟩
        · exact .inr ⟨h1, wK_trans nx K m K j hm h1' h2⟩
        · exact .inr ⟨h1, h2'⟩
theorem wK_more (nx : Nat → List Int) : ∀ (K i j : Nat), (wK nx 0 i).testBit j = true → (wK nx K i).testBit j = true
  | 0, _, _, h => h
  | K + 1, i, j, h => (wK_test nx K i j).2 (.inl (wK_more nx K i j h))
theorem wK_full {nx : Nat → List Int} {N : Nat} (hn : ∀ i, ∀ k ∈ nx i, 0 ≤ k) (hN : ∀ i, i < N → ∀ k ∈ nx i, k < N) {i j : Nat} (hi : i < N) : (wK nx N i).testBit j = true ↔ R1 nx i j := by
  refine ⟨wK_sound hn N i j, fun h => ?_⟩
  have key : ∀ q : Int, R1 nx i q → 0 ≤ q ∧ q < N ∧ (wK nx N i).testBit q.toNat = true := by
    intro q h
    induction h with
    | base hq => exact ⟨hn i _ hq, hN i hi _ hq, wK_more nx N i _ ((wB_test (hn i) _).2 (by have := hn i _ hq; rwa [Int.toNat_of_nonneg this]))⟩
    | step _ hk ih =>
      obtain ⟨h1, h2, h3⟩ := ih
      have hk0 := hn _ _ hk
      refine ⟨hk0, hN _ (by omega) _ hk, wK_trans nx N _ i _ (by omega) h3 (wK_more nx N _ _ ((wB_test (hn _) _).2 (by rwa [Int.toNat_of_nonneg hk0])))⟩
  have := (key j h).2.2
  simpa using this
theorem foldl_or_lt {N : Nat} : ∀ (l : List Int) (m : Nat), m < 2 ^ N → (∀ k ∈ l, k.toNat < N) → l.foldl (fun m k => m ||| 2 ^ k.toNat) m < 2 ^ N
  | [], m, h, _ => h
  | k :: l, m, h, hl => by
    rw [List.foldl_cons]
    exact foldl_or_lt l _ (Nat.or_lt_two_pow h (Nat.pow_lt_pow_right (by omega) (hl k (by simp)))) fun k hk => hl k (by simp [hk])
theorem wK_lt {nx : Nat → List Int} {N : Nat} (hN : ∀ i, i < N → ∀ k ∈ nx i, 0 ≤ k ∧ k < N) : ∀ (K : Nat), K ≤ N → ∀ i, i < N → wK nx K i < 2 ^ N
  | 0, _, i, hi => foldl_or_lt _ _ (Nat.two_pow_pos N) fun k hk => by have := hN i hi k hk; omega
  | K + 1, hK, i, hi => by
    rw [wK]
    split
    · exact Nat.or_lt_two_pow (wK_lt hN K (by omega) i hi) (wK_lt hN K (by omega) K (by omega))
    · exact wK_lt hN K (by omega) i hi
/-! ### The components' numbers -/
section
variable (rel : Nat → Nat → Bool)
def repOf (i : Nat) : Nat := ((List.range i).find? fun k => rel i k).getD i
def isRep (i : Nat) : Bool := (List.range i).all fun k => !rel i k
def cntRep (i : Nat) : Nat := (List.range i).countP (isRep rel)
def numOf (i : Nat) : Nat := cntRep rel (repOf rel i)
end
section
variable {rel : Nat → Nat → Bool}
theorem isRep_iff {i : Nat} : isRep rel i = true ↔ ∀ k, k < i → rel i k = false := by
  unfold isRep
  simp [List.all_eq_true]
theorem cntRep_succ (i : Nat) : cntRep rel (i + 1) = cntRep rel i + if isRep rel i then 1 else 0 := by
  unfold cntRep
  rw [List.range_succ, List.countP_append]
  simp [List.countP_cons]
theorem cntRep_mono {i j : Nat} (h : i ≤ j) : cntRep rel i ≤ cntRep rel j := by
  induction h with
  | refl => exact Nat.le_refl _
  | step _ ih => rw [cntRep_succ]; omega
theorem repOf_spec (i : Nat) : (isRep rel i = true ∧ repOf rel i = i) ∨ (repOf rel i < i ∧ rel i (repOf rel i) = true ∧ ∀ k, k < repOf rel i → rel i k = false) := by
  unfold repOf
  cases h : (List.range i).find? fun k => rel i k with
  | none =>
    refine .inl ⟨isRep_iff.2 fun k hk => ?_, rfl⟩
    have := List.find?_eq_none.1 h k (List.mem_range.2 hk)
    simpa using this
  | some m =>
    refine .inr ?_
    rw [Option.getD_some]
    have hm := List.mem_of_find?_eq_some h
    have hp := List.find?_some h
    refine ⟨List.mem_range.1 hm, by simpa using hp, fun k hk => ?_⟩
    obtain ⟨_, xs1, bs, he, hno⟩ := List.find?_eq_some_iff_append.1 h
    have hk' : k ∈ List.range i := List.mem_range.2 (Nat.lt_trans hk (List.mem_range.1 hm))
    have hpw := List.pairwise_lt_range (n := i)
    rw [he] at hk' hpw
    rcases List.mem_append.1 hk' with hk' | hk'
    · simpa using hno k hk'
    · rcases List.mem_cons.1 hk' with rfl | hk'
      · omega
      · have h2 := (List.pairwise_append.1 hpw).2.1
        have := (List.pairwise_cons.1 h2).1 k hk'
        omega
theorem repOf_le (i : Nat) : repOf rel i ≤ i := by rcases repOf_spec (rel := rel) i with h | h <;> omega
theorem repOf_rep (ht : ∀ a b c, rel a b = true → rel b c = true → rel a c = true) (i : Nat) : isRep rel (repOf rel i) = true := by
  rcases repOf_spec (rel := rel) i with ⟨h1, h2⟩ | ⟨h1, h2, h3⟩
  · rw [h2]; exact h1
  · refine isRep_iff.2 fun k hk => ?_
    cases hr : rel (repOf rel i) k with
    | false => rfl
    | true =>
      have h4 := ht i (repOf rel i) k h2 hr
      rw [h3 k hk] at h4; cases h4
theorem repOf_same (hs : ∀ a b, rel a b = true → rel b a = true) (ht : ∀ a b c, rel a b = true → rel b c = true → rel a c = true) {i k : Nat} (h : rel i k = true) (hk : k < i) : repOf rel i = repOf rel k := by
  have hle : ∀ {a b : Nat}, rel a b = true → a ≠ b → repOf rel a ≤ repOf rel b := by
    intro a b hab hne
    rcases repOf_spec (rel := rel) b with ⟨h1, h2⟩ | ⟨h1, h2, h3⟩
    · rw [h2]
      rcases repOf_spec (rel := rel) a with ⟨g1, g2⟩ | ⟨g1, g2, g3⟩
      · rw [g2]
        rcases Nat.lt_or_ge b a with hba | hba
        · rw [isRep_iff.1 g1 b hba] at hab; cases hab
        · exact hba
      · rcases Nat.lt_or_ge b (repOf rel a) with hba | hba
        · rw [g3 b hba] at hab; cases hab
        · exact hba
    · have hr := ht a b _ hab h2
      rcases repOf_spec (rel := rel) a with ⟨g1, g2⟩ | ⟨g1, g2, g3⟩
      · rw [g2]
        rcases Nat.lt_or_ge (repOf rel b) a with hba | hba
        · rw [isRep_iff.1 g1 _ hba] at hr; cases hr
        · exact hba
      · rcases Nat.lt_or_ge (repOf rel b) (repOf rel a) with hba | hba
        · rw [g3 _ hba] at hr; cases hr
        · exact hba
  exact Nat.le_antisymm (hle h (by omega)) (hle (hs _ _ h) (by omega))
theorem numOf_lt (ht : ∀ a b c, rel a b = true → rel b c = true → rel a c = true) (i : Nat) : numOf rel i < cntRep rel (i + 1) := by
  unfold numOf
  have h := cntRep_succ (rel := rel) (repOf rel i)
  rw [if_pos (repOf_rep ht i)] at h
  have := cntRep_mono (rel := rel) (i := repOf rel i + 1) (j := i + 1) (by have := repOf_le (rel := rel) i; omega)
  omega
theorem numOf_rep {i : Nat} (h : isRep rel i = true) : numOf rel i = cntRep rel i := by
  rcases repOf_spec (rel := rel) i with ⟨h1, h2⟩ | ⟨h1, h2, h3⟩
  · unfold numOf; rw [h2]
  · rw [isRep_iff.1 h _ h1] at h2; cases h2
/-- The greatest number so far, and one less for none. -/
theorem numOf_top (ht : ∀ a b c, rel a b = true → rel b c = true → rel a c = true) : ∀ i, ((List.range i).map fun k => ((numOf rel k : Nat) : Int)).foldl max (-1) = (cntRep rel i : Int) - 1
  | 0 => by simp [cntRep]
  | i + 1 => by
    rw [List.range_succ, List.map_append, List.foldl_append, numOf_top ht i, cntRep_succ]
    simp only [List.map_cons, List.map_nil, List.foldl_cons, List.foldl_nil]
    cases h : isRep rel i with
    | true => rw [numOf_rep h, if_pos rfl]; omega
    | false =>
      have := numOf_lt ht i
      rw [cntRep_succ, h] at this
      simp only [Bool.false_eq_true, if_false] at this ⊢
      omega
end
def ltI (a b : Int) : Bool := decide (a < b)
theorem ltI_so : SO ltI := by
  constructor <;> intros <;> simp only [ltI, decide_eq_true_eq, decide_eq_false_iff_not] at * <;> omega
def ascL (l : List Int) : List Int := setG ltI l
end Go.Q
namespace Go.Proofs
open Go.Shelf Go.RowKit Go.Lib Go.Sort
def Try.lays189_ren:Go.Shelf.Ren:=⟨fun|189=>191|125=>135|257=>201|128=>182|129=>183|294=>205|295=>206|296=>207|297=>208|298=>209|299=>210|216=>211|300=>212|301=>213|328=>214|329=>197|330=>198|331=>215|332=>216|215=>184|343=>217|n=>n,fun|28=>22|3=>3|46=>165|0=>0|51=>193|53=>195|4=>4|183=>186|182=>185|131=>190|5=>5|9=>9|218=>206|222=>210|228=>217|229=>50|n=>n,fun|n=>n⟩
theorem Try.lays189:Go.Proofs.Lays.n189 Try.prog Try.lays189_ren:={
 mixed:=by kernel_rfl
 f125:=Try.func135.trans (congrArg some (by kernel_rfl))
 f128:=Try.func182.trans (congrArg some (by kernel_rfl))
 f129:=Try.func183.trans (congrArg some (by kernel_rfl))
 f189:=Try.func191.trans (congrArg some (by kernel_rfl))
 f215:=Try.func184.trans (congrArg some (by kernel_rfl))
 f216:=Try.func211.trans (congrArg some (by kernel_rfl))
 f257:=Try.func201.trans (congrArg some (by kernel_rfl))
 f294:=Try.func205.trans (congrArg some (by kernel_rfl))
 f295:=Try.func206.trans (congrArg some (by kernel_rfl))
 f296:=Try.func207.trans (congrArg some (by kernel_rfl))
 f297:=Try.func208.trans (congrArg some (by kernel_rfl))
 f298:=Try.func209.trans (congrArg some (by kernel_rfl))
 f299:=Try.func210.trans (congrArg some (by kernel_rfl))
 f300:=Try.func212.trans (congrArg some (by kernel_rfl))
 f301:=Try.func213.trans (congrArg some (by kernel_rfl))
 f328:=Try.func214.trans (congrArg some (by kernel_rfl))
 f329:=Try.func197.trans (congrArg some (by kernel_rfl))
 f330:=Try.func198.trans (congrArg some (by kernel_rfl))
 f331:=Try.func215.trans (congrArg some (by kernel_rfl))
 f332:=Try.func216.trans (congrArg some (by kernel_rfl))
 f343:=Try.func217.trans (congrArg some (by kernel_rfl))
 t0:=Try.underlying0
 a0:=Try.isAgg0
 z0:=Try.sizeOf0
 v0:=Try.zeroValue0
 t3:=Try.underlying3
 a3:=Try.isAgg3
 z3:=Try.sizeOf3
 v3:=Try.zeroValue3
 t4:=Try.underlying4
 a4:=Try.isAgg4
 z4:=Try.sizeOf4
 v4:=Try.zeroValue4
 t5:=Try.underlying5
 a5:=Try.isAgg5
 z5:=Try.sizeOf5
 v5:=Try.zeroValue5
 t9:=Try.underlying9
 a9:=Try.isAgg9
 z9:=Try.sizeOf9
 v9:=Try.zeroValue9
 t28:=Try.underlying22
 a28:=Try.isAgg22
 z28:=Try.sizeOf22
 v28:=Try.zeroValue22
 t46:=Try.underlying165
 a46:=Try.isAgg165
 z46:=Try.sizeOf165
 v46:=Try.zeroValue165
 t51:=Try.underlying193
 a51:=Try.isAgg193
 z51:=Try.sizeOf193
 v51:=Try.zeroValue193
 t53:=Try.underlying195
 a53:=Try.isAgg195
 z53:=Try.sizeOf195
 v53:=Try.zeroValue195
 t131:=Try.underlying190
 a131:=Try.isAgg190
 z131:=Try.sizeOf190
 v131:=Try.zeroValue190
 t182:=Try.underlying185
 a182:=Try.isAgg185
 z182:=Try.sizeOf185
 v182:=Try.zeroValue185
 t183:=Try.underlying186
 a183:=Try.isAgg186
 z183:=Try.sizeOf186
 v183:=Try.zeroValue186
 t218:=Try.underlying206
 a218:=Try.isAgg206
 z218:=Try.sizeOf206
 v218:=Try.zeroValue206
 t222:=Try.underlying210
 a222:=Try.isAgg210
 z222:=Try.sizeOf210
 v222:=Try.zeroValue210
 t228:=Try.underlying217
 a228:=Try.isAgg217
 z228:=Try.sizeOf217
 v228:=Try.zeroValue217
 t229:=Try.underlying50
 a229:=Try.isAgg50
 z229:=Try.sizeOf50
 v229:=Try.zeroValue50 }
end Go.Proofs
namespace Go.Proofs.Ytocnceglpkobaaa
open Go.RowKit Go.Q Go.D
theorem slicesSortInt (l : List Int) (hl : l.length < 4611686018427387904) : FnS1 Try.prog 191 1 (l.map cInt) ((sortG ltI l).map cInt) := by
  refine FnS1.ints ⟨_, Try.func191, by kernel_rfl, by kernel_rfl⟩ (fun _ => rfl) (sortG ltI) sortG_len (fun p cap w => ?_) (fun blk cap zs w hH hb hz => ?_) l hl
  · have hcon := Any.slices_Sort_int_none Try.lays189 p cap w
    change Calls Try.prog 191 _ _ _ at hcon
    exact hcon
  · have hcon := Any.slices_Sort_int Try.lays189 blk 0 cap zs w hH hb hz
    change Calls Try.prog 191 _ _ _ at hcon
    have e : (fun x y : Int => decide (x ≤ y)) = leG ltI := by
      funext x y
      unfold leG ltI
      by_cases h : x ≤ y <;> simp [h] <;> omega
    rw [e] at hcon
    exact hcon
theorem CompactInt (l : List Int) (hz : l.length ≤ 1099511627776) : FnC Try.prog 192 [(true, .one (.sl 1 (l.map cInt)))] (.a (.one (.sl 1 ((compactL l).map cInt)))) := by
  refine FnC.walk Try.func192 rfl (by kernel_rfl) Try.ntmps192 rfl (by rfl) fun w0 => ?_
  refine AW.le (σ' := ⟨_, [(0, _)], [(1000, _)]⟩) (Le.sub0 rfl ⟨rfl, trivial⟩ ⟨rfl, trivial⟩) ?_
  try simp [cPair, cToken, cExpr, cEdge, cGraph, cStep, cWalk, cChange, cBatch, cHistory, cPositions, cAutomaton, cProductStep, cPathAtom, cConjunction, cView, cDelta, cRegistered, cRegistry] at hlen
  refine AW.seq ?_
  -- region 0
  refine AW.region ?_
  refine AWl.put (R_assign rfl (.no rfl) rfl (.const rfl)) rfl ?_
  refine AWl.nilS (i := 2) 20001 1 rfl rfl ?_
  refine AWl.nil ?_
  refine AW.seq ?_
  refine AW.seq ?_
  -- region 1
  refine AW.region ?_
  refine AWl.put (R_move rfl (.no rfl) rfl (.tmp rfl fun _ => rfl)) rfl ?_
  refine AWl.put ((by exact R_lenm rfl (.no rfl) rfl (.tmp rfl fun _ => rfl) (by exact .rf rfl) Try.underlying22)) rfl ?_
  refine AWl.put (R_lt rfl (.no rfl) rfl (.tmp rfl fun _ => rfl) (.const rfl)) rfl ?_
  refine AWl.nil ?_
  refine AW.cond (.tmp rfl fun _ => rfl) (fun h8 => ?_) (fun h8 => ?_)
  · skip
    try simp at h8
    refine AW.seq ?_
    -- region 2
    refine AW.region ?_
    refine AWl.put (R_move rfl (.no rfl) rfl (.tmp rfl fun _ => rfl)) rfl ?_
    refine AWl.put (R_assign rfl (.no rfl) rfl (.tmp rfl fun _ => rfl)) rfl ?_
    refine AWl.nil ?_
    refine AW.ret ?_
    refine Res.one rfl (.tmp rfl .nil) rfl ?_
    rw [compactL_all (k := 1) (by omega) (fun j x y hj => by omega)]; rfl
  · skip
    try simp at h8
    refine AW.skip ?_
    refine AW.seq ?_
    refine AW.seq ?_
    -- region 3
    refine AW.region ?_
    refine AWl.put (R_assign rfl (.no rfl) rfl (.const rfl)) rfl ?_
    refine AWl.nil ?_
    refine AW.block ?_
    refine AW.loop1 (fun (k : Nat) => ((1 ≤ k ∧ k ≤ l.length) ∧ ∀ j x y, j + 1 < k → l[j + 1]? = some x → l[j]? = some y → y ≠ x) ∧ True) (fun (k : Nat) => ⟨_, [(3, (true, .a (.one (.t (.v (.int .i64 (k : Nat))))))), (0, _)], [(1000, .row 1 (l.map cInt))]⟩) (fun (k : Nat) => l.length - k) (1) ⟨⟨⟨Nat.le_refl _, by omega⟩, fun j x y hj => by omega⟩, trivial⟩ (Le.sub0 rfl ⟨rfl, rfl, trivial⟩ ⟨rfl, trivial⟩) ?_
    rintro k ⟨hk, he⟩
    refine AW.seq ?_
    refine AW.seq ?_
    -- region 4
    refine AW.region ?_
    refine AWl.put (R_move rfl (.no rfl) rfl (.tmp rfl fun _ => rfl)) rfl ?_
    refine AWl.put (R_move rfl (.no rfl) rfl (.tmp rfl fun _ => rfl)) rfl ?_
    refine AWl.put ((by exact R_lenm rfl (.no rfl) rfl (.tmp rfl fun _ => rfl) (by exact .rf rfl) Try.underlying22)) rfl ?_
    refine AWl.put (R_lt rfl (.no rfl) rfl (.tmp rfl fun _ => rfl) (.tmp rfl fun _ => rfl)) rfl ?_
    refine AWl.nil ?_
    refine AW.cond (.tmp rfl fun _ => rfl) (fun h13 => ?_) (fun h13 => ?_)
    · skip
      try simp at h13
      obtain ⟨x, hx⟩ : ∃ ξ, l[k]? = some ξ := ⟨_, List.getElem?_eq_getElem (by omega)⟩
      obtain ⟨y, hy⟩ : ∃ ξ, l[k - 1]? = some ξ := ⟨_, List.getElem?_eq_getElem (by omega)⟩
      have hy2 : l[((k : Int) - 1).toNat]? = some y := by (rw [show ((k : Int) - 1).toNat = k - 1 by omega]; exact hy)
      refine AW.skip ?_
      refine AW.seq ?_
      refine AW.block ?_
      refine AW.seq ?_
      -- region 6
      refine AW.drawn 10 (nthB [[], [], [0, 1], [0, 1, 2], [], [], [5], [4, 5, 6], [4, 5, 6, 7], [0, 1, 2, 3, 4, 5, 6, 7, 8]]) (by kernel_rfl) (by kernel_rfl) (by kernel_rfl) ?_
      refine DrawC.step rfl rfl rfl (Loc.of rfl fun σ' hs => R_move rfl (.no rfl) (hd_sup hs rfl) (.tmp (hs.slots _ _ rfl) fun _ => rfl)) ?_
      refine DrawC.step rfl rfl rfl (Loc.of rfl fun σ' hs => R_move rfl (.no rfl) (hd_sup hs rfl) (.tmp (hs.slots _ _ rfl) fun _ => rfl)) ?_
      refine DrawC.step rfl rfl rfl (Loc.of rfl fun σ' hs => (by exact R_indexAddr_rf rfl (.no rfl) (hd_sup hs rfl) (.tmp (hs.slots _ _ rfl) fun _ => rfl) (hs.res _ _ rfl) (.tmp (hs.slots _ _ rfl) fun _ => rfl) Try.underlying22 ty3 (fun _ => ⟨by omega, (by exact map_get hx)⟩))) ?_
      refine DrawC.step rfl rfl rfl (Loc.of rfl fun σ' hs => (by exact R_load_pr rfl (.no rfl) (hd_sup hs rfl) (.tmp (hs.slots _ _ rfl) fun _ => rfl) (hs.res _ _ rfl) (by exact map_get hx) ty3 rfl rfl)) ?_
      refine DrawC.step rfl rfl rfl (Loc.of rfl fun σ' hs => R_move rfl (.no rfl) (hd_sup hs rfl) (.tmp (hs.slots _ _ rfl) fun _ => rfl)) ?_
      refine DrawC.step rfl rfl rfl (Loc.of rfl fun σ' hs => R_move rfl (.no rfl) (hd_sup hs rfl) (.tmp (hs.slots _ _ rfl) fun _ => rfl)) ?_
      refine DrawC.step rfl rfl rfl (Loc.of rfl fun σ' hs => R_sub rfl (.no rfl) (hd_sup hs rfl) (.tmp (hs.slots _ _ rfl) fun _ => rfl) (.const rfl) (fun _ => by omega)) ?_
      refine DrawC.step rfl rfl rfl (Loc.of rfl fun σ' hs => (by exact R_indexAddr_rf rfl (.no rfl) (hd_sup hs rfl) (.tmp (hs.slots _ _ rfl) fun _ => rfl) (hs.res _ _ rfl) (.tmp (hs.slots _ _ rfl) fun _ => rfl) Try.underlying22 ty3 (fun _ => ⟨by omega, (by exact map_get hy2)⟩))) ?_
      refine DrawC.step rfl rfl rfl (Loc.of rfl fun σ' hs => (by exact R_load_pr rfl (.no rfl) (hd_sup hs rfl) (.tmp (hs.slots _ _ rfl) fun _ => rfl) (hs.res _ _ rfl) (by exact map_get hy2) ty3 rfl rfl)) ?_
      refine DrawC.step rfl rfl rfl (Loc.of rfl fun σ' hs => R_eq rfl (.no rfl) (hd_sup hs rfl) (.tmp (hs.slots _ _ rfl) fun _ => rfl) (.tmp (hs.slots _ _ rfl) fun _ => rfl)) ?_
      refine DrawC.fin rfl rfl ?_
      refine AWl.nil ?_
      refine AW.cond (.tmp rfl fun _ => rfl) (fun h25 => ?_) (fun h25 => ?_)
      · skip
        try simp at h25
        have hst : l.take k = compactL (l.take (k + 1)) := by (obtain ⟨k', rfl⟩ : ∃ k', k = k' + 1 := ⟨k - 1, by omega⟩; rw [compactL_take hx hy, if_pos h25.symm, List.append_nil, compactL_id hk.1.2 hk.2])
        refine AW.seq ?_
        -- region 7
        refine AW.le (σ' := ⟨_, [(0, _), (3, _)], [(1000, _)]⟩) (Le.sub0 rfl ⟨rfl, rfl, trivial⟩ ⟨rfl, trivial⟩) ?_
        refine AW.region ?_
        refine AWl.put (R_move rfl (.no rfl) rfl (.tmp rfl fun _ => rfl)) rfl ?_
        refine AWl.put (R_move rfl (.no rfl) rfl (.tmp rfl fun _ => rfl)) rfl ?_
        refine AWl.put ((by exact R_slice_rf (m := k) rfl (.no rfl) rfl (.tmp rfl fun _ => rfl) rfl (.yes (.tmp rfl fun _ => rfl) (fun _ => by first | rfl | omega | (simp <;> omega))) Try.underlying22 ty3 (fun _ => by simp; omega))) rfl ?_
        refine AWl.put (R_assign rfl (.no rfl) rfl (.tmp rfl fun _ => rfl)) rfl ?_
        refine AWl.nil ?_
        refine AW.seq ?_
        refine AW.seq ?_
        -- region 8
        refine AW.region ?_
        refine AWl.put (R_assign rfl (.no rfl) rfl (.const rfl)) rfl ?_
        refine AWl.nil ?_
        refine AW.block ?_
        refine AW.loop3 (fun (k2 : Nat) (k1 : Nat) (Rr : List Int) => ((1 ≤ k2 ∧ k + k2 ≤ l.length ∧ k1 + 1 ≤ k + k2 ∧ Rr.length = l.length)) ∧ Rr.drop (k + k2 - 1) = l.drop (k + k2 - 1) ∧ Rr.take k1 = compactL (l.take (k + k2))) (fun (k2 : Nat) (k1 : Nat) (Rr : List Int) => ⟨_, [(5, (true, .a (.one (.t (.v (.int .i64 (k2 : Nat))))))), (3, (true, .a (.one (.t (.v (.int .i64 (k1 : Nat))))))), (4, (true, .a (.one (.tl 1000 1 k)))), (0, _)], [(1000, .row 1 (Rr.map cInt))]⟩) (fun (k2 : Nat) (k1 : Nat) (Rr : List Int) => l.length - k2) (1) (k) (l) ⟨⟨by omega, by omega, by omega, rfl⟩, rfl, hst⟩ (Le.sub0 rfl ⟨rfl, rfl, rfl, rfl, trivial⟩ ⟨rfl, trivial⟩) ?_
        rintro k2 k1 Rr ⟨hk1, he1⟩
        refine AW.seq ?_
        refine AW.seq ?_
        -- region 9
        refine AW.region ?_
        refine AWl.put (R_move rfl (.no rfl) rfl (.tmp rfl fun _ => rfl)) rfl ?_
        refine AWl.put (R_move rfl (.no rfl) rfl (.tmp rfl fun _ => rfl)) rfl ?_
        refine AWl.put ((by exact R_len_tl rfl (.no rfl) rfl (.tmp rfl fun _ => rfl) rfl Try.underlying22)) rfl ?_
        refine AWl.put (R_lt rfl (.no rfl) rfl (.tmp rfl fun _ => rfl) (.tmp rfl fun _ => rfl)) rfl ?_
        refine AWl.nil ?_
        refine AW.cond (.tmp rfl fun _ => rfl) (fun h32 => ?_) (fun h32 => ?_)
        · skip
          try simp at h32
          obtain ⟨x2, hx2⟩ : ∃ ξ, l[k + k2]? = some ξ := ⟨_, List.getElem?_eq_getElem (by omega)⟩
          obtain ⟨y2, hy2'⟩ : ∃ ξ, l[k + k2 - 1]? = some ξ := ⟨_, List.getElem?_eq_getElem (by omega)⟩
          have hx2R : Rr[k + (k2 : Int).toNat]? = some x2 := by (rw [drop_get he1.1 (by omega)]; exact hx2)
          have hy2R : Rr[k + ((k2 : Int) - 1).toNat]? = some y2 := by (rw [show k + ((k2 : Int) - 1).toNat = k + k2 - 1 by omega, drop_get he1.1 (by omega)]; exact hy2')
          obtain ⟨r1, hr1⟩ : ∃ ξ, Rr[k1]? = some ξ := ⟨_, List.getElem?_eq_getElem (by omega)⟩
          refine AW.skip ?_
          refine AW.seq ?_
          refine AW.block ?_
          refine AW.seq ?_
          -- region 11
          refine AW.drawn 10 (nthB [[], [], [0, 1], [0, 1, 2], [], [], [5], [4, 5, 6], [4, 5, 6, 7], [0, 1, 2, 3, 4, 5, 6, 7, 8]]) (by kernel_rfl) (by kernel_rfl) (by kernel_rfl) ?_
          refine DrawC.step rfl rfl rfl (Loc.of rfl fun σ' hs => R_move rfl (.no rfl) (hd_sup hs rfl) (.tmp (hs.slots _ _ rfl) fun _ => rfl)) ?_
          refine DrawC.step rfl rfl rfl (Loc.of rfl fun σ' hs => R_move rfl (.no rfl) (hd_sup hs rfl) (.tmp (hs.slots _ _ rfl) fun _ => rfl)) ?_
          refine DrawC.step rfl rfl rfl (Loc.of rfl fun σ' hs => (by exact R_indexAddr_tl rfl (.no rfl) (hd_sup hs rfl) (.tmp (hs.slots _ _ rfl) fun _ => rfl) (hs.res _ _ rfl) (.tmp (hs.slots _ _ rfl) fun _ => rfl) Try.underlying22 ty3 (fun _ => ⟨by omega, (by exact map_get hx2R)⟩))) ?_
          refine DrawC.step rfl rfl rfl (Loc.of rfl fun σ' hs => (by exact R_load_pr rfl (.no rfl) (hd_sup hs rfl) (.tmp (hs.slots _ _ rfl) fun _ => rfl) (hs.res _ _ rfl) (by exact map_get hx2R) ty3 rfl rfl)) ?_
          refine DrawC.step rfl rfl rfl (Loc.of rfl fun σ' hs => R_move rfl (.no rfl) (hd_sup hs rfl) (.tmp (hs.slots _ _ rfl) fun _ => rfl)) ?_
          refine DrawC.step rfl rfl rfl (Loc.of rfl fun σ' hs => R_move rfl (.no rfl) (hd_sup hs rfl) (.tmp (hs.slots _ _ rfl) fun _ => rfl)) ?_
          refine DrawC.step rfl rfl rfl (Loc.of rfl fun σ' hs => R_sub rfl (.no rfl) (hd_sup hs rfl) (.tmp (hs.slots _ _ rfl) fun _ => rfl) (.const rfl) (fun _ => by omega)) ?_
          refine DrawC.step rfl rfl rfl (Loc.of rfl fun σ' hs => (by exact R_indexAddr_tl rfl (.no rfl) (hd_sup hs rfl) (.tmp (hs.slots _ _ rfl) fun _ => rfl) (hs.res _ _ rfl) (.tmp (hs.slots _ _ rfl) fun _ => rfl) Try.underlying22 ty3 (fun _ => ⟨by omega, (by exact map_get hy2R)⟩))) ?_
          refine DrawC.step rfl rfl rfl (Loc.of rfl fun σ' hs => (by exact R_load_pr rfl (.no rfl) (hd_sup hs rfl) (.tmp (hs.slots _ _ rfl) fun _ => rfl) (hs.res _ _ rfl) (by exact map_get hy2R) ty3 rfl rfl)) ?_
          refine DrawC.step rfl rfl rfl (Loc.of rfl fun σ' hs => R_ne rfl (.no rfl) (hd_sup hs rfl) (.tmp (hs.slots _ _ rfl) fun _ => rfl) (.tmp (hs.slots _ _ rfl) fun _ => rfl)) ?_
          refine DrawC.fin rfl rfl ?_
          refine AWl.nil ?_
          refine AW.cond (.tmp rfl fun _ => rfl) (fun h44 => ?_) (fun h44 => ?_)
          · skip
            try simp at h44
            refine AW.seq ?_
            -- region 12
            refine AW.le (σ' := ⟨_, [(0, _), (3, _), (4, _), (5, _)], [(1000, _)]⟩) (Le.sub0 rfl ⟨rfl, rfl, rfl, rfl, trivial⟩ ⟨rfl, trivial⟩) ?_
            refine AW.region ?_
            refine AWl.put (R_move rfl (.no rfl) rfl (.tmp rfl fun _ => rfl)) rfl ?_
            refine AWl.put (R_move rfl (.no rfl) rfl (.tmp rfl fun _ => rfl)) rfl ?_
            refine AWl.put (R_move rfl (.no rfl) rfl (.tmp rfl fun _ => rfl)) rfl ?_
            refine AWl.put (R_move rfl (.no rfl) rfl (.tmp rfl fun _ => rfl)) rfl ?_
            refine AWl.put ((by exact R_indexAddr_tl rfl (.no rfl) rfl (.tmp rfl fun _ => rfl) rfl (.tmp rfl fun _ => rfl) Try.underlying22 ty3 (fun _ => ⟨by omega, (by exact map_get hx2R)⟩))) rfl ?_
            refine AWl.put ((by exact R_load_pr rfl (.no rfl) rfl (.tmp rfl fun _ => rfl) rfl (by exact map_get hx2R) ty3 rfl rfl)) rfl ?_
            refine AWl.put ((by exact R_indexAddr_rf rfl (.no rfl) rfl (.tmp rfl fun _ => rfl) rfl (.tmp rfl fun _ => rfl) Try.underlying22 ty3 (fun _ => ⟨by omega, map_get hr1⟩))) rfl ?_
            refine AWl.absupd (R_store_pr rfl rfl rfl (.tmp rfl fun _ => rfl) rfl (.tmp rfl fun _ => rfl) rfl (map_get hr1) ty3 rfl rfl rfl rfl) ?_
            refine AWl.nil ?_
            -- region 13
            refine AW.le (σ' := ⟨_, [(0, _), (3, _), (4, _), (5, _)], [(1000, _)]⟩) (Le.sub0 rfl ⟨rfl, rfl, rfl, rfl, trivial⟩ ⟨rfl, trivial⟩) ?_
            refine AW.region ?_
            refine AWl.put (R_move rfl (.no rfl) rfl (.tmp rfl fun _ => rfl)) rfl ?_
            refine AWl.put (R_add rfl (.no rfl) rfl (.tmp rfl fun _ => rfl) (.const rfl) (fun _ => by omega)) rfl ?_
            refine AWl.put (R_assign rfl (.no rfl) rfl (.tmp rfl fun _ => rfl)) rfl ?_
            refine AWl.nil ?_
            -- region 10
            refine AW.region ?_
            refine AWl.put (R_move rfl (.no rfl) rfl (.tmp rfl fun _ => rfl)) rfl ?_
            refine AWl.put (R_add rfl (.no rfl) rfl (.tmp rfl fun _ => rfl) (.const rfl) (fun _ => by omega)) rfl ?_
            refine AWl.put (R_assign rfl (.no rfl) rfl (.tmp rfl fun _ => rfl)) rfl ?_
            refine AWl.nil ?_
            repeat (with_reducible refine BlockQ.nor ?_)
            refine Round3.next (k2 + 1) (k1 + 1) (Rr.set k1 x2) ⟨⟨by omega, by omega, by omega, by simp; omega⟩, by rw [set_drop (by omega)]; exact drop_more he1.1 (by omega), by rw [set_take (by omega), he1.2, show k + (k2 + 1) = k + k2 + 1 by omega, compactL_take' (by omega) hx2 hy2', if_neg (fun e => h44 e.symm)]⟩ (by omega) (Le.sub0 rfl ⟨rfl, rfl, rfl, rfl, trivial⟩ ⟨(by (refine congrArg (fun r => some (R.row _ r)) ?_; simp [chunk, List.map_set, cInt, cBool, cIntS, cPair, cToken, cExpr, cEdge, cGraph, cStep, cWalk, cChange, cBatch, cHistory, cPositions, cAutomaton, cProductStep, cPathAtom, cConjunction, cView, cDelta, cRegistered, cRegistry])), trivial⟩)
          · skip
            try simp at h44
            refine AW.skip ?_
            -- region 10
            refine AW.le (σ' := ⟨_, [(0, _), (3, _), (4, _), (5, _)], [(1000, _)]⟩) (Le.sub0 rfl ⟨rfl, rfl, rfl, rfl, trivial⟩ ⟨rfl, trivial⟩) ?_
            refine AW.region ?_
            refine AWl.put (R_move rfl (.no rfl) rfl (.tmp rfl fun _ => rfl)) rfl ?_
            refine AWl.put (R_add rfl (.no rfl) rfl (.tmp rfl fun _ => rfl) (.const rfl) (fun _ => by omega)) rfl ?_
            refine AWl.put (R_assign rfl (.no rfl) rfl (.tmp rfl fun _ => rfl)) rfl ?_
            refine AWl.nil ?_
            repeat (with_reducible refine BlockQ.nor ?_)
            refine Round3.next (k2 + 1) (k1) (Rr) ⟨⟨by omega, by omega, by omega, hk1.2.2.2⟩, drop_more he1.1 (by omega), by rw [he1.2, show k + (k2 + 1) = k + k2 + 1 by omega, compactL_take' (by omega) hx2 hy2', if_pos h44.symm, List.append_nil]⟩ (by omega) (Le.sub0 rfl ⟨rfl, rfl, rfl, rfl, trivial⟩ ⟨(by rfl), trivial⟩)
        · skip
          try simp at h32
          refine AW.exit ?_
          refine AW.seq ?_
          -- region 14
          refine AW.region ?_
          refine AWl.put (R_move rfl (.no rfl) rfl (.tmp rfl fun _ => rfl)) rfl ?_
          refine AWl.put (R_move rfl (.no rfl) rfl (.tmp rfl fun _ => rfl)) rfl ?_
          refine AWl.put ((by exact R_slice_rf (m := k1) rfl (.no rfl) rfl (.tmp rfl fun _ => rfl) rfl (.yes (.tmp rfl fun _ => rfl) (fun _ => by first | rfl | omega | (simp <;> omega))) Try.underlying22 ty3 (fun _ => by simp; omega))) rfl ?_
          refine AWl.absupd (R_clear rfl rfl rfl (.tmp rfl fun _ => rfl) rfl Try.underlying22 in3 rfl rfl) ?_
          refine AWl.nil ?_
          refine AW.seq ?_
          -- region 15
          refine AW.le (σ' := ⟨_, [(0, _), (3, _), (4, _), (5, _)], [(1000, _)]⟩) (Le.sub0 rfl ⟨rfl, rfl, rfl, rfl, trivial⟩ ⟨rfl, trivial⟩) ?_
          refine AW.region ?_
          refine AWl.put (R_move rfl (.no rfl) rfl (.tmp rfl fun _ => rfl)) rfl ?_
          refine AWl.put (R_move rfl (.no rfl) rfl (.tmp rfl fun _ => rfl)) rfl ?_
          refine AWl.chgput (R_cut (m := k1) rfl rfl rfl (.tmp rfl fun _ => rfl) rfl (.yes (.tmp rfl fun _ => rfl) (fun _ => by first | rfl | omega | (simp <;> omega))) Try.underlying22 ty3 (by simp; omega)) rfl ?_
          refine AWl.le (σ' := ⟨_, [(0, _), (3, _), (4, _), (5, _), (59, _)], [(1000, _)]⟩) (Le.sub0 rfl ⟨rfl, rfl, rfl, rfl, rfl, trivial⟩ ⟨rfl, trivial⟩) ?_
          refine AWl.put (R_assign rfl (.no rfl) rfl (.tmp rfl fun _ => rfl)) rfl ?_
          refine AWl.nil ?_
          refine AW.ret ?_
          refine Res.one rfl (.tmp rfl .nil) rfl ?_
          refine congrArg (fun r => [V0.one (T.sl 1 r)]) ?_; exact cut_rows (by rw [he1.2, List.take_of_length_le (by omega)]) (by omega)
      · skip
        try simp at h25
        refine AW.skip ?_
        -- region 5
        refine AW.le (σ' := ⟨_, [(0, _), (3, _)], [(1000, _)]⟩) (Le.sub0 rfl ⟨rfl, rfl, trivial⟩ ⟨rfl, trivial⟩) ?_
        refine AW.region ?_
        refine AWl.put (R_move rfl (.no rfl) rfl (.tmp rfl fun _ => rfl)) rfl ?_
        refine AWl.put (R_add rfl (.no rfl) rfl (.tmp rfl fun _ => rfl) (.const rfl) (fun _ => by omega)) rfl ?_
        refine AWl.put (R_assign rfl (.no rfl) rfl (.tmp rfl fun _ => rfl)) rfl ?_
        refine AWl.nil ?_
        repeat (with_reducible refine BlockQ.nor ?_)
        refine Round1.next (k + 1) ⟨⟨by omega, fun j x' y' hj hx' hy' => by rcases Nat.lt_or_eq_of_le (Nat.le_of_lt_succ hj) with h | h; exact hk.2 j x' y' h hx' hy'; (subst h; rw [hx] at hx'; rw [show j = j + 1 - 1 by omega] at hy'; rw [hy] at hy'; cases hx'; cases hy'; exact fun e => h25 e.symm)⟩, trivial⟩ (by omega) (Le.sub0 rfl ⟨rfl, rfl, trivial⟩ ⟨(by rfl), trivial⟩)
    · skip
      try simp at h13
      refine AW.exit ?_
      refine AW.seq ?_
      -- region 16
      refine AW.region ?_
      refine AWl.put (R_move rfl (.no rfl) rfl (.tmp rfl fun _ => rfl)) rfl ?_
      refine AWl.put (R_assign rfl (.no rfl) rfl (.tmp rfl fun _ => rfl)) rfl ?_
      refine AWl.nil ?_
      refine AW.ret ?_
      refine Res.one rfl (.tmp rfl .nil) rfl ?_
      rw [compactL_all h13 (fun j x y hj => hk.2 j x y (by omega))]; rfl
theorem implascending (l : List Int) (hz : l.length ≤ 1073741824) : FnT Try.prog 161 [.one (.sl 1 (l.map cInt))] (.a (.one (.sl 1 ((ascL l).map cInt)))) := by
  refine FnT.walk Try.func161 rfl (by kernel_rfl) Try.ntmps161 rfl fun hlen w0 => ?_
  try simp [cPair, cToken, cExpr, cEdge, cGraph, cStep, cWalk, cChange, cBatch, cHistory, cPositions, cAutomaton, cProductStep, cPathAtom, cConjunction, cView, cDelta, cRegistered, cRegistry] at hlen
  refine AW.seq ?_
  -- region 0
  refine AW.region ?_
  refine AWl.put (R_assign rfl (.no rfl) rfl (.const rfl)) rfl ?_
  refine AWl.nilS (i := 2) 20001 1 rfl rfl ?_
  refine AWl.nil ?_
  refine AW.seq ?_
  -- region 1
  refine AW.region ?_
  refine AWl.put (R_move rfl (.no rfl) rfl (.tmp rfl fun _ => rfl)) rfl ?_
  refine AWl.adds (R_call 500 (implcopyInts l hz) rfl rfl rfl (.cons (.tmp rfl fun _ => rfl) rfl .nil) rfl rfl) rfl ?_
  refine AWl.put (R_assign rfl (.no rfl) rfl (.tmp rfl fun _ => rfl)) rfl ?_
  refine AWl.nil ?_
  refine AW.seq ?_
  -- region 2
  refine AW.region ?_
  refine AWl.put (R_move rfl (.no rfl) rfl (.tmp rfl fun _ => rfl)) rfl ?_
  refine AWl.updput (R_sort1 rfl rfl rfl (.tmp rfl fun _ => rfl) rfl (slicesSortInt l (by omega))) rfl ?_
  refine AWl.nil ?_
  refine AW.seq ?_
  -- region 3
  refine AW.region ?_
  refine AWl.put (R_move rfl (.no rfl) rfl (.tmp rfl fun _ => rfl)) rfl ?_
  apply AWl.consume
  case ho =>
    apply R_consume (xo := .tmp 8) 900 (CompactInt (sortG ltI l) (by rw [sortG_len]; omega)) rfl rfl rfl (.tmp rfl fun _ => rfl)
    case ha => rfl
    case hargs => exact (ArgC.own .nil)
    all_goals rfl
  case hd => rfl
  refine AWl.put (R_assign rfl (.no rfl) rfl (.tmp rfl fun _ => rfl)) rfl ?_
  refine AWl.nil ?_
  refine AW.ret ?_
  refine Res.one rfl (.tmp rfl .nil) rfl ?_
  unfold ascL; rw [← compact_sort ltI_so]; rfl
end Go.Proofs.Ytocnceglpkobaaa
