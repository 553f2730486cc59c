import Derived.Test.YtbkhopfpejhnlaaGreatB30ra
set_option linter.unusedVariables false
set_option linter.unusedSimpArgs false
set_option maxHeartbeats 1000000
set_option maxRecDepth 100000
namespace Go.Q
open Go.D
def gridF (n : Nat) (f : Nat → Nat → Bool) : List (List Bool) := (List.range n).map fun i => (List.range n).map (f i)
theorem gridF_len (n : Nat) (f : Nat → Nat → Bool) : (gridF n f).length = n := by simp [gridF]
theorem gridF_row {n : Nat} {f : Nat → Nat → Bool} {i : Nat} (h : i < n) : (gridF n f)[i]? = some ((List.range n).map (f i)) := by
 unfold gridF
 rw [List.getElem?_map, List.getElem?_range h]; rfl
theorem row_at {n : Nat} {r : Nat → Bool} {j : Nat} (h : j < n) : ((List.range n).map r)[j]? = some (r j) := by
 rw [List.getElem?_map, List.getElem?_range h]; rfl
theorem gridF_ext {n : Nat} {f g : Nat → Nat → Bool} (h : ∀ i j, i < n → j < n → f i j = g i j) : gridF n f = gridF n g := by
 unfold gridF
 refine List.map_congr_left fun i hi => List.map_congr_left fun j hj => h i j (List.mem_range.1 hi) (List.mem_range.1 hj)
def setF (f : Nat → Nat → Bool) (i j : Nat) (b : Bool) : Nat → Nat → Bool := fun x y => if x = i ∧ y = j then b else f x y
theorem row_set {n : Nat} {r : Nat → Bool} {j : Nat} {b : Bool} : ((List.range n).map r).set j b = (List.range n).map fun y => if y = j then b else r y := by
 apply List.ext_getElem?
 intro k
 rw [List.getElem?_set]
 by_cases hk : k < n
 · rw [row_at (r := fun y => if y = j then b else r y) hk]
   by_cases e : j = k
   · subst e; simp [hk]
   · rw [if_neg e, row_at hk, if_neg (fun h => e h.symm)]
 · have h1 : ((List.range n).map r)[k]? = none := List.getElem?_eq_none (by simp; omega)
   have h2 : ((List.range n).map fun y => if y = j then b else r y)[k]? = none := List.getElem?_eq_none (by simp; omega)
   rw [h2]
   by_cases e : j = k
   · subst e; simp [hk]
   · rw [if_neg e, h1]
theorem gridF_set {n : Nat} {f : Nat → Nat → Bool} {i j : Nat} {b : Bool} : (gridF n f).set i (((List.range n).map (f i)).set j b) = gridF n (setF f i j b) := by
 rw [row_set]
 unfold gridF
 apply List.ext_getElem?
 intro k
 rw [List.getElem?_set]
 by_cases hk : k < n
 · rw [List.getElem?_map, List.getElem?_range hk, List.getElem?_map, List.getElem?_range hk]
   by_cases e : i = k
   · subst e
     simp [hk, setF]
   · rw [if_neg e]
     simp only [Option.map_some, Option.some.injEq]
     refine List.map_congr_left fun y _ => ?_
     simp [setF, show ¬ k = i from fun h => e h.symm]
 · have h1 : ((List.range n).map fun i => (List.range n).map (f i))[k]? = none := List.getElem?_eq_none (by simp; omega)
   have h2 : ((List.range n).map fun x => (List.range n).map (setF f i j b x))[k]? = none := List.getElem?_eq_none (by simp; omega)
   rw [h2]
   by_cases e : i = k
   · subst e; simp [hk]
   · rw [if_neg e, h1]
abbrev GR := Nat → Nat → Bool
def idR : GR := fun i j => decide (i = j)
def noR : GR := fun _ _ => false
def orR (f g : GR) : GR := fun i j => f i j || g i j
def thenR (n : Nat) (f g : GR) : GR := fun i j => (List.range n).any fun k => f i k && g k j
def upR (f : GR) : Prop := ∀ i j, f i j = true → i ≤ j
def letR (w : List Int) (k : Int) : GR := fun i j => decide (j = i + 1) && decide (w[i]? = some k)
def starR (n : Nat) (f : GR) : Nat → GR
 | 0 => idR
 | k + 1 => orR (starR n f k) (thenR n (starR n f k) f)
def powR (n : Nat) (f : GR) : Nat → GR
 | 0 => idR
 | k + 1 => thenR n (powR n f k) f
def repR (n : Nat) (f : GR) (low : Int) : Nat → GR
 | 0 => noR
 | k + 1 => if low ≤ (k : Int) then orR (repR n f low k) (powR n f k) else repR n f low k
def wordR (w : List Int) : Tr → GR
 | .leaf t => if t.Kind = 2 then idR else if t.Kind = 3 then letR w t.Letter else noR
 | .un t x => if t.Kind = 6 then starR (w.length + 1) (wordR w x) (w.length + 1) else repR (w.length + 1) (wordR w x) t.Low (t.High.toNat + 1)
 | .bin t x y => if t.Kind = 4 then thenR (w.length + 1) (wordR w x) (wordR w y) else orR (wordR w x) (wordR w y)
theorem thenR_true {n : Nat} {f g : GR} {i j : Nat} : thenR n f g i j = true ↔ ∃ k, k < n ∧ f i k = true ∧ g k j = true := by
 unfold thenR
 rw [List.any_eq_true]
 simp
theorem up_id : upR idR := fun i j h => by
 have : i = j := by simpa [idR] using h
 omega
theorem up_no : upR noR := fun i j h => by cases h
theorem up_or {f g : GR} (hf : upR f) (hg : upR g) : upR (orR f g) := fun i j h => by
 unfold orR at h
 rcases Bool.or_eq_true _ _ ▸ h with h | h
 · exact hf i j h
 · exact hg i j h
theorem up_then {n : Nat} {f g : GR} (hf : upR f) (hg : upR g) : upR (thenR n f g) := fun i j h => by
 obtain ⟨k, _, h1, h2⟩ := thenR_true.1 h
 have := hf i k h1; have := hg k j h2; omega
theorem up_let (w : List Int) (k : Int) : upR (letR w k) := fun i j h => by
 unfold letR at h
 simp only [Bool.and_eq_true, decide_eq_true_eq] at h
 omega
theorem up_star {n : Nat} {f : GR} (hf : upR f) : ∀ k, upR (starR n f k)
 | 0 => up_id
 | k + 1 => up_or (up_star hf k) (up_then (up_star hf k) hf)
theorem up_pow {n : Nat} {f : GR} (hf : upR f) : ∀ k, upR (powR n f k)
 | 0 => up_id
 | k + 1 => up_then (up_pow hf k) hf
theorem up_rep {n : Nat} {f : GR} (hf : upR f) (low : Int) : ∀ k, upR (repR n f low k)
 | 0 => up_no
 | k + 1 => by
  rw [repR]; split
  · exact up_or (up_rep hf low k) (up_pow hf k)
  · exact up_rep hf low k
theorem up_word (w : List Int) : ∀ x : Tr, upR (wordR w x)
 | .leaf t => by
  rw [wordR]; split
  · exact up_id
  · split
    · exact up_let w _
    · exact up_no
 | .un t x => by
  rw [wordR]; split
  · exact up_star (up_word w x) _
  · exact up_rep (up_word w x) _ _
 | .bin t x y => by
  rw [wordR]; split
  · exact up_then (up_word w x) (up_word w y)
  · exact up_or (up_word w x) (up_word w y)
theorem starR_mono (n : Nat) (f : GR) (i j : Nat) : ∀ {k m : Nat}, k ≤ m → starR n f k i j = true → starR n f m i j = true
 | k, 0, h, hs => by
  have : k = 0 := by omega
  subst this; exact hs
 | k, m + 1, h, hs => by
  by_cases e : k = m + 1
  · subst e; exact hs
  · show (starR n f m i j || thenR n (starR n f m) f i j) = true
    rw [Bool.or_eq_true]
    exact .inl (starR_mono n f i j (by omega) hs)
theorem starR_short {n : Nat} {f : GR} (hf : upR f) (i : Nat) : ∀ (k j : Nat), starR n f k i j = true → i ≤ j ∧ starR n f (j - i) i j = true
 | 0, j, h => by
  have e : i = j := by simpa [starR, idR] using h
  subst e
  exact ⟨Nat.le_refl _, by rw [Nat.sub_self]; exact h⟩
 | k + 1, j, h => by
  have h : (starR n f k i j || thenR n (starR n f k) f i j) = true := h
  rcases Bool.or_eq_true _ _ ▸ h with h | h
  · exact starR_short hf i k j h
  · obtain ⟨m, hm, h1, h2⟩ := thenR_true.1 h
    obtain ⟨g1, g2⟩ := starR_short hf i k m h1
    have g3 := hf m j h2
    by_cases e : m = j
    · subst e; exact ⟨g1, g2⟩
    · refine ⟨by omega, starR_mono n f i j (k := m - i + 1) (by omega) ?_⟩
      show (starR n f (m - i) i j || thenR n (starR n f (m - i)) f i j) = true
      rw [Bool.or_eq_true]
      exact .inr (thenR_true.2 ⟨m, hm, g2, h2⟩)
theorem starR_fix {n : Nat} {f : GR} (hf : upR f) {k : Nat} (hk : n ≤ k + 1) {i j : Nat} (hj : j < n) (m : Nat) (hm : k ≤ m) : starR n f m i j = starR n f k i j := by
 rw [Bool.eq_iff_iff]
 exact ⟨fun h => starR_mono n f i j (by omega) (starR_short hf i m j h).2, starR_mono n f i j hm⟩
theorem repR_star (n : Nat) (f : GR) : ∀ k, 0 < k → ∀ i j, repR n f 0 k i j = starR n f (k - 1) i j
 | 1, _, i, j => by simp [repR, starR, orR, noR, powR]
 | k + 2, _, i, j => by
  rw [repR, if_pos (by omega)]
  show (repR n f 0 (k + 1) i j || powR n f (k + 1) i j) = (starR n f k i j || thenR n (starR n f k) f i j)
  have ih := repR_star n f (k + 1) (by omega)
  simp only [Nat.add_sub_cancel] at ih
  rw [ih]
  rw [Bool.eq_iff_iff, Bool.or_eq_true, Bool.or_eq_true]
  constructor
  · rintro (h | h)
    · exact .inl h
    · right
      obtain ⟨m, hm, h1, h2⟩ := thenR_true.1 h
      refine thenR_true.2 ⟨m, hm, ?_, h2⟩
      have key : ∀ k m, powR n f k i m = true → starR n f k i m = true := fun k => by
       induction k with
       | zero => exact fun _ h => h
       | succ k ih =>
        intro m h
        show (starR n f k i m || thenR n (starR n f k) f i m) = true
        obtain ⟨z, hz, h3, h4⟩ := thenR_true.1 h
        rw [Bool.or_eq_true]
        exact .inr (thenR_true.2 ⟨z, hz, ih z h3, h4⟩)
      exact key k m h1
  · rintro (h | h)
    · exact .inl h
    · obtain ⟨m, hm, h1, h2⟩ := thenR_true.1 h
      have key : ∀ k m, m < n → starR n f k i m = true → ∀ j, f m j = true → (starR n f k i j = true ∨ powR n f (k + 1) i j = true) := fun k => by
       induction k with
       | zero =>
        intro m hm h j hj
        right
        exact thenR_true.2 ⟨m, hm, h, hj⟩
       | succ k ih =>
        intro m hm h j hj
        have h : (starR n f k i m || thenR n (starR n f k) f i m) = true := h
        rcases Bool.or_eq_true _ _ ▸ h with h | h
        · left
          show (starR n f k i j || thenR n (starR n f k) f i j) = true
          rw [Bool.or_eq_true]
          exact .inr (thenR_true.2 ⟨m, hm, h, hj⟩)
        · obtain ⟨z, hz, h3, h4⟩ := thenR_true.1 h
          rcases ih z hz h3 m h4 with h5 | h5
          · left
            show (starR n f k i j || thenR n (starR n f k) f i j) = true
            rw [Bool.or_eq_true]
            exact .inr (thenR_true.2 ⟨m, hm, h5, hj⟩)
          · right
            exact thenR_true.2 ⟨m, hm, h5, hj⟩
      exact key k m hm h1 j h2
end Go.Q
