/- Pairs: both texts. -/
import Derived.Test.YtoealglkenhphaaB02xa
import Derived.Test.YtoealglkenhphaaAbsKxa
set_option linter.unusedVariables false
set_option linter.unusedSimpArgs false
set_option maxHeartbeats 1000000
set_option maxRecDepth 100000
namespace Go.Q
open Go.D
/-! ### Sets as sorted lists -/
structure SO {α : Type} (lt : α → α → Bool) : Prop where
  irr : ∀ x, lt x x = false
  tra : ∀ x y z, lt x y = true → lt y z = true → lt x z = true
  tri : ∀ x y, lt x y = true ∨ x = y ∨ lt y x = true
def putG {α : Type} [DecidableEq α] (lt : α → α → Bool) : List α → α → List α
  | [], p => [p]
  | x :: l, p => if lt x p then x :: putG lt l p else if x = p then x :: l else p :: x :: l
def StrictS {α : Type} (lt : α → α → Bool) (l : List α) : Prop := l.Pairwise fun a b => lt a b = true
section
variable {α : Type} {lt : α → α → Bool}
theorem strict_ext (ho : SO lt) : ∀ {l r : List α}, StrictS lt l → StrictS lt r → (∀ x, x ∈ l ↔ x ∈ r) → l = r
  | [], [], _, _, _ => rfl
  | [], y :: r, _, _, h => by have := (h y).2 (by simp); cases this
  | x :: l, [], _, _, h => by have := (h x).1 (by simp); cases this
  | x :: l, y :: r, hl, hr, h => by
    have hl' := List.pairwise_cons.1 hl
    have hr' := List.pairwise_cons.1 hr
    have e : x = y := by
      rcases List.mem_cons.1 ((h x).1 (by simp)) with h1 | h1
      · exact h1
      · rcases List.mem_cons.1 ((h y).2 (by simp)) with h2 | h2
        · exact h2.symm
        · have h3 := hr'.1 x h1
          have h4 := hl'.1 y h2
          have := ho.tra _ _ _ h3 h4
          rw [ho.irr] at this; cases this
    subst e
    congr 1
    refine strict_ext ho hl'.2 hr'.2 fun z => ⟨fun hz => ?_, fun hz => ?_⟩
    · rcases List.mem_cons.1 ((h z).1 (by simp [hz])) with h1 | h1
      · subst h1; have := hl'.1 z hz; rw [ho.irr] at this; cases this
      · exact h1
    · rcases List.mem_cons.1 ((h z).2 (by simp [hz])) with h1 | h1
      · subst h1; have := hr'.1 z hz; rw [ho.irr] at this; cases this
      · exact h1
def leG (lt : α → α → Bool) (a b : α) : Bool := !lt b a
def sortG (lt : α → α → Bool) (l : List α) : List α := l.mergeSort (leG lt)
theorem leG_trans (ho : SO lt) (a b c : α) (h1 : leG lt a b = true) (h2 : leG lt b c = true) : leG lt a c = true := by
  unfold leG at *
  simp only [Bool.not_eq_true'] at *
  cases h : lt c a with
  | false => rfl
  | true =>
    rcases ho.tri a b with h3 | h3 | h3
    · have := ho.tra _ _ _ h h3; rw [h2] at this; cases this
    · subst h3; rw [h2] at h; cases h
    · rw [h1] at h3; cases h3
theorem leG_total (ho : SO lt) (a b : α) : (leG lt a b || leG lt b a) = true := by
  unfold leG
  cases h : lt b a with
  | false => rfl
  | true =>
    cases h2 : lt a b with
    | false => rfl
    | true => have := ho.tra _ _ _ h h2; rw [ho.irr] at this; cases this
theorem sortG_sorted (ho : SO lt) (l : List α) : (sortG lt l).Pairwise fun a b => lt b a = false := by
  have := List.pairwise_mergeSort (leG_trans ho) (leG_total ho) l
  exact this.imp fun h => by simpa [leG] using h
theorem mem_sortG {x : α} {l : List α} : x ∈ sortG lt l ↔ x ∈ l := (List.mergeSort_perm l _).mem_iff
theorem sortG_len (l : List α) : (sortG lt l).length = l.length := (List.mergeSort_perm l _).length_eq
theorem sortG_unique (ho : SO lt) {l r : List α} (hp : r.Perm l) (hs : r.Pairwise fun a b => lt b a = false) : r = sortG lt l := by
  refine List.Perm.eq_of_pairwise (le := fun a b => lt b a = false) (fun a b _ _ h1 h2 => ?_) hs (sortG_sorted ho l) (hp.trans (List.mergeSort_perm l _).symm)
  rcases ho.tri a b with h3 | h3 | h3
  · rw [h2] at h3; cases h3
  · exact h3
  · rw [h1] at h3; cases h3
end
section
variable {α : Type} [DecidableEq α] {lt : α → α → Bool}
theorem mem_putG {x p : α} : ∀ {l : List α}, x ∈ putG lt l p ↔ x ∈ l ∨ x = p
  | [] => by simp [putG]
  | y :: l => by
    rw [putG]
    split
    · simp [mem_putG (l := l), or_assoc]
    · split
      · rename_i h; subst h; simp; intro h; exact .inl h
      · simp; constructor
        · rintro (h | h | h) <;> simp [h]
        · rintro ((h | h) | h) <;> simp [h]
theorem putG_strict (ho : SO lt) {p : α} : ∀ {l : List α}, StrictS lt l → StrictS lt (putG lt l p)
  | [], _ => by simp [putG, StrictS]
  | y :: l, h => by
    have h' := List.pairwise_cons.1 h
    rw [putG]
    split
    · rename_i hy
      refine List.pairwise_cons.2 ⟨fun x hx => ?_, putG_strict ho h'.2⟩
      rcases mem_putG.1 hx with hx | rfl
      · exact h'.1 x hx
      · exact hy
    · rename_i hy
      split
      · exact h
      · rename_i hne
        have hlt : lt p y = true := by
          rcases ho.tri y p with h1 | h1 | h1
          · exact absurd h1 hy
          · exact absurd h1 hne
          · exact h1
        refine List.pairwise_cons.2 ⟨fun x hx => ?_, h⟩
        rcases List.mem_cons.1 hx with rfl | hx
        · exact hlt
        · exact ho.tra _ _ _ hlt (h'.1 x hx)
def setG (lt : α → α → Bool) (l : List α) : List α := l.foldl (putG lt) []
theorem foldl_strict (ho : SO lt) : ∀ {l acc : List α}, StrictS lt acc → StrictS lt (l.foldl (putG lt) acc)
  | [], _, h => h
  | x :: l, acc, h => foldl_strict ho (l := l) (putG_strict ho h)
theorem mem_foldl {x : α} : ∀ {l acc : List α}, x ∈ l.foldl (putG lt) acc ↔ x ∈ acc ∨ x ∈ l
  | [], acc => by simp
  | y :: l, acc => by
    rw [List.foldl_cons, mem_foldl, mem_putG, List.mem_cons, or_assoc]
theorem setG_strict (ho : SO lt) (l : List α) : StrictS lt (setG lt l) := foldl_strict ho List.Pairwise.nil
theorem mem_setG {x : α} {l : List α} : x ∈ setG lt l ↔ x ∈ l := by unfold setG; rw [mem_foldl]; simp
/-- Neighbours that are equal are one. -/
def compactL : List α → List α
  | [] => []
  | [x] => [x]
  | x :: y :: l => if x = y then compactL (y :: l) else x :: compactL (y :: l)
theorem mem_compactL {x : α} : ∀ {l : List α}, x ∈ compactL l ↔ x ∈ l
  | [] => Iff.rfl
  | [y] => Iff.rfl
  | y :: z :: l => by
    rw [compactL]
    split
    · rename_i h; subst h; rw [mem_compactL]; simp
    · rw [List.mem_cons, mem_compactL, List.mem_cons (l := z :: l)]
theorem compactL_strict (ho : SO lt) : ∀ {l : List α}, l.Pairwise (fun a b => lt b a = false) → StrictS lt (compactL l)
  | [], _ => List.Pairwise.nil
  | [y], _ => by simp [compactL, StrictS]
  | y :: z :: l, h => by
    have h' := List.pairwise_cons.1 h
    rw [compactL]
    split
    · exact compactL_strict ho h'.2
    · rename_i hne
      refine List.pairwise_cons.2 ⟨fun x hx => ?_, compactL_strict ho h'.2⟩
      have hyz : lt y z = true := by
        rcases ho.tri y z with h1 | h1 | h1
        · exact h1
        · exact absurd h1 hne
        · rw [h'.1 z (by simp)] at h1; cases h1
      rcases List.mem_cons.1 (mem_compactL.1 hx) with rfl | hx
      · exact hyz
      · have h2 := (List.pairwise_cons.1 h'.2).1 x hx
        rcases ho.tri z x with h3 | h3 | h3
        · exact ho.tra _ _ _ hyz h3
        · subst h3; exact hyz
        · rw [h2] at h3; cases h3
theorem compact_sort (ho : SO lt) (l : List α) : compactL (sortG lt l) = setG lt l :=
  strict_ext ho (compactL_strict ho (sortG_sorted ho l)) (setG_strict ho l) fun x => by rw [mem_compactL, mem_sortG, mem_setG]
theorem putG_len (p : α) : ∀ l : List α, (putG lt l p).length ≤ l.length + 1
  | [] => by simp [putG]
  | x :: l => by
    rw [putG]
    have := putG_len p l
    split
    · simp; omega
    · split <;> simp
theorem setG_len (l : List α) : (setG lt l).length ≤ l.length := by
  have key : ∀ (l acc : List α), (l.foldl (putG lt) acc).length ≤ acc.length + l.length := by
    intro l
    induction l with
    | nil => intro acc; simp
    | cons x l ih => intro acc; rw [List.foldl_cons]; have := ih (putG lt acc x); have := putG_len (lt := lt) x acc; simp; omega
  have := key l []
  simpa [setG] using this
/-- How it is put: behind those that are less. -/
theorem putG_at : ∀ {l : List α} {k : Nat} {p : α}, (∀ j y, j < k → l[j]? = some y → lt y p = true) → (∀ y, l[k]? = some y → lt y p = false) → k ≤ l.length → putG lt l p = if l[k]? = some p then l else l.take k ++ [p] ++ l.drop k
  | [], k, p, _, _, hk => by have : k = 0 := by simpa using hk
                             subst this; simp [putG]
  | x :: l, 0, p, _, h2, _ => by
    have := h2 x rfl
    rw [putG, if_neg (by rw [this]; simp)]
    simp
  | x :: l, k + 1, p, h1, h2, hk => by
    have hx := h1 0 x (by omega) rfl
    rw [putG, if_pos hx, putG_at (k := k) (fun j y hj hy => h1 (j + 1) y (by omega) (by simpa using hy)) (fun y hy => h2 y (by simpa using hy)) (by simpa using hk)]
    simp only [List.getElem?_cons_succ, List.take_succ_cons, List.drop_succ_cons, List.cons_append]
    split <;> rfl
end
/-! ### Pairs -/
instance : Inhabited TPair := ⟨⟨0, 0⟩⟩
end Go.Q
namespace Go.Q
open Go.D
def cmpI (x y : Int) : Int := if x < y then -1 else if y < x then 1 else 0
end Go.Q
namespace Go.Proofs.Ytoealglkenhphaa
open Go.RowKit Go.Q Go.D
end Go.Proofs.Ytoealglkenhphaa
