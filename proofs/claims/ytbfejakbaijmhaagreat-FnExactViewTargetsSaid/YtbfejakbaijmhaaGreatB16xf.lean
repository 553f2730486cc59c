/- Merged texts. -/
import Derived.Test.YtbfejakbaijmhaaGreatSort1xf
import Derived.Test.YtbfejakbaijmhaaGreatAbsKxf
set_option linter.unusedVariables false
set_option linter.unusedSimpArgs false
set_option maxHeartbeats 1000000
set_option maxRecDepth 100000
namespace Go.Q
open Go.D
/-! ### Sets as sorted lists -/
structure SO {α : Type} (lt : α → α → Bool) : Prop where
  irr : ∀ x, lt x x = false
  tra : ∀ x y z, lt x y = true → lt y z = true → lt x z = true
  tri : ∀ x y, lt x y = true ∨ x = y ∨ lt y x = true
def putG {α : Type} [DecidableEq α] (lt : α → α → Bool) : List α → α → List α
  | [], p => [p]
  | x :: l, p => if lt x p then x :: putG lt l p else if x = p then x :: l else p :: x :: l
def StrictS {α : Type} (lt : α → α → Bool) (l : List α) : Prop := l.Pairwise fun a b => lt a b = true
section
variable {α : Type} {lt : α → α → Bool}
theorem strict_ext (ho : SO lt) : ∀ {l r : List α}, StrictS lt l → StrictS lt r → (∀ x, x ∈ l ↔ x ∈ r) → l = r
  | [], [], _, _, _ => rfl
  | [], y :: r, _, _, h => by have := (h y).2 (by simp); cases this
  | x :: l, [], _, _, h => by have := (h x).1 (by simp); cases this
  | x :: l, y :: r, hl, hr, h => by
    have hl' := List.pairwise_cons.1 hl
    have hr' := List.pairwise_cons.1 hr
    have e : x = y := by
      rcases List.mem_cons.1 ((h x).1 (by simp)) with h1 | h1
      · exact h1
      · rcases List.mem_cons.1 ((h y).2 (by simp)) with h2 | h2
        · exact h2.symm
        · have h3 := hr'.1 x h1
          have h4 := hl'.1 y h2
          have := ho.tra _ _ _ h3 h4
          rw [ho.irr] at this; cases this
    subst e
    congr 1
    refine strict_ext ho hl'.2 hr'.2 fun z => ⟨fun hz => ?_, fun hz => ?_⟩
    · rcases List.mem_cons.1 ((h z).1 (by simp [hz])) with h1 | h1
      · subst h1; have := hl'.1 z hz; rw [ho.irr] at this; cases this
      · exact h1
    · rcases List.mem_cons.1 ((h z).2 (by simp [hz])) with h1 | h1
      · subst h1; have := hr'.1 z hz; rw [ho.irr] at this; cases this
      · exact h1
def leG (lt : α → α → Bool) (a b : α) : Bool := !lt b a
def sortG (lt : α → α → Bool) (l : List α) : List α := l.mergeSort (leG lt)
theorem leG_trans (ho : SO lt) (a b c : α) (h1 : leG lt a b = true) (h2 : leG lt b c = true) : leG lt a c = true := by
  unfold leG at *
  simp only [Bool.not_eq_true'] at *
  cases h : lt c a with
  | false => rfl
  | true =>
    rcases ho.tri a b with h3 | h3 | h3
    · have := ho.tra _ _ _ h h3; rw [h2] at this; cases this
    · subst h3; rw [h2] at h; cases h
    · rw [h1] at h3; cases h3
theorem leG_total (ho : SO lt) (a b : α) : (leG lt a b || leG lt b a) = true := by
  unfold leG
  cases h : lt b a with
  | false => rfl
  | true =>
    cases h2 : lt a b with
    | false => rfl
    | true => have := ho.tra _ _ _ h h2; rw [ho.irr] at this; cases this
theorem sortG_sorted (ho : SO lt) (l : List α) : (sortG lt l).Pairwise fun a b => lt b a = false := by
  have := List.pairwise_mergeSort (leG_trans ho) (leG_total ho) l
  exact this.imp fun h => by simpa [leG] using h
theorem mem_sortG {x : α} {l : List α} : x ∈ sortG lt l ↔ x ∈ l := (List.mergeSort_perm l _).mem_iff
theorem sortG_len (l : List α) : (sortG lt l).length = l.length := (List.mergeSort_perm l _).length_eq
end
section
variable {α : Type} [DecidableEq α] {lt : α → α → Bool}
theorem mem_putG {x p : α} : ∀ {l : List α}, x ∈ putG lt l p ↔ x ∈ l ∨ x = p
  | [] => by simp [putG]
  | y :: l => by
    rw [putG]
    split
    · simp [mem_putG (l := l), or_assoc]
    · split
      · rename_i h; subst h; simp; intro h; exact .inl h
      · simp; constructor
        · rintro (h | h | h) <;> simp [h]
        · rintro ((h | h) | h) <;> simp [h]
theorem putG_strict (ho : SO lt) {p : α} : ∀ {l : List α}, StrictS lt l → StrictS lt (putG lt l p)
  | [], _ => by simp [putG, StrictS]
  | y :: l, h => by
    have h' := List.pairwise_cons.1 h
    rw [putG]
    split
    · rename_i hy
      refine List.pairwise_cons.2 ⟨fun x hx => ?_, putG_strict ho h'.2⟩
      rcases mem_putG.1 hx with hx | rfl
      · exact h'.1 x hx
      · exact hy
    · rename_i hy
      split
      · exact h
      · rename_i hne
        have hlt : lt p y = true := by
          rcases ho.tri y p with h1 | h1 | h1
          · exact absurd h1 hy
          · exact absurd h1 hne
          · exact h1
        refine List.pairwise_cons.2 ⟨fun x hx => ?_, h⟩
        rcases List.mem_cons.1 hx with rfl | hx
        · exact hlt
        · exact ho.tra _ _ _ hlt (h'.1 x hx)
def setG (lt : α → α → Bool) (l : List α) : List α := l.foldl (putG lt) []
theorem foldl_strict (ho : SO lt) : ∀ {l acc : List α}, StrictS lt acc → StrictS lt (l.foldl (putG lt) acc)
  | [], _, h => h
  | x :: l, acc, h => foldl_strict ho (l := l) (putG_strict ho h)
theorem mem_foldl {x : α} : ∀ {l acc : List α}, x ∈ l.foldl (putG lt) acc ↔ x ∈ acc ∨ x ∈ l
  | [], acc => by simp
  | y :: l, acc => by
    rw [List.foldl_cons, mem_foldl, mem_putG, List.mem_cons, or_assoc]
theorem setG_strict (ho : SO lt) (l : List α) : StrictS lt (setG lt l) := foldl_strict ho List.Pairwise.nil
theorem mem_setG {x : α} {l : List α} : x ∈ setG lt l ↔ x ∈ l := by unfold setG; rw [mem_foldl]; simp
/-- Neighbours that are equal are one. -/
def compactL : List α → List α
  | [] => []
  | [x] => [x]
  | x :: y :: l => if x = y then compactL (y :: l) else x :: compactL (y :: l)
theorem mem_compactL {x : α} : ∀ {l : List α}, x ∈ compactL l ↔ x ∈ l
  | [] => Iff.rfl
  | [y] => Iff.rfl
  | y :: z :: l => by
    rw [compactL]
    split
    · rename_i h; subst h; rw [mem_compactL]; simp
    · rw [List.mem_cons, mem_compactL, List.mem_cons (l := z :: l)]
theorem compactL_strict (ho : SO lt) : ∀ {l : List α}, l.Pairwise (fun a b => lt b a = false) → StrictS lt (compactL l)
  | [], _ => List.Pairwise.nil
  | [y], _ => by simp [compactL, StrictS]
  | y :: z :: l, h => by
    have h' := List.pairwise_cons.1 h
    rw [compactL]
    split
    · exact compactL_strict ho h'.2
    · rename_i hne
      refine List.pairwise_cons.2 ⟨fun x hx => ?_, compactL_strict ho h'.2⟩
      have hyz : lt y z = true := by
        rcases ho.tri y z with h1 | h1 | h1
        · exact h1
        · exact absurd h1 hne
        · rw [h'.1 z (by simp)] at h1; cases h1
      rcases List.mem_cons.1 (mem_compactL.1 hx) with rfl | hx
      · exact hyz
      · have h2 := (List.pairwise_cons.1 h'.2).1 x hx
        rcases ho.tri z x with h3 | h3 | h3
        · exact ho.tra _ _ _ hyz h3
        · subst h3; exact hyz
        · rw [h2] at h3; cases h3
theorem compact_sort (ho : SO lt) (l : List α) : compactL (sortG lt l) = setG lt l :=
  strict_ext ho (compactL_strict ho (sortG_sorted ho l)) (setG_strict ho l) fun x => by rw [mem_compactL, mem_sortG, mem_setG]
theorem putG_len (p : α) : ∀ l : List α, (putG lt l p).length ≤ l.length + 1
  | [] => by simp [putG]
  | x :: l => by
    rw [putG]
    have := putG_len p l
    split
    · simp; omega
    · split <;> simp
theorem setG_len (l : List α) : (setG lt l).length ≤ l.length := by
  have key : ∀ (l acc : List α), (l.foldl (putG lt) acc).length ≤ acc.length + l.length := by
    intro l
    induction l with
    | nil => intro acc; simp
    | cons x l ih => intro acc; rw [List.foldl_cons]; have := ih (putG lt acc x); have := putG_len (lt := lt) x acc; simp; omega
  have := key l []
  simpa [setG] using this
end
/-! ### Pairs -/
instance : Inhabited TPair := ⟨⟨0, 0⟩⟩
end Go.Q
namespace Go.Q
open Go.D
end Go.Q
namespace Go.Proofs.YtbfejakbaijmhaaGreat
open Go.RowKit Go.Q Go.D
end Go.Proofs.YtbfejakbaijmhaaGreat
set_option linter.unusedVariables false
set_option linter.unusedSimpArgs false
set_option maxHeartbeats 1000000
set_option maxRecDepth 100000
namespace Go.Q
open Go.D
theorem compactL_snoc {α : Type} [DecidableEq α] (y x : α) : ∀ l : List α, compactL (l ++ [y, x]) = compactL (l ++ [y]) ++ if y = x then [] else [x]
  | [] => by simp only [List.nil_append, compactL]; split <;> simp [compactL, *]
  | [z] => by
    simp only [List.cons_append, List.nil_append, compactL]
    by_cases h1 : z = y <;> by_cases h2 : y = x <;> simp [h1, h2, compactL]
  | z :: w :: l => by
    have ih := compactL_snoc y x (w :: l)
    simp only [List.cons_append] at ih ⊢
    rw [compactL, compactL]
    split
    · exact ih
    · rw [ih, List.cons_append]
theorem compactL_take {α : Type} [DecidableEq α] {l : List α} {m : Nat} {x y : α} (hx : l[m + 1]? = some x) (hy : l[m]? = some y) : compactL (l.take (m + 2)) = compactL (l.take (m + 1)) ++ if y = x then [] else [x] := by
  rw [take_at hx, take_at hy, List.append_assoc]
  exact compactL_snoc y x _
theorem compactL_id {α : Type} [DecidableEq α] {l : List α} : ∀ {k : Nat}, k ≤ l.length → (∀ j x y, j + 1 < k → l[j + 1]? = some x → l[j]? = some y → y ≠ x) → compactL (l.take k) = l.take k
  | 0, _, _ => by simp [compactL]
  | 1, hk, _ => by
    match l, hk with
    | x :: l, _ => simp [compactL]
  | k + 2, hk, h => by
    have hx : l[k + 1]? = some (l[k + 1]'(by omega)) := List.getElem?_eq_getElem _
    have hy : l[k]? = some (l[k]'(by omega)) := List.getElem?_eq_getElem _
    rw [compactL_take hx hy, compactL_id (k := k + 1) (by omega) (fun j x y hj => h j x y (by omega)), if_neg (h k _ _ (by omega) hx hy), ← take_at hx]
theorem compactL_take' {α : Type} [DecidableEq α] {l : List α} {m : Nat} {x y : α} (hm : 1 ≤ m) (hx : l[m]? = some x) (hy : l[m - 1]? = some y) : compactL (l.take (m + 1)) = compactL (l.take m) ++ if y = x then [] else [x] := by
  obtain ⟨m', rfl⟩ : ∃ m', m = m' + 1 := ⟨m - 1, by omega⟩
  exact compactL_take hx hy
theorem drop_more {α : Type} {l r : List α} {m m' : Nat} (h : r.drop m = l.drop m) (hm : m ≤ m') : r.drop m' = l.drop m' := by
  have : m' = m + (m' - m) := by omega
  rw [this, ← List.drop_drop, ← List.drop_drop, h]
theorem compactL_all {α : Type} [DecidableEq α] {l : List α} {k : Nat} (hk : l.length ≤ k) (h : ∀ j x y, j + 1 < k → l[j + 1]? = some x → l[j]? = some y → y ≠ x) : compactL l = l := by
  have := compactL_id (l := l) (k := l.length) (Nat.le_refl _) fun j x y hj => h j x y (by omega)
  rwa [List.take_of_length_le (Nat.le_refl _)] at this
theorem cut_rows {α : Type} {c : α → List T} {R l : List α} {k : Nat} {z : List (List T)} (h : R.take k = l) (hk : k ≤ R.length) : ((R.map c).take k ++ z).take k = l.map c := by
  rw [List.take_append_of_le_length (by simp; omega), List.take_take, Nat.min_self, ← List.map_take, h]
theorem drop_get {α : Type} {l r : List α} {m i : Nat} (h : r.drop m = l.drop m) (hi : m ≤ i) : r[i]? = l[i]? := by
  have e1 : r[i]? = (r.drop m)[i - m]? := by rw [List.getElem?_drop]; congr 1; omega
  have e2 : l[i]? = (l.drop m)[i - m]? := by rw [List.getElem?_drop]; congr 1; omega
  rw [e1, e2, h]
theorem set_take {α : Type} {r : List α} {k : Nat} {x : α} (h : k < r.length) : (r.set k x).take (k + 1) = r.take k ++ [x] := by
  rw [take_at (l := r.set k x) (i := k) (x := x) (by rw [List.getElem?_set_self h]), List.take_set_of_le (Nat.le_refl _)]
theorem set_drop {α : Type} {r : List α} {k m : Nat} {x : α} (h : k < m) : (r.set k x).drop m = r.drop m := by
  rw [List.drop_set, if_pos h]
end Go.Q
namespace Go.Proofs.YtbfejakbaijmhaaGreat
open Go.RowKit Go.Q Go.D
end Go.Proofs.YtbfejakbaijmhaaGreat
