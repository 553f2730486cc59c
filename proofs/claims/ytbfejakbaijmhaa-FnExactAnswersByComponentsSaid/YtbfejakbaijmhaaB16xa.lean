/- Sets of pairs: both texts. -/
import Derived.Test.YtbfejakbaijmhaaB15xa
set_option linter.unusedVariables false
set_option linter.unusedSimpArgs false
set_option maxHeartbeats 1000000
set_option maxRecDepth 100000
namespace Go.Q
open Go.D
theorem compactL_snoc {α : Type} [DecidableEq α] (y x : α) : ∀ l : List α, compactL (l ++ [y, x]) = compactL (l ++ [y]) ++ if y = x then [] else [x]
  | [] => by simp only [List.nil_append, compactL]; split <;> simp [compactL, *]
  | [z] => by
    simp only [List.cons_append, List.nil_append, compactL]
    by_cases h1 : z = y <;> by_cases h2 : y = x <;> simp [h1, h2, compactL]
  | z :: w :: l => by
    have ih := compactL_snoc y x (w :: l)
    simp only [List.cons_append] at ih ⊢
    rw [compactL, compactL]
    split
    · exact ih
    · rw [ih, List.cons_append]
theorem compactL_take {α : Type} [DecidableEq α] {l : List α} {m : Nat} {x y : α} (hx : l[m + 1]? = some x) (hy : l[m]? = some y) : compactL (l.take (m + 2)) = compactL (l.take (m + 1)) ++ if y = x then [] else [x] := by
  rw [take_at hx, take_at hy, List.append_assoc]
  exact compactL_snoc y x _
theorem compactL_id {α : Type} [DecidableEq α] {l : List α} : ∀ {k : Nat}, k ≤ l.length → (∀ j x y, j + 1 < k → l[j + 1]? = some x → l[j]? = some y → y ≠ x) → compactL (l.take k) = l.take k
  | 0, _, _ => by simp [compactL]
  | 1, hk, _ => by
    match l, hk with
    | x :: l, _ => simp [compactL]
  | k + 2, hk, h => by
    have hx : l[k + 1]? = some (l[k + 1]'(by omega)) := List.getElem?_eq_getElem _
    have hy : l[k]? = some (l[k]'(by omega)) := List.getElem?_eq_getElem _
    rw [compactL_take hx hy, compactL_id (k := k + 1) (by omega) (fun j x y hj => h j x y (by omega)), if_neg (h k _ _ (by omega) hx hy), ← take_at hx]
theorem compactL_take' {α : Type} [DecidableEq α] {l : List α} {m : Nat} {x y : α} (hm : 1 ≤ m) (hx : l[m]? = some x) (hy : l[m - 1]? = some y) : compactL (l.take (m + 1)) = compactL (l.take m) ++ if y = x then [] else [x] := by
  obtain ⟨m', rfl⟩ : ∃ m', m = m' + 1 := ⟨m - 1, by omega⟩
  exact compactL_take hx hy
theorem drop_more {α : Type} {l r : List α} {m m' : Nat} (h : r.drop m = l.drop m) (hm : m ≤ m') : r.drop m' = l.drop m' := by
  have : m' = m + (m' - m) := by omega
  rw [this, ← List.drop_drop, ← List.drop_drop, h]
theorem compactL_all {α : Type} [DecidableEq α] {l : List α} {k : Nat} (hk : l.length ≤ k) (h : ∀ j x y, j + 1 < k → l[j + 1]? = some x → l[j]? = some y → y ≠ x) : compactL l = l := by
  have := compactL_id (l := l) (k := l.length) (Nat.le_refl _) fun j x y hj => h j x y (by omega)
  rwa [List.take_of_length_le (Nat.le_refl _)] at this
theorem cut_rows {α : Type} {c : α → List T} {R l : List α} {k : Nat} {z : List (List T)} (h : R.take k = l) (hk : k ≤ R.length) : ((R.map c).take k ++ z).take k = l.map c := by
  rw [List.take_append_of_le_length (by simp; omega), List.take_take, Nat.min_self, ← List.map_take, h]
theorem drop_get {α : Type} {l r : List α} {m i : Nat} (h : r.drop m = l.drop m) (hi : m ≤ i) : r[i]? = l[i]? := by
  have e1 : r[i]? = (r.drop m)[i - m]? := by rw [List.getElem?_drop]; congr 1; omega
  have e2 : l[i]? = (l.drop m)[i - m]? := by rw [List.getElem?_drop]; congr 1; omega
  rw [e1, e2, h]
theorem set_take {α : Type} {r : List α} {k : Nat} {x : α} (h : k < r.length) : (r.set k x).take (k + 1) = r.take k ++ [x] := by
  rw [take_at (l := r.set k x) (i := k) (x := x) (by rw [List.getElem?_set_self h]), List.take_set_of_le (Nat.le_refl _)]
theorem set_drop {α : Type} {r : List α} {k m : Nat} {x : α} (h : k < m) : (r.set k x).drop m = r.drop m := by
  rw [List.drop_set, if_pos h]
theorem filter_take {α : Type} {p : α → Bool} {l : List α} {k : Nat} {x : α} (h : l[k]? = some x) : (l.take (k + 1)).filter p = (l.take k).filter p ++ if p x then [x] else [] := by
  rw [take_at h, List.filter_append]
  cases hp : p x <;> simp [hp]
theorem findI_spec {α : Type} (p : α → Bool) : ∀ (l : List α) (m : Nat), (findI p l m = -1 ∧ ∀ x ∈ l, p x = false) ∨ ∃ (k : Nat) (x : α), l[k]? = some x ∧ p x = true ∧ findI p l m = ((m + k : Nat) : Int) ∧ ∀ y ∈ l.take k, p y = false
  | [], m => .inl ⟨rfl, by simp⟩
  | z :: l, m => by
    rw [findI]
    cases hz : p z with
    | true => exact .inr ⟨0, z, rfl, hz, by simp, by simp⟩
    | false =>
      rw [if_neg (by simp)]
      rcases findI_spec p l (m + 1) with ⟨h1, h2⟩ | ⟨k, x, h1, h2, h3, h4⟩
      · refine .inl ⟨h1, fun x hx => ?_⟩
        rcases List.mem_cons.1 hx with rfl | hx
        · exact hz
        · exact h2 x hx
      · refine .inr ⟨k + 1, x, by simpa using h1, h2, by rw [h3]; omega, fun y hy => ?_⟩
        rw [List.take_succ_cons] at hy
        rcases List.mem_cons.1 hy with rfl | hy
        · exact hz
        · exact h4 y hy
theorem filter_none {α : Type} {p : α → Bool} {l : List α} (h : ∀ x ∈ l, p x = false) : (l.filter fun x => !p x) = l := List.filter_eq_self.2 fun x hx => by rw [h x hx]; rfl
end Go.Q
namespace Go.Proofs.Ytbfejakbaijmhaa
open Go.RowKit Go.Q Go.D
end Go.Proofs.Ytbfejakbaijmhaa
