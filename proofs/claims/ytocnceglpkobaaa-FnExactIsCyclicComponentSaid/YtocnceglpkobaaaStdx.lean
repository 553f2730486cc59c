/- Package slices, for the types of the program. -/
import Derived.Test.YtocnceglpkobaaaAbsTy
set_option linter.unusedVariables false
set_option linter.unusedSimpArgs false
namespace Go.Q
def eqB {α β : Type} (p : α → β → Bool) : List α → List β → Bool
  | [], [] => true
  | x :: l, y :: r => p x y && eqB p l r
  | _, _ => false
theorem eqB_len {α β : Type} {p : α → β → Bool} : ∀ {l : List α} {r : List β}, l.length ≠ r.length → eqB p l r = false
  | [], [], h => absurd rfl h
  | [], _ :: _, _ => rfl
  | _ :: _, [], _ => rfl
  | x :: l, y :: r, h => by rw [eqB, eqB_len (fun e => h (by simp [e])), Bool.and_false]
theorem eqB_drop {α β : Type} {p : α → β → Bool} {l : List α} {r : List β} {k : Nat} {x : α} {y : β} (hx : l[k]? = some x) (hy : r[k]? = some y) : eqB p (l.drop k) (r.drop k) = (p x y && eqB p (l.drop (k + 1)) (r.drop (k + 1))) := by
  obtain ⟨h1, rfl⟩ := List.getElem?_eq_some_iff.1 hx
  obtain ⟨h2, rfl⟩ := List.getElem?_eq_some_iff.1 hy
  rw [List.drop_eq_getElem_cons h1, List.drop_eq_getElem_cons h2, eqB]
theorem eqB_end {α β : Type} {p : α → β → Bool} {l : List α} {r : List β} {k : Nat} (h1 : l.length ≤ k) (h2 : r.length ≤ k) : eqB p (l.drop k) (r.drop k) = true := by
  rw [List.drop_eq_nil_of_le h1, List.drop_eq_nil_of_le h2, eqB]
theorem eqB_eq {α : Type} [DecidableEq α] : ∀ (l r : List α), eqB (fun x y => decide (x = y)) l r = decide (l = r)
  | [], [] => by simp [eqB]
  | [], _ :: _ => by simp [eqB]
  | _ :: _, [] => by simp [eqB]
  | x :: l, y :: r => by rw [eqB, eqB_eq l r]; by_cases h : x = y <;> simp [h]
theorem eqB_congr {α β : Type} {p q : α → β → Bool} (h : ∀ x y, p x y = q x y) : ∀ (l : List α) (r : List β), eqB p l r = eqB q l r
  | [], [] => rfl
  | [], _ :: _ => rfl
  | _ :: _, [] => rfl
  | x :: l, y :: r => by rw [eqB, eqB, h, eqB_congr h l r]
theorem findI_mem {α : Type} [DecidableEq α] (v : α) : ∀ (l : List α) (m : Nat), decide (0 ≤ findI (fun x => decide (v = x)) l m) = decide (v ∈ l)
  | [], m => by simp [findI]
  | x :: l, m => by
    rw [findI]
    by_cases h : v = x
    · subst h; simp
    · rw [if_neg (by simpa using h), findI_mem v l (m + 1)]; simp [h]
theorem findI_any {α : Type} (p : α → Bool) : ∀ (l : List α) (m : Nat), decide (0 ≤ findI p l m) = l.any p
  | [], m => by simp [findI]
  | x :: l, m => by
    rw [findI, List.any_cons]
    by_cases h : p x = true
    · rw [if_pos h, h]; simp
    · rw [if_neg h, findI_any p l (m + 1)]; simp [h]
end Go.Q
namespace Go.Proofs.Ytocnceglpkobaaa
open Go.RowKit Go.Q Go.D
end Go.Proofs.Ytocnceglpkobaaa
