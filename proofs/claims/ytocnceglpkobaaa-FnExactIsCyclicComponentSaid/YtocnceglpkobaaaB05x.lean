/- Views, registries, comparisons: both texts. -/
import Derived.Test.YtocnceglpkobaaaB04x
set_option linter.unusedVariables false
set_option linter.unusedSimpArgs false
namespace Go.Q
open Go.D
def cmpL : List Int → List Int → Int
  | [], [] => 0
  | [], _ :: _ => -1
  | _ :: _, [] => 1
  | x :: l, y :: r => if x < y then -1 else if y < x then 1 else cmpL l r
theorem cmpL_drop {l r : List Int} {k : Nat} {x y : Int} (hx : l[k]? = some x) (hy : r[k]? = some y) : cmpL (l.drop k) (r.drop k) = if x < y then -1 else if y < x then 1 else cmpL (l.drop (k + 1)) (r.drop (k + 1)) := by
  rw [drop_at hx, drop_at hy, cmpL]
theorem cmpL_end {l r : List Int} {k : Nat} (h : l.length ≤ k ∨ r.length ≤ k) (h1 : k ≤ l.length) (h2 : k ≤ r.length) : cmpL (l.drop k) (r.drop k) = if l.length < r.length then -1 else if r.length < l.length then 1 else 0 := by
  by_cases e1 : l.length = k
  · by_cases e2 : r.length = k
    · rw [List.drop_eq_nil_of_le (by omega), List.drop_eq_nil_of_le (by omega), cmpL, if_neg (by omega), if_neg (by omega)]
    · rw [List.drop_eq_nil_of_le (by omega), List.drop_eq_getElem_cons (l := r) (by omega), cmpL, if_pos (by omega)]
  · by_cases e2 : r.length = k
    · rw [List.drop_eq_nil_of_le (show r.length ≤ k by omega), List.drop_eq_getElem_cons (l := l) (by omega), cmpL, if_neg (by omega), if_pos (by omega)]
    · omega
theorem cmpL_zero : ∀ (l r : List Int), decide (cmpL l r = 0) = decide (l = r)
  | [], [] => by simp [cmpL]
  | [], _ :: _ => by simp [cmpL]
  | _ :: _, [] => by simp [cmpL]
  | x :: l, y :: r => by
    have ih := cmpL_zero l r
    rw [cmpL]
    by_cases h1 : x < y
    · rw [if_pos h1]; simp; omega
    · by_cases h2 : y < x
      · rw [if_neg h1, if_pos h2]; simp; omega
      · rw [if_neg h1, if_neg h2, ih]
        have : x = y := by omega
        simp [this]
end Go.Q
namespace Go.Proofs.Ytocnceglpkobaaa
open Go.RowKit Go.Q Go.D
end Go.Proofs.Ytocnceglpkobaaa
