/- How many numbers a view holds. -/
import Derived.Test.YtocnceglpkobaaaB34y
import Derived.Test.YtocnceglpkobaaaMDy
set_option linter.unusedVariables false
set_option linter.unusedSimpArgs false
set_option maxHeartbeats 1000000
set_option maxRecDepth 100000
namespace Go.Q
open Go.D
theorem cntL_leN {α : Type} {c : α → Int} {n : Int} : ∀ {l : List α}, (∀ x ∈ l, c x ≤ n) → cntL c l ≤ n * l.length
  | [], _ => by simp [cntL]
  | x :: l, h => by
    rw [cntL, List.length_cons]
    have h1 := h x (by simp)
    have h2 := cntL_leN (l := l) fun y hy => h y (by simp [hy])
    have e : n * ((l.length + 1 : Nat) : Int) = n * (l.length : Int) + n := by simp [Int.mul_add]
    omega
theorem cntIntS_len (l : List Int) : cntIntS l ≤ l.length := by
  have := cntL_leN (c := cntInt) (n := 1) (l := l) fun _ _ => Int.le_refl _
  unfold cntIntS; omega
end Go.Q
