/- What marked data are. -/
import Derived.Test.YtoealglkenhphaaAbsTyxa
set_option linter.unusedVariables false
set_option linter.unusedSimpArgs false
namespace Go.D
open Go.Q
def mkInt (_ : Int) (k : Int) : Int := k
def cntInt (_ : Int) : Int := 1
theorem cntInt_nn (x : Int) : 0 ≤ cntInt x := by unfold cntInt; omega
def mkIntS (x : (List Int)) (k : Int) : (List Int) := mkL mkInt cntInt x k
def cntIntS (x : (List Int)) : Int := cntL cntInt x
theorem cntIntS_nn (x : (List Int)) : 0 ≤ cntIntS x := cntL_nonneg cntInt_nn x
def mkIntSS (x : (List (List Int))) (k : Int) : (List (List Int)) := mkL mkIntS cntIntS x k
def cntIntSS (x : (List (List Int))) : Int := cntL cntIntS x
theorem cntIntSS_nn (x : (List (List Int))) : 0 ≤ cntIntSS x := cntL_nonneg cntIntS_nn x
theorem cntL_bound {α : Type} {c : α → Int} {b : Int} (hb : 0 ≤ b) : ∀ {l : List α}, (∀ y ∈ l, c y ≤ b) → cntL c l ≤ l.length * b
  | [], _ => by simp [cntL]
  | x :: l, h => by
    have h1 := h x (by simp)
    have h2 := cntL_bound (l := l) hb fun y hy => h y (by simp [hy])
    rw [cntL, List.length_cons, Int.natCast_add, Int.add_mul]
    omega
theorem cntL_ok {α : Type} {c : α → Int} {b : Int} {l : List α} (hb : 0 ≤ b) (hl : l.length ≤ 1048576) (h : ∀ y ∈ l, c y ≤ b) : cntL c l ≤ 1048576 * b :=
  Int.le_trans (cntL_bound hb h) (Int.mul_le_mul_of_nonneg_right (by omega) hb)
theorem cntIntS_ok {x : (List Int)} (h : okIntS x) : cntIntS x ≤ 1048576 := Int.le_trans (cntL_ok (b := 1) (by omega) h fun y _ => by simp [cntInt]) (by omega)
theorem cntIntSS_ok {x : (List (List Int))} (h : okIntSS x) : cntIntSS x ≤ 1099511627776 := Int.le_trans (cntL_ok (b := 1048576) (by omega) h.1 fun y hy => cntIntS_ok (h.2 y hy)) (by omega)
end Go.D
