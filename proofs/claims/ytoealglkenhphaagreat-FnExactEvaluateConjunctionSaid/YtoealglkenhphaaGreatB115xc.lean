import Derived.Test.YtoealglkenhphaaGreatSortxc
import Derived.Test.YtoealglkenhphaaGreatB112xc
set_option linter.unusedVariables false
set_option linter.unusedSimpArgs false
set_option maxHeartbeats 1000000
set_option maxRecDepth 100000
namespace Go.Q
open Go.D
theorem cntL_leQ {α : Type} {c : α → Int} {n : Nat} : ∀ {l : List α}, (∀ x ∈ l, c x ≤ (n : Int)) → cntL c l ≤ ((n * l.length : Nat) : Int)
 | [], _ => by simp [cntL]
 | x :: l, h => by
  rw [cntL, List.length_cons, Nat.mul_succ]
  have h1 := h x (by simp)
  have h2 := cntL_leQ (l := l) fun y hy => h y (by simp [hy])
  omega
theorem cntIntS_leQ (l : List Int) : cntIntS l ≤ (l.length : Int) := by
 have := cntL_leQ (c := cntInt) (n := 1) (l := l) fun _ _ => Int.le_refl _
 unfold cntIntS; omega
theorem cntIntSS_leQ {l : List (List Int)} {n m : Nat} (h : ∀ r ∈ l, r.length ≤ n) (hl : l.length ≤ m) : cntIntSS l ≤ ((n * m : Nat) : Int) := by
 have h1 : cntIntSS l ≤ ((n * l.length : Nat) : Int) := cntL_leQ (c := cntIntS) fun r hr => Int.le_trans (cntIntS_leQ r) (by have := h r hr; omega)
 have h2 : n * l.length ≤ n * m := Nat.mul_le_mul_left n hl
 omega
end Go.Q
set_option maxHeartbeats 1000000
set_option maxRecDepth 100000
namespace Go.Q
open Go.D
theorem evalC_cnt (g : TGraph) (q : TConjunction) : cntIntSS (evalC g q) ≤ 1099511627776 := by
 unfold evalC
 split
 · rename_i h
   simp only [Bool.and_eq_true] at h
   have hG := validG_len h.1
   have hc := conj_atoms h.2
   refine Int.le_trans (cntIntSS_leQ (n := 4) (m := 625) (fun r hr => ?_) (Nat.le_trans (List.length_filter_le _ _) (words_few (by omega) (by omega)))) (by omega)
   have hm := (List.mem_filter.1 hr).1
   rw [wordsN_eq] at hm
   have := extN_len hm
   omega
 · show (0 : Int) ≤ _; omega
end Go.Q
