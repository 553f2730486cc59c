/- How many numbers a view holds. -/
import Derived.Test.YtocnceglpkobaaaB34z
import Derived.Test.YtocnceglpkobaaaMDz
set_option linter.unusedVariables false
set_option linter.unusedSimpArgs false
set_option maxHeartbeats 1000000
set_option maxRecDepth 100000
namespace Go.Q
open Go.D
theorem cntL_leN {α : Type} {c : α → Int} {n : Int} : ∀ {l : List α}, (∀ x ∈ l, c x ≤ n) → cntL c l ≤ n * l.length
  | [], _ => by simp [cntL]
  | x :: l, h => by
    rw [cntL, List.length_cons]
    have h1 := h x (by simp)
    have h2 := cntL_leN (l := l) fun y hy => h y (by simp [hy])
    have e : n * ((l.length + 1 : Nat) : Int) = n * (l.length : Int) + n := by simp [Int.mul_add]
    omega
theorem cntIntS_len (l : List Int) : cntIntS l ≤ l.length := by
  have := cntL_leN (c := cntInt) (n := 1) (l := l) fun _ _ => Int.le_refl _
  unfold cntIntS; omega
theorem sup1_len (RK : List Int) (i : Nat) (S : List Int) (k : Int) : (sup1 RK i S k).length = S.length := by
  unfold sup1; split <;> simp
theorem supRow_len (RK : List Int) (i : Nat) : ∀ (l S : List Int), (supRow RK i S l).length = S.length
  | [], _ => rfl
  | k :: l, S => (supRow_len RK i l (sup1 RK i S k)).trans (sup1_len RK i S k)
theorem supAll_len (nx : Nat → List Int) (RK S : List Int) : ∀ n, (supAll nx RK S n).length = S.length
  | 0 => rfl
  | n + 1 => by rw [supAll, supRow_len, supAll_len nx RK S n]
theorem viewOf_cnt {g : TGraph} {a : TAutomaton} (ha : validA a = true) (hg : validG g = true) {x : Int} (hx : 0 ≤ x ∧ x < g.Values.length) : cpView (viewOf g a x) ≤ 4096 := by
  have hA := validA_len ha
  have hN := prod_le ha hg
  have hRK := ranks_ok ha hg hx
  have h1 : cntBoolS a.Accept ≤ 1 * a.Accept.length := cntL_leN (c := cntBool) (n := 1) fun _ _ => Int.le_refl _
  have h2 : cntIntSS a.Next ≤ 9 * a.Next.length := cntL_leN (c := cntIntS) (n := 9) fun r hr => by
    have h3 := cntIntS_len r
    have h4 := validA_rows ha r hr
    omega
  have h3 := cntIntS_len (viewOf g a x).Ranks
  have h4 := cntIntS_len (viewOf g a x).Supports
  have e3 : (viewOf g a x).Ranks.length = a.Accept.length * g.Values.length := hRK.1
  have e4 : (viewOf g a x).Supports.length = a.Accept.length * g.Values.length := by
    show (supportsOf _ _ _).length = _
    unfold supportsOf; rw [supAll_len]; simp
  rw [e3] at h3
  rw [e4] at h4
  have e5 : (viewOf g a x).Automaton = a := rfl
  unfold cpView cpAutomaton
  rw [e5]
  omega
end Go.Q
