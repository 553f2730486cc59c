/- Shortest words: both texts. -/
import Derived.Test.YtjmefmdeghggeaaTr2
set_option linter.unusedVariables false
set_option linter.unusedSimpArgs false
set_option maxHeartbeats 1000000
set_option maxRecDepth 100000
namespace Go.Q
open Go.D
def shortG (k low : Int) : List Int → Int
  | [] => if k = 3 then 1 else if k = 2 then 0 else -1
  | [a] => if k = 6 then 0 else if low = 0 then 0 else if a < 0 then -1 else min 1000000 (a * low)
  | a :: b :: _ => if k = 4 then (if a < 0 ∨ b < 0 then -1 else min 1000000 (a + b)) else if a < 0 ∨ (0 ≤ b ∧ b < a) then b else a
def shortest : Tr → Int
  | .leaf t => shortG t.Kind t.Low []
  | .un t x => shortG t.Kind t.Low [shortest x]
  | .bin t x y => shortG t.Kind t.Low [shortest x, shortest y]
theorem shortest_eq (x : Tr) : shortest x = shortG x.tok.Kind x.tok.Low (x.kids.map shortest) := by cases x <;> rfl
theorem shortG_r {k low : Int} {l : List Int} (hl : 0 ≤ low) (h : ∀ a ∈ l, -1 ≤ a ∧ a ≤ 1000000) : -1 ≤ shortG k low l ∧ shortG k low l ≤ 1000000 := by
  match l, h with
  | [], _ => simp only [shortG]; split <;> (try split) <;> omega
  | [a], h =>
    have := h a (by simp)
    simp only [shortG]
    split
    · omega
    · split
      · omega
      · split
        · omega
        · have : 0 ≤ a * low := Int.mul_nonneg (by omega) hl
          omega
  | a :: b :: r, h =>
    have h1 := h a (by simp)
    have h2 := h b (by simp)
    simp only [shortG]
    split
    · split <;> omega
    · split <;> omega
theorem good_cases {x : Tr} (hg : good x) : 0 ≤ x.tok.Low ∧ x.tok.Low ≤ 3 ∧ ((x.kids = [] ∧ (x.tok.Kind = 1 ∨ x.tok.Kind = 2 ∨ x.tok.Kind = 3)) ∨ (∃ y, x.kids = [y] ∧ (x.tok.Kind = 6 ∨ x.tok.Kind = 7)) ∨ (∃ y z, x.kids = [y, z] ∧ (x.tok.Kind = 4 ∨ x.tok.Kind = 5))) := by
  have ha := good_arity hg
  have hk := kids_le x
  have hl : x.kids.length = 0 ∨ x.kids.length = 1 ∨ x.kids.length = 2 := by omega
  have harr : arity x.tok ≥ 0 := by omega
  have key : 0 ≤ x.tok.Low ∧ x.tok.Low ≤ 3 ∧ (arity x.tok = 0 → x.tok.Kind = 1 ∨ x.tok.Kind = 2 ∨ x.tok.Kind = 3) ∧ (arity x.tok = 1 → x.tok.Kind = 6 ∨ x.tok.Kind = 7) ∧ (arity x.tok = 2 → x.tok.Kind = 4 ∨ x.tok.Kind = 5) := by
    revert harr
    unfold arity zerT inB
    intro harr
    repeat' split at harr
    all_goals first | omega | (simp_all <;> omega)
  refine ⟨key.1, key.2.1, ?_⟩
  rcases hl with h | h | h
  · exact .inl ⟨List.eq_nil_of_length_eq_zero h, key.2.2.1 (by omega)⟩
  · obtain ⟨y, hy, _⟩ := kids_one hg (by omega)
    exact .inr (.inl ⟨y, hy, key.2.2.2.1 (by omega)⟩)
  · obtain ⟨y, z, hy, _⟩ := kids_two hg (by omega)
    exact .inr (.inr ⟨y, z, hy, key.2.2.2.2 (by omega)⟩)
theorem shortest_r : ∀ x : Tr, good x → -1 ≤ shortest x ∧ shortest x ≤ 1000000 :=
  Tr.ind fun x ih hg => by
    rw [shortest_eq]
    refine shortG_r (good_cases hg).1 fun a ha => ?_
    obtain ⟨y, hy, rfl⟩ := List.mem_map.1 ha
    exact ih y hy (good_kids hg y hy)
def shortestWord (e : TExpr) : Int := if isValidExpr e then (match treeM e.Tokens with | some x => shortest x | none => -1) else -1
theorem kind_two' {x : Tr} (hg : good x) (h : x.tok.Kind = 4 ∨ x.tok.Kind = 5) : ∃ y z, x.kids = [y, z] ∧ toks x = toks y ++ toks z ++ [x.tok] ∧ good y ∧ good z := by
  rcases (good_cases hg).2.2 with ⟨_, h1⟩ | ⟨y, _, h1⟩ | ⟨y, z, h1, _⟩
  · omega
  · omega
  · exact kids_two hg (by rw [good_arity hg, h1]; rfl)
theorem kind_one' {x : Tr} (hg : good x) (h : x.tok.Kind = 6 ∨ x.tok.Kind = 7) : ∃ y, x.kids = [y] ∧ toks x = toks y ++ [x.tok] ∧ good y := by
  rcases (good_cases hg).2.2 with ⟨_, h1⟩ | ⟨y, h1, _⟩ | ⟨y, z, _, h1⟩
  · omega
  · exact kids_one hg (by rw [good_arity hg, h1]; rfl)
  · omega
theorem kind_no' {x : Tr} (hg : good x) (h : x.tok.Kind ≠ 4 ∧ x.tok.Kind ≠ 5 ∧ x.tok.Kind ≠ 6 ∧ x.tok.Kind ≠ 7) : x.kids = [] := by
  rcases (good_cases hg).2.2 with ⟨h1, _⟩ | ⟨y, _, h1⟩ | ⟨y, z, _, h1⟩
  · exact h1
  · omega
  · omega
theorem mul_low {a low : Int} (h0 : 0 ≤ a) (h1 : a ≤ 1000000) (h2 : 0 ≤ low) (h3 : low ≤ 3) : 0 ≤ a * low ∧ a * low ≤ 3000000 :=
  ⟨Int.mul_nonneg h0 h2, Int.le_trans (Int.mul_le_mul h1 h3 h2 (by omega)) (by omega)⟩
end Go.Q
namespace Go.Proofs.Ytjmefmdeghggeaa
open Go.RowKit Go.Q Go.D
end Go.Proofs.Ytjmefmdeghggeaa
