import Derived.Test.YtoealglkenhphaaGreatTr2xc
set_option linter.unusedVariables false
set_option linter.unusedSimpArgs false
set_option maxHeartbeats 1000000
set_option maxRecDepth 100000
namespace Go.Q
open Go.D
theorem good_cases {x : Tr} (hg : good x) : 0 ≤ x.tok.Low ∧ x.tok.Low ≤ 3 ∧ ((x.kids = [] ∧ (x.tok.Kind = 1 ∨ x.tok.Kind = 2 ∨ x.tok.Kind = 3)) ∨ (∃ y, x.kids = [y] ∧ (x.tok.Kind = 6 ∨ x.tok.Kind = 7)) ∨ (∃ y z, x.kids = [y, z] ∧ (x.tok.Kind = 4 ∨ x.tok.Kind = 5))) := by
 have ha := good_arity hg
 have hk := kids_le x
 have hl : x.kids.length = 0 ∨ x.kids.length = 1 ∨ x.kids.length = 2 := by omega
 have harr : arity x.tok ≥ 0 := by omega
 have key : 0 ≤ x.tok.Low ∧ x.tok.Low ≤ 3 ∧ (arity x.tok = 0 → x.tok.Kind = 1 ∨ x.tok.Kind = 2 ∨ x.tok.Kind = 3) ∧ (arity x.tok = 1 → x.tok.Kind = 6 ∨ x.tok.Kind = 7) ∧ (arity x.tok = 2 → x.tok.Kind = 4 ∨ x.tok.Kind = 5) := by
  revert harr
  unfold arity zerT inB
  intro harr
  repeat' split at harr
  all_goals first | omega | (simp_all <;> omega)
 refine ⟨key.1, key.2.1, ?_⟩
 rcases hl with h | h | h
 · exact .inl ⟨List.eq_nil_of_length_eq_zero h, key.2.2.1 (by omega)⟩
 · obtain ⟨y, hy, _⟩ := kids_one hg (by omega)
   exact .inr (.inl ⟨y, hy, key.2.2.2.1 (by omega)⟩)
 · obtain ⟨y, z, hy, _⟩ := kids_two hg (by omega)
   exact .inr (.inr ⟨y, z, hy, key.2.2.2.2 (by omega)⟩)
theorem kind_two' {x : Tr} (hg : good x) (h : x.tok.Kind = 4 ∨ x.tok.Kind = 5) : ∃ y z, x.kids = [y, z] ∧ toks x = toks y ++ toks z ++ [x.tok] ∧ good y ∧ good z := by
 rcases (good_cases hg).2.2 with ⟨_, h1⟩ | ⟨y, _, h1⟩ | ⟨y, z, h1, _⟩
 · omega
 · omega
 · exact kids_two hg (by rw [good_arity hg, h1]; rfl)
theorem kind_one' {x : Tr} (hg : good x) (h : x.tok.Kind = 6 ∨ x.tok.Kind = 7) : ∃ y, x.kids = [y] ∧ toks x = toks y ++ [x.tok] ∧ good y := by
 rcases (good_cases hg).2.2 with ⟨_, h1⟩ | ⟨y, h1, _⟩ | ⟨y, z, _, h1⟩
 · omega
 · exact kids_one hg (by rw [good_arity hg, h1]; rfl)
 · omega
theorem kind_no' {x : Tr} (hg : good x) (h : x.tok.Kind ≠ 4 ∧ x.tok.Kind ≠ 5 ∧ x.tok.Kind ≠ 6 ∧ x.tok.Kind ≠ 7) : x.kids = [] := by
 rcases (good_cases hg).2.2 with ⟨h1, _⟩ | ⟨y, _, h1⟩ | ⟨y, z, _, h1⟩
 · exact h1
 · omega
 · omega
end Go.Q
namespace Go.Proofs.YtoealglkenhphaaGreat
open Go.RowKit Go.Q Go.D
end Go.Proofs.YtoealglkenhphaaGreat
