/- Numbers written out in full and read again; strings cut at a byte; checksums: the plain law. -/
import Derived.Test.YtibjbmjgmfiecaaDoorB73xa
import Derived.Lib.SplitLaws
import Derived.Lib.Atoi
set_option linter.unusedVariables false
set_option linter.unusedSimpArgs false
set_option maxHeartbeats 1000000
set_option maxRecDepth 100000
namespace Go.Q
open Go.D
/-! ### Numbers -/
def itoS (n : Int) : List UInt8 := Lib.itoa n
theorem itoS_num {n : Int} (h : 0 ≤ n) : itoS n = numS n := by unfold itoS numS Lib.itoa; rw [if_neg (by omega)]
theorem dig_le : ∀ (k u : Nat), 1 ≤ k → (u < 10 ^ k ↔ (Lib.decDigits u).length ≤ k)
  | 0, _, h => by omega
  | k + 1, u, _ => by
    by_cases h : u < 10
    · rw [dig_small h]
      have : 10 ^ (k + 1) = 10 ^ k * 10 := by rw [Nat.pow_succ]
      have h1 : 1 ≤ 10 ^ k := Nat.one_le_pow _ _ (by decide)
      simp; omega
    · rw [dig_more (by omega), List.length_append, List.length_singleton, Nat.pow_succ]
      by_cases hk : k = 0
      · subst hk
        rw [Nat.pow_zero]
        have h1 : 1 ≤ (Lib.decDigits (u / 10)).length := by
          by_cases h2 : u / 10 < 10
          · rw [dig_small h2]; simp
          · rw [dig_more (by omega)]; simp
        omega
      · have := dig_le k (u / 10) (by omega)
        omega
/-! ### Checksums -/
def chkS (l : List UInt8) : Int := l.foldl (fun n b => (n * 257 + (b.toNat : Int) + 1) % 9973) 1
theorem chkS_snoc (l : List UInt8) (b : UInt8) : chkS (l ++ [b]) = (chkS l * 257 + (b.toNat : Int) + 1) % 9973 := by unfold chkS; rw [List.foldl_append]; rfl
theorem chkS_le (l : List UInt8) : 0 ≤ chkS l ∧ chkS l < 9973 := by
  rcases List.eq_nil_or_concat l with rfl | ⟨r, b, rfl⟩
  · decide
  · rw [List.concat_eq_append, chkS_snoc]; omega
/-! ### Parts of strings -/
theorem bs_get (l : List UInt8) (n : Nat) : (bs l)[n]? = l[n]? := by
  show (bs l).data[n]? = l[n]?
  simp [bs]
end Go.Q
