/- Pairs and deltas written out: the plain law. -/
import Derived.Test.YtibjbmjgmfiecaaDoorB73xa
import Derived.Test.YtibjbmjgmfiecaaDoorB33xa
set_option linter.unusedVariables false
set_option linter.unusedSimpArgs false
set_option maxHeartbeats 1000000
set_option maxRecDepth 100000
namespace Go.Q
open Go.D
/-! ### Letters -/
def letNames : List (List UInt8) := [[97], [97, 45], [98], [98, 45], [99], [99, 45], [48], [49], [50]]
def letS (k : Int) : List UInt8 := letNames[k.toNat]?.getD []
theorem letS_len (k : Int) : (letS k).length ≤ 2 := by
  unfold letS
  by_cases h : k.toNat < 9
  · have h9 : k.toNat = 0 ∨ k.toNat = 1 ∨ k.toNat = 2 ∨ k.toNat = 3 ∨ k.toNat = 4 ∨ k.toNat = 5 ∨ k.toNat = 6 ∨ k.toNat = 7 ∨ k.toNat = 8 := by omega
    rcases h9 with e | e | e | e | e | e | e | e | e <;> rw [e] <;> decide
  · rw [List.getElem?_eq_none (by simp [letNames]; omega)]; simp
theorem letS_get {k : Int} (h0 : 0 ≤ k) (h8 : k ≤ 8) : (letNames.map cStr)[k.toNat]? = some (cStr (letS k)) := by
  have hk : k.toNat < letNames.length := by simp [letNames]; omega
  rw [List.getElem?_map, List.getElem?_eq_getElem hk]
  unfold letS
  rw [List.getElem?_eq_getElem hk]; rfl
end Go.Q
