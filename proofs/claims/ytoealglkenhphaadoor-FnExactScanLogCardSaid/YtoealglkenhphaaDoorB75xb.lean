/- Merged texts. -/
import Derived.Test.YtoealglkenhphaaDoorStdxb
import Derived.Test.YtoealglkenhphaaDoorB02xb
import Derived.Test.YtoealglkenhphaaDoorAbsKxb
import Derived.Test.YtoealglkenhphaaDoorAbsLxb
import Derived.Test.YtoealglkenhphaaDoorB74xb
set_option linter.unusedVariables false
set_option linter.unusedSimpArgs false
namespace Go.D
open Go.Q
def mkInt (_ : Int) (k : Int) : Int := k
def cntInt (_ : Int) : Int := 1
theorem cntInt_nn (x : Int) : 0 ≤ cntInt x := by unfold cntInt; omega
def mkIntS (x : (List Int)) (k : Int) : (List Int) := mkL mkInt cntInt x k
def cntIntS (x : (List Int)) : Int := cntL cntInt x
theorem cntIntS_nn (x : (List Int)) : 0 ≤ cntIntS x := cntL_nonneg cntInt_nn x
def cntEdge (x : TEdge) : Int := 1 + 1 + 1 + 1
/-- All of it is marked. -/
def mkChange (x : TChange) (k : Int) : TChange := ⟨decide ((k) % 3 = 0), ⟨k + 1, k + 1 + 1, k + 1 + 1 + 1, k + 1 + 1 + 1 + 1⟩⟩
def cntChange (x : TChange) : Int := 1 + 1 + 1 + 1 + 1
theorem cntChange_nn (x : TChange) : 0 ≤ cntChange x := by
  unfold cntChange; omega
def mkChangeS (x : (List TChange)) (k : Int) : (List TChange) := mkL mkChange cntChange x k
def cntChangeS (x : (List TChange)) : Int := cntL cntChange x
theorem cntChangeS_nn (x : (List TChange)) : 0 ≤ cntChangeS x := cntL_nonneg cntChange_nn x
/-- All of it is marked. -/
def mkBatch (x : TBatch) (k : Int) : TBatch := ⟨mkChangeS x.Changes (k)⟩
def cntBatch (x : TBatch) : Int := cntChangeS x.Changes
theorem cntBatch_nn (x : TBatch) : 0 ≤ cntBatch x := by
  have := cntChangeS_nn x.Changes
  unfold cntBatch; omega
def mkBatchS (x : (List TBatch)) (k : Int) : (List TBatch) := mkL mkBatch cntBatch x k
def cntBatchS (x : (List TBatch)) : Int := cntL cntBatch x
theorem cntBatchS_nn (x : (List TBatch)) : 0 ≤ cntBatchS x := cntL_nonneg cntBatch_nn x
theorem cntL_bound {α : Type} {c : α → Int} {b : Int} (hb : 0 ≤ b) : ∀ {l : List α}, (∀ y ∈ l, c y ≤ b) → cntL c l ≤ l.length * b
  | [], _ => by simp [cntL]
  | x :: l, h => by
    have h1 := h x (by simp)
    have h2 := cntL_bound (l := l) hb fun y hy => h y (by simp [hy])
    rw [cntL, List.length_cons, Int.natCast_add, Int.add_mul]
    omega
theorem cntL_ok {α : Type} {c : α → Int} {b : Int} {l : List α} (hb : 0 ≤ b) (hl : l.length ≤ 1048576) (h : ∀ y ∈ l, c y ≤ b) : cntL c l ≤ 1048576 * b :=
  Int.le_trans (cntL_bound hb h) (Int.mul_le_mul_of_nonneg_right (by omega) hb)
theorem cntIntS_ok {x : (List Int)} (h : okIntS x) : cntIntS x ≤ 1048576 := Int.le_trans (cntL_ok (b := 1) (by omega) h fun y _ => by simp [cntInt]) (by omega)
theorem cntChangeS_ok {x : (List TChange)} (h : okChangeS x) : cntChangeS x ≤ 5242880 := Int.le_trans (cntL_ok (b := 5) (by omega) h fun y _ => by simp [cntChange, cntEdge]) (by omega)
theorem cntBatch_ok {x : TBatch} (h : okBatch x) : cntBatch x ≤ 5242880 := by
  have := cntChangeS_ok h.1
  unfold cntBatch; (try simp only [cntInt] at *); omega
theorem cntBatchS_ok {x : (List TBatch)} (h : okBatchS x) : cntBatchS x ≤ 5497558138880 := Int.le_trans (cntL_ok (b := 5242880) (by omega) h.1 fun y hy => cntBatch_ok (h.2 y hy)) (by omega)
end Go.D
set_option linter.unusedVariables false
set_option linter.unusedSimpArgs false
set_option maxHeartbeats 1000000
set_option maxRecDepth 100000
namespace Go.Q
open Go.D
/-! ### Sets as sorted lists -/
structure SO {α : Type} (lt : α → α → Bool) : Prop where
  irr : ∀ x, lt x x = false
  tra : ∀ x y z, lt x y = true → lt y z = true → lt x z = true
  tri : ∀ x y, lt x y = true ∨ x = y ∨ lt y x = true
section
variable {α : Type} {lt : α → α → Bool}
end
section
variable {α : Type} [DecidableEq α] {lt : α → α → Bool}
end
/-! ### Pairs -/
instance : Inhabited TPair := ⟨⟨0, 0⟩⟩
end Go.Q
namespace Go.Q
open Go.D
end Go.Q
namespace Go.Proofs.YtoealglkenhphaaDoor
open Go.RowKit Go.Q Go.D
end Go.Proofs.YtoealglkenhphaaDoor
set_option linter.unusedVariables false
set_option linter.unusedSimpArgs false
set_option maxHeartbeats 1000000
set_option maxRecDepth 100000
namespace Go.Q
open Go.D
end Go.Q
namespace Go.Proofs.YtoealglkenhphaaDoor
open Go.RowKit Go.Q Go.D
end Go.Proofs.YtoealglkenhphaaDoor
set_option linter.unusedVariables false
set_option linter.unusedSimpArgs false
set_option maxHeartbeats 1000000
set_option maxRecDepth 100000
namespace Go.Q
open Go.D
end Go.Q
namespace Go.Proofs.YtoealglkenhphaaDoor
open Go.RowKit Go.Q Go.D
end Go.Proofs.YtoealglkenhphaaDoor
set_option linter.unusedVariables false
set_option linter.unusedSimpArgs false
set_option maxHeartbeats 1000000
set_option maxRecDepth 100000
namespace Go.Q
open Go.D
end Go.Q
namespace Go.Proofs.YtoealglkenhphaaDoor
open Go.RowKit Go.Q Go.D
end Go.Proofs.YtoealglkenhphaaDoor
set_option linter.unusedVariables false
set_option linter.unusedSimpArgs false
set_option maxHeartbeats 1000000
set_option maxRecDepth 100000
namespace Go.Q
open Go.D
/-! ### Letters -/
def letNames : List (List UInt8) := [[97], [97, 45], [98], [98, 45], [99], [99, 45], [48], [49], [50]]
def letS (k : Int) : List UInt8 := letNames[k.toNat]?.getD []
theorem letS_len (k : Int) : (letS k).length ≤ 2 := by
  unfold letS
  by_cases h : k.toNat < 9
  · have h9 : k.toNat = 0 ∨ k.toNat = 1 ∨ k.toNat = 2 ∨ k.toNat = 3 ∨ k.toNat = 4 ∨ k.toNat = 5 ∨ k.toNat = 6 ∨ k.toNat = 7 ∨ k.toNat = 8 := by omega
    rcases h9 with e | e | e | e | e | e | e | e | e <;> rw [e] <;> decide
  · rw [List.getElem?_eq_none (by simp [letNames]; omega)]; simp
theorem letS_get {k : Int} (h0 : 0 ≤ k) (h8 : k ≤ 8) : (letNames.map cStr)[k.toNat]? = some (cStr (letS k)) := by
  have hk : k.toNat < letNames.length := by simp [letNames]; omega
  rw [List.getElem?_map, List.getElem?_eq_getElem hk]
  unfold letS
  rw [List.getElem?_eq_getElem hk]; rfl
end Go.Q
