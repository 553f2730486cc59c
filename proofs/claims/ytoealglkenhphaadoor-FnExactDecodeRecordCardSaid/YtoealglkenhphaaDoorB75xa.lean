/- Merged texts. -/
import Derived.Test.YtoealglkenhphaaDoorStdxa
import Derived.Test.YtoealglkenhphaaDoorB02xa
import Derived.Test.YtoealglkenhphaaDoorAbsKxa
import Derived.Test.YtoealglkenhphaaDoorAbsLxa
import Derived.Test.YtoealglkenhphaaDoorB73xa
set_option linter.unusedVariables false
set_option linter.unusedSimpArgs false
namespace Go.D
open Go.Q
def cntInt (_ : Int) : Int := 1
def cntEdge (x : TEdge) : Int := 1 + 1 + 1 + 1
/-- All of it is marked. -/
def mkChange (x : TChange) (k : Int) : TChange := ⟨decide ((k) % 3 = 0), ⟨k + 1, k + 1 + 1, k + 1 + 1 + 1, k + 1 + 1 + 1 + 1⟩⟩
def cntChange (x : TChange) : Int := 1 + 1 + 1 + 1 + 1
theorem cntChange_nn (x : TChange) : 0 ≤ cntChange x := by
  unfold cntChange; omega
def mkChangeS (x : (List TChange)) (k : Int) : (List TChange) := mkL mkChange cntChange x k
def cntChangeS (x : (List TChange)) : Int := cntL cntChange x
theorem cntChangeS_nn (x : (List TChange)) : 0 ≤ cntChangeS x := cntL_nonneg cntChange_nn x
/-- What it holds in slices is marked. -/
def mpBatch (x : TBatch) (k : Int) : TBatch := ⟨mkChangeS x.Changes (k)⟩
def cpBatch (x : TBatch) : Int := cntChangeS x.Changes
theorem cpBatch_nn (x : TBatch) : 0 ≤ cpBatch x := by
  have := cntChangeS_nn x.Changes
  unfold cpBatch; omega
theorem cntL_bound {α : Type} {c : α → Int} {b : Int} (hb : 0 ≤ b) : ∀ {l : List α}, (∀ y ∈ l, c y ≤ b) → cntL c l ≤ l.length * b
  | [], _ => by simp [cntL]
  | x :: l, h => by
    have h1 := h x (by simp)
    have h2 := cntL_bound (l := l) hb fun y hy => h y (by simp [hy])
    rw [cntL, List.length_cons, Int.natCast_add, Int.add_mul]
    omega
theorem cntL_ok {α : Type} {c : α → Int} {b : Int} {l : List α} (hb : 0 ≤ b) (hl : l.length ≤ 1048576) (h : ∀ y ∈ l, c y ≤ b) : cntL c l ≤ 1048576 * b :=
  Int.le_trans (cntL_bound hb h) (Int.mul_le_mul_of_nonneg_right (by omega) hb)
theorem cntChangeS_ok {x : (List TChange)} (h : okChangeS x) : cntChangeS x ≤ 5242880 := Int.le_trans (cntL_ok (b := 5) (by omega) h fun y _ => by simp [cntChange, cntEdge]) (by omega)
theorem cpBatch_ok {x : TBatch} (h : okBatch x) : cpBatch x ≤ 5242880 := by
  have := cntChangeS_ok h.1
  unfold cpBatch; (try simp only [cntInt] at *); omega
end Go.D
set_option linter.unusedVariables false
set_option linter.unusedSimpArgs false
set_option maxHeartbeats 1000000
set_option maxRecDepth 100000
namespace Go.Q
open Go.D
/-! ### Sets as sorted lists -/
structure SO {α : Type} (lt : α → α → Bool) : Prop where
  irr : ∀ x, lt x x = false
  tra : ∀ x y z, lt x y = true → lt y z = true → lt x z = true
  tri : ∀ x y, lt x y = true ∨ x = y ∨ lt y x = true
section
variable {α : Type} {lt : α → α → Bool}
end
section
variable {α : Type} [DecidableEq α] {lt : α → α → Bool}
end
/-! ### Pairs -/
instance : Inhabited TPair := ⟨⟨0, 0⟩⟩
end Go.Q
namespace Go.Q
open Go.D
end Go.Q
namespace Go.Proofs.YtoealglkenhphaaDoor
open Go.RowKit Go.Q Go.D
end Go.Proofs.YtoealglkenhphaaDoor
set_option linter.unusedVariables false
set_option linter.unusedSimpArgs false
set_option maxHeartbeats 1000000
set_option maxRecDepth 100000
namespace Go.Q
open Go.D
end Go.Q
namespace Go.Proofs.YtoealglkenhphaaDoor
open Go.RowKit Go.Q Go.D
end Go.Proofs.YtoealglkenhphaaDoor
set_option linter.unusedVariables false
set_option linter.unusedSimpArgs false
set_option maxHeartbeats 1000000
set_option maxRecDepth 100000
namespace Go.Q
open Go.D
end Go.Q
namespace Go.Proofs.YtoealglkenhphaaDoor
open Go.RowKit Go.Q Go.D
end Go.Proofs.YtoealglkenhphaaDoor
set_option linter.unusedVariables false
set_option linter.unusedSimpArgs false
set_option maxHeartbeats 1000000
set_option maxRecDepth 100000
namespace Go.Q
open Go.D
end Go.Q
namespace Go.Proofs.YtoealglkenhphaaDoor
open Go.RowKit Go.Q Go.D
end Go.Proofs.YtoealglkenhphaaDoor
set_option linter.unusedVariables false
set_option linter.unusedSimpArgs false
set_option maxHeartbeats 1000000
set_option maxRecDepth 100000
namespace Go.Q
open Go.D
/-! ### Letters -/
def letNames : List (List UInt8) := [[97], [97, 45], [98], [98, 45], [99], [99, 45], [48], [49], [50]]
def letS (k : Int) : List UInt8 := letNames[k.toNat]?.getD []
theorem letS_len (k : Int) : (letS k).length ≤ 2 := by
  unfold letS
  by_cases h : k.toNat < 9
  · have h9 : k.toNat = 0 ∨ k.toNat = 1 ∨ k.toNat = 2 ∨ k.toNat = 3 ∨ k.toNat = 4 ∨ k.toNat = 5 ∨ k.toNat = 6 ∨ k.toNat = 7 ∨ k.toNat = 8 := by omega
    rcases h9 with e | e | e | e | e | e | e | e | e <;> rw [e] <;> decide
  · rw [List.getElem?_eq_none (by simp [letNames]; omega)]; simp
theorem letS_get {k : Int} (h0 : 0 ≤ k) (h8 : k ≤ 8) : (letNames.map cStr)[k.toNat]? = some (cStr (letS k)) := by
  have hk : k.toNat < letNames.length := by simp [letNames]; omega
  rw [List.getElem?_map, List.getElem?_eq_getElem hk]
  unfold letS
  rw [List.getElem?_eq_getElem hk]; rfl
end Go.Q
