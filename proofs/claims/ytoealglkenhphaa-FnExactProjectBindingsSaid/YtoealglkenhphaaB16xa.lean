/- Sets of pairs: both texts. -/
import Derived.Test.YtoealglkenhphaaB15xa
set_option linter.unusedVariables false
set_option linter.unusedSimpArgs false
set_option maxHeartbeats 1000000
set_option maxRecDepth 100000
namespace Go.Q
open Go.D
theorem drop_more {α : Type} {l r : List α} {m m' : Nat} (h : r.drop m = l.drop m) (hm : m ≤ m') : r.drop m' = l.drop m' := by
  have : m' = m + (m' - m) := by omega
  rw [this, ← List.drop_drop, ← List.drop_drop, h]
theorem cut_rows {α : Type} {c : α → List T} {R l : List α} {k : Nat} {z : List (List T)} (h : R.take k = l) (hk : k ≤ R.length) : ((R.map c).take k ++ z).take k = l.map c := by
  rw [List.take_append_of_le_length (by simp; omega), List.take_take, Nat.min_self, ← List.map_take, h]
theorem drop_get {α : Type} {l r : List α} {m i : Nat} (h : r.drop m = l.drop m) (hi : m ≤ i) : r[i]? = l[i]? := by
  have e1 : r[i]? = (r.drop m)[i - m]? := by rw [List.getElem?_drop]; congr 1; omega
  have e2 : l[i]? = (l.drop m)[i - m]? := by rw [List.getElem?_drop]; congr 1; omega
  rw [e1, e2, h]
theorem set_take {α : Type} {r : List α} {k : Nat} {x : α} (h : k < r.length) : (r.set k x).take (k + 1) = r.take k ++ [x] := by
  rw [take_at (l := r.set k x) (i := k) (x := x) (by rw [List.getElem?_set_self h]), List.take_set_of_le (Nat.le_refl _)]
theorem set_drop {α : Type} {r : List α} {k m : Nat} {x : α} (h : k < m) : (r.set k x).drop m = r.drop m := by
  rw [List.drop_set, if_pos h]
end Go.Q
namespace Go.Proofs.Ytoealglkenhphaa
open Go.RowKit Go.Q Go.D
end Go.Proofs.Ytoealglkenhphaa
