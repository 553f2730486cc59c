/- A copy by append: onto a literal of no element. -/
import Derived.Test.YtoealglkenhphaaPlanxa
import Derived.Laws.OwnMore
set_option linter.unusedVariables false
set_option linter.unusedSimpArgs false
namespace Go.Q
open Go.RowKit
open Rd (rd)
theorem encs_get {α : Type} [Flat α] : ∀ (l : List α) (j : Nat) (u : Value), (encs l)[j]? = some u → ∃ i x r, l[i]? = some x ∧ (Flat.enc x)[r]? = some u ∧ j = i * Flat.k α + r
  | [], j, u, h => by simp [encs] at h
  | y :: l, j, u, h => by
    have e : encs (y :: l) = Flat.enc y ++ encs l := by simp [encs]
    rw [e] at h
    by_cases hj : j < (Flat.enc y).length
    · rw [List.getElem?_append_left hj] at h
      exact ⟨0, y, j, rfl, h, by omega⟩
    · rw [List.getElem?_append_right (by omega)] at h
      obtain ⟨i, x, r, h1, h2, h3⟩ := encs_get l _ u h
      refine ⟨i + 1, x, r, by simpa using h1, h2, ?_⟩
      rw [Flat.len] at h3 hj
      rw [Nat.add_mul, Nat.one_mul]
      omega
theorem Sl.news {α : Type} [Flat α] {w : World} {ad : Addr} {m c : Nat} {l : List α} {F : List Nat} (h : Sl w (some ad) m c l F) : ∀ j u, (encs l)[j]? = some u → w.cell? (ad.add j) = some u := by
  intro j u hu
  obtain ⟨i, x, r, h1, h2, rfl⟩ := encs_get l j u hu
  have hi : i < m := by rw [← h.hlen]; exact (List.getElem?_eq_some_iff.1 h1).1
  obtain ⟨b, off, y, ha, hy, hc⟩ := h.flat hi
  cases ha
  rw [h1] at hy
  cases hy
  have := hc r u h2
  rw [Addr.add_lit]
  simpa [Nat.add_assoc] using this
section
variable {P : Program}
end
end Go.Q
