/- From the form's own reading of an argument to a reading of this library's. -/
import Derived.Test.YtindeldjbofanaaPlan
import Derived.Deep.Slices
namespace Go.Q
open Rd (rd)
open Go.RowKit Go.ChangeShapes Go.WideShapes Go.Deep
/-- Whatever the form reads at the type t reads as a datum of α. -/
def Opens (α : Type) [Rd α] (P : Program) (t : TypeId) : Prop :=
  ∀ {H : Type} {enc : TypeId × Value → H} {w : World} {base : Nat} {spare : Nat → Bool} {held : Bool} {fuel : Nat} {cs : List Value} {x : DataW H × List MemPlace},
    DataW.trod enc P w base spare held fuel t cs = some x → ∃ (a : α) (F : List Nat), rd w cs a F
theorem opensInt {P : Program} {t : TypeId} (ht : P.underlying t = some (.int .i64)) : Opens Int P t := by
  intro H enc w base spare held fuel cs x h
  obtain ⟨n, rfl, _, _⟩ := DataW.trod_int ht h
  exact ⟨n, [], rfl, rfl⟩
theorem opensBool {P : Program} {t : TypeId} (ht : P.underlying t = some .bool) : Opens Bool P t := by
  intro H enc w base spare held fuel cs x h
  obtain ⟨n, rfl, _⟩ := DataW.trod_bool ht h
  exact ⟨n, [], rfl, rfl⟩
theorem opensSlice {α : Type} [Rd α] {P : Program} {t e : TypeId} (ht : P.underlying t = some (.slice e)) (hk : P.cellsOf e = Rd.k α) (hpos : 0 < Rd.k α) (he : Opens α P e) : Opens (List α) P t := by
  intro H enc w base spare held fuel cs x h
  rcases open_slice ht h with ⟨rfl, _⟩ | ⟨a, len, cap, m, n, D, Pl, rfl, hb, hl, hm, hmm, _, hi⟩
  · exact ⟨[], [], none, 0, 0, rfl, ⟨rfl, Nat.le_refl _, by simp, [], [], rfl, rfl, by simp, .inl ⟨rfl, rfl⟩⟩⟩
  · have hlm : len ≤ m := by rw [hmm]; split <;> omega
    have key : ∀ q, q ≤ len → ∃ (css : List (List Value)) (l : List α) (Fs : List (List Nat)), css.length = q ∧ l.length = q ∧ Fs.length = q ∧
        (∀ (i : Nat) (x : α) (cs : List Value) (f : List Nat), l[i]? = some x → css[i]? = some cs → Fs[i]? = some f → rd w cs x f) ∧
        (∀ (i : Nat) (cs : List Value), css[i]? = some cs → w.cells? base (a.add (i * P.cellsOf e)) (P.cellsOf e) = some cs) := by
      intro q
      induction q with
      | zero => intro _; exact ⟨[], [], [], rfl, rfl, rfl, by simp, by simp⟩
      | succ q ih =>
        intro hq
        obtain ⟨css, l, Fs, h1, h2, h3, h4, h5⟩ := ih (by omega)
        obtain ⟨cs', hc, htr⟩ := hi q (by omega)
        obtain ⟨y, f, hr⟩ := he htr
        refine ⟨css ++ [cs'], l ++ [y], Fs ++ [f], by simp [h1], by simp [h2], by simp [h3], fun i x cs f' hx hcs hf => ?_, fun i cs hcs => ?_⟩
        · rcases Nat.lt_trichotomy i q with hlt | rfl | hgt
          · rw [List.getElem?_append_left (by omega)] at hx hcs hf
            exact h4 i x cs f' hx hcs hf
          · rw [List.getElem?_append_right (by omega), h2] at hx
            rw [List.getElem?_append_right (by omega), h1] at hcs
            rw [List.getElem?_append_right (by omega), h3] at hf
            simp at hx hcs hf
            subst hx; subst hcs; subst hf
            exact hr
          · rw [List.getElem?_eq_none (by simp; omega)] at hx
            cases hx
        · rcases Nat.lt_trichotomy i q with hlt | rfl | hgt
          · rw [List.getElem?_append_left (by omega)] at hcs
            exact h5 i cs hcs
          · rw [List.getElem?_append_right (by omega), h1] at hcs
            simp at hcs
            subst hcs
            exact hc
          · rw [List.getElem?_eq_none (by simp; omega)] at hcs
            cases hcs
    obtain ⟨css, l, Fs, h1, h2, h3, h4, h5⟩ := key len (Nat.le_refl _)
    by_cases h0 : len = 0
    · exact ⟨l, [], some a, len, cap, rfl, ⟨h2, hl, hm, css, Fs, h1, h3, h4, .inl ⟨h0, rfl⟩⟩⟩
    · obtain ⟨b, off, spot⟩ := a
      obtain ⟨_, hlen0, hat0⟩ := World.cells?_some (h5 0 _ (List.getElem?_eq_getElem (by omega)))
      have c0 := hat0 0 (by omega)
      rw [List.getElem?_eq_getElem (by omega)] at c0
      have hlt : b < w.heap.size := by
        have := World.block_lt_of_cell? w _ c0
        simpa [Addr.add] using this
      have hspot : spot = none := by
        have := World.cell?_spot c0
        simpa [Addr.add] using this
      subst hspot
      refine ⟨l, b :: Fs.flatten, some ⟨b, off, none⟩, len, cap, rfl, ⟨h2, hl, hm, css, Fs, h1, h3, h4, .inr ⟨b, off, rfl, rfl, hlt, fun i cs j u hcs hu => ?_⟩⟩⟩
      obtain ⟨_, hlen', hat⟩ := World.cells?_some (h5 i cs hcs)
      have hj : j < cs.length := (List.getElem?_eq_some_iff.1 hu).1
      have := hat j (by omega)
      rw [hu] at this
      rw [← this, ← hk]
      congr 1
      unfold Addr.add
      split <;> split <;> simp_all <;> omega
/-- An argument's value. -/
theorem Opens.vl {α : Type} [Rd α] {P : Program} {t : TypeId} {v : Value} {H : Type} {enc : TypeId × Value → H} {w : World} {base : Nat} {spare : Nat → Bool} {held : Bool} {d : DataW H} {p : List MemPlace} (h : Opens α P t)
    (hv : DataW.Trod enc P w base spare held t v d p) : ∃ (a : α) (F : List Nat), rd w v.cells.toList a F := by
  obtain ⟨fuel, hf⟩ := hv
  exact h hf
end Go.Q
