import Derived.Test.YtbkhopfpejhnlaaGreatPlanrc
import Derived.Laws.OwnMore
set_option linter.unusedVariables false
set_option linter.unusedSimpArgs false
namespace Go.Q
open Go.RowKit
open Rd (rd)
theorem encs_get {α : Type} [Flat α] : ∀ (l : List α) (j : Nat) (u : Value), (encs l)[j]? = some u → ∃ i x r, l[i]? = some x ∧ (Flat.enc x)[r]? = some u ∧ j = i * Flat.k α + r
 | [], j, u, h => by simp [encs] at h
 | y :: l, j, u, h => by
  have e : encs (y :: l) = Flat.enc y ++ encs l := by simp [encs]
  rw [e] at h
  by_cases hj : j < (Flat.enc y).length
  · rw [List.getElem?_append_left hj] at h
    exact ⟨0, y, j, rfl, h, by omega⟩
  · rw [List.getElem?_append_right (by omega)] at h
    obtain ⟨i, x, r, h1, h2, h3⟩ := encs_get l _ u h
    refine ⟨i + 1, x, r, by simpa using h1, h2, ?_⟩
    rw [Flat.len] at h3 hj
    rw [Nat.add_mul, Nat.one_mul]
    omega
theorem Sl.news {α : Type} [Flat α] {w : World} {ad : Addr} {m c : Nat} {l : List α} {F : List Nat} (h : Sl w (some ad) m c l F) : ∀ j u, (encs l)[j]? = some u → w.cell? (ad.add j) = some u := by
 intro j u hu
 obtain ⟨i, x, r, h1, h2, rfl⟩ := encs_get l j u hu
 have hi : i < m := by rw [← h.hlen]; exact (List.getElem?_eq_some_iff.1 h1).1
 obtain ⟨b, off, y, ha, hy, hc⟩ := h.flat hi
 cases ha
 rw [h1] at hy
 cases hy
 have := hc r u h2
 rw [Addr.add_lit]
 simpa [Nat.add_assoc] using this
section
variable {P : Program}
theorem run_append_copy {α : Type} [Flat α] {w : World} (t ty e : TypeId) (i : TypeInfo) (z : Value) {bytes : Nat} (ht : P.underlying t = some (.slice e)) (hi : P.info? e = some i) (hz : i.zero = some z)
 (hsize : i.size = Flat.k α) (hby : i.bytes = bytes) (hzs : z.cells.size = Flat.k α) {ad0 ax : Option Addr} {m c : Nat} {l : List α} {F : List Nat} (hl : Sl w ax m c l F) (hb : m * bytes ≤ 140737488355328) :
 ∃ v w', (Builtin.append_ #[t, t] ty #[.slice ad0 0 0, .slice ax m c]).run P w = .ok v w' ∧ New w w' v l ∧ Ext w w' := by
 subst hby
 have h1 := hl.le
 by_cases hm : m = 0
 · subst hm
   obtain rfl : l = [] := List.eq_nil_of_length_eq_zero hl.hlen
   refine ⟨.slice ad0 0 0, w, ?_, ⟨[], Sl.vl ⟨rfl, Nat.le_refl _, Nat.zero_le _, [], [], rfl, rfl, by simp, .inl ⟨rfl, rfl⟩⟩, by simp, List.nodup_nil⟩, Ext.refl w⟩
   cases ad0 <;> cases ax <;> simp [Builtin.append_, run_underlying ht, sizeOf, typeInfo, hi, Builtin.lenOf, Builtin.firstCells, loadCells, loadCellsFrom, storeCells]
 · obtain ⟨b, off, x, rfl, -⟩ := hl.flat (i := 0) (by omega)
   have hnews := hl.news
   have hlen : (encs l).length = m * i.size := by rw [encs_length, hl.hlen, hsize]
   have h63 : m ≤ 9223372036854775807 := by unfold maxLen at h1; omega
   have key : ∃ cap, (Builtin.append_ #[t, t] ty #[.slice ad0 0 0, .slice (some ⟨b, off, none⟩) m c]).run P w = .ok (.slice (some ⟨w.heap.size, 0, none⟩) m (grownCap w m 0 e)) (w.drew.alloc (.cells ((encs l).toArray ++ Builtin.zeroCells z.cells (grownCap w m 0 e - m)) e)) ∧ cap = 0 := by
    refine ⟨0, ?_, rfl⟩
    cases ad0 with
    | none =>
     have hr := run_append_nil (P := P) w t ty e i z ht hi hz ⟨b, off, none⟩ m c (encs l) hlen hnews (by omega) (by omega) (by have hb := hb; omega)
     simpa using hr
    | some g =>
     have hr := run_append_grow (P := P) w t ty e i z ht hi hz g 0 0 [] (by simp) (by simp) ⟨b, off, none⟩ m c (encs l) hlen hnews (by omega) (by omega) (growslice_fits (by omega) (by simpa using hb))
     simpa using hr
   obtain ⟨_, hr, _⟩ := key
   refine ⟨_, _, hr, ?_, (Ext.refl w).drawn.alloc _⟩
   refine New.of_owns (e := e) (n := m) (xs := encs l) ⟨by rw [encs_length, hl.hlen], .inr ⟨w.heap.size, _, _, rfl, Nat.le_refl _, heap_alloc_new w.drew _, grownCap_ge w m 0 e, grownCap_le_maxLen w m 0 e (by simp only [maxLen]; omega), ?_, ?_⟩⟩ hl.hlen.symm rfl
   · simp only [Array.size_append, List.size_toArray, size_zeroCells, hzs, encs_length, hl.hlen, ← Nat.add_mul]
     congr 1
     have := grownCap_ge w m 0 e
     omega
   · have e1 : m * Flat.k α = (encs l).length := by rw [encs_length, hl.hlen]
     simp only [Array.toList_append, e1]
     exact List.take_left
theorem wpList_append_copy {α : Type} [Flat α] {w : World} {ops : Array Oper} {rest : List Oper} {o : Oper} {a : Act} {Q : Exit → Act → World → Prop} (hgd : o.guard = none) (s x : Operand) (t : TypeId)
 (ho : o.op = .call { callee := .builtin .append, args := #[s, x], argTypes := #[t, t] }) (e : TypeId) (i : TypeInfo) (z : Value) (bytes : Nat) (ht : P.underlying t = some (.slice e)) (hi : P.info? e = some i) (hz : i.zero = some z)
 (hsize : i.size = Flat.k α) (hby : i.bytes = bytes) (hzs : z.cells.size = Flat.k α) {ad0 ax : Option Addr} {m c : Nat} {l : List α} {F : List Nat} (hs : a.eval s = .slice ad0 0 0) (hx : a.eval x = .slice ax m c) (hl : Sl w ax m c l F) (hb : m * bytes ≤ 140737488355328)
 (h : ∀ v w', New w w' v l → Ext w w' → wpList P ops Q rest (a.put o.dst v) w') : wpList P ops Q (o :: rest) a w := by
 refine wpList_plain hgd fun K hK => ?_
 obtain ⟨v, w', hr, h2, h3⟩ := run_append_copy (P := P) (α := α) t o.type e i z ht hi hz hsize hby hzs (ad0 := ad0) hl hb
 unfold Oper.wp execOp
 simp only [ho, resolve, invoke, builtin, Sem.run_bind, Sem.run_pure, Result.andThen_ok, List.map_toArray, List.map_cons, List.map_nil, hs, hx, hr]
 exact hK _ _ (h v w' h2 h3)
end
end Go.Q
