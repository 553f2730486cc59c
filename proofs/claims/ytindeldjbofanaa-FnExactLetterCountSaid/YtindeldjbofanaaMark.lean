/- Writing into slices that are new: what the laws do with their results. -/
import Derived.Test.YtindeldjbofanaaPlan
namespace Go.Q
open Go.RowKit
open Rd (rd)

/-- Nothing but the blocks F has changed, and these are still to be written. -/
structure Only (F : List Nat) (w w' : World) : Prop where
  os : w'.os = w.os
  tape : w'.tape = w.tape
  output : w'.output = w.output
  size : w.heap.size ≤ w'.heap.size
  block : ∀ b, b < w.heap.size → b ∉ F → w'.heap[b]? = w.heap[b]?
  thaw : ∀ b ∈ F, Thaw w b → Thaw w' b
theorem Only.refl (F : List Nat) (w : World) : Only F w w := ⟨rfl, rfl, rfl, Nat.le_refl _, fun _ _ _ => rfl, fun _ _ h => h⟩
theorem Only.trans {F : List Nat} {a b c : World} (h : Only F a b) (k : Only F b c) : Only F a c :=
  ⟨k.os.trans h.os, k.tape.trans h.tape, k.output.trans h.output, Nat.le_trans h.size k.size,
    fun i hi hn => (k.block i (Nat.lt_of_lt_of_le hi h.size) hn).trans (h.block i hi hn), fun i hi ht => k.thaw i hi (h.thaw i hi ht)⟩
theorem Only.sub {F G : List Nat} {w w' : World} (h : Only F w w') (hs : ∀ b ∈ F, b ∈ G) (hG : ∀ b ∈ G, b < w.heap.size) : Only G w w' :=
  ⟨h.os, h.tape, h.output, h.size, fun b hb hn => h.block b hb fun hf => hn (hs b hf), fun b hb ht => by
    by_cases hf : b ∈ F
    · exact h.thaw b hf ht
    · obtain ⟨c, e, hc⟩ := ht
      exact ⟨c, e, (h.block b (hG b hb) hf).trans hc⟩⟩
theorem Only.of_ext {F : List Nat} {w w' : World} (h : Ext w w') : Only F w w' :=
  ⟨h.os, h.tape, h.output, h.size, fun _ hb _ => h.block hb, fun _ _ ht => ht.ext h⟩
theorem Only.below {F : List Nat} {w0 w w' : World} (h : Only F w w') (hx : Ext w0 w) (hF : ∀ b ∈ F, w0.heap.size ≤ b) : Ext w0 w' :=
  hx.trans' h.os h.tape h.output h.size fun b hb => h.block b (Nat.lt_of_lt_of_le hb hx.size) fun hf => by have := hF b hf; omega
theorem Thaw.frozen {w : World} {b : Nat} (h : Thaw w b) (o : Nat) : w.frozen? ⟨b, o, none⟩ = false := by
  obtain ⟨c, e, h⟩ := h
  exact frozen_of_row w b o c e h
theorem Thaw.setCell {w : World} {b : Nat} (h : Thaw w b) (p : Addr) (u : Value) : Thaw (w.setCell p u) b := Thaw.set h p u
theorem Only.setCell {F : List Nat} {w0 w : World} (h : Only F w0 w) {b o : Nat} (hb : b ∈ F) (u : Value) : Only F w0 (w.setCell ⟨b, o, none⟩ u) :=
  h.trans ⟨rfl, rfl, rfl, by simp [World.setCell], fun i _ hn => heap_setCell_other w ⟨b, o, none⟩ i u (fun e => hn (e ▸ hb)), fun i _ ht => ht.set _ u⟩
theorem Thaw.only {w w' : World} {b : Nat} {G : List Nat} (h : Thaw w b) (ho : Only G w w') (hb : b < w.heap.size) (hn : b ∉ G) : Thaw w' b := by
  obtain ⟨c, e, hc⟩ := h
  exact ⟨c, e, (ho.block b hb hn).trans hc⟩
theorem Sl.only {α : Type} [Rd α] {w w' : World} {a : Option Addr} {len cap : Nat} {l : List α} {F G : List Nat} (h : Sl w a len cap l F) (ho : Only G w w') (hd : ∀ b ∈ F, b ∉ G) : Sl w' a len cap l F :=
  h.congr fun b hb => ho.block b (h.lt b hb) (hd b hb)
theorem Box.only {w w' : World} {b : Nat} {vs : List Value} {t : TypeId} {G : List Nat} (h : Box w b vs t) (ho : Only G w w') (hd : b ∉ G) : Box w' b vs t := (ho.block b h.lt hd).trans h

/-- Cells written one behind the other. -/
def wrCells (w : World) (b o : Nat) : List Value → World
  | [] => w
  | u :: us => wrCells (w.setCell ⟨b, o, none⟩ u) b (o + 1) us
theorem cell_set {w : World} {b o q : Nat} {u v : Value} (h : w.cell? ⟨b, q, none⟩ = some v) : (w.setCell ⟨b, o, none⟩ u).cell? ⟨b, q, none⟩ = some (if q = o then u else v) := by
  unfold World.cell? World.setCell at *
  simp only [Array.getElem?_modify, if_true] at *
  cases hb : w.heap[b]? with
  | none => simp [hb] at h
  | some x =>
    cases x <;> simp [hb] at h ⊢
    rename_i c e f
    by_cases hq : q = o
    · subst hq
      have hlt := (Array.getElem?_eq_some_iff.1 h).1
      simp [hlt]
    · simp [Array.getElem?_setIfInBounds_ne (Ne.symm hq), hq, h]
theorem wrCells_cell {b q : Nat} : ∀ (us : List Value) (w : World) (o : Nat) (v : Value), w.cell? ⟨b, q, none⟩ = some v →
    (wrCells w b o us).cell? ⟨b, q, none⟩ = some (if o ≤ q ∧ q < o + us.length then us.getD (q - o) undef else v)
  | [], w, o, v, h => by
    rw [wrCells, if_neg (by simp <;> omega)]; exact h
  | u :: us, w, o, v, h => by
    rw [wrCells, wrCells_cell us _ (o + 1) _ (cell_set h)]
    congr 1
    by_cases h1 : q = o
    · subst h1
      rw [if_neg (by omega), if_pos rfl, if_pos (by simp)]; simp
    · by_cases h2 : o + 1 ≤ q ∧ q < o + 1 + us.length
      · rw [if_pos h2, if_pos (by simp only [List.length_cons]; omega)]
        have : q - o = (q - (o + 1)) + 1 := by omega
        rw [this]; simp
      · rw [if_neg h2, if_neg h1, if_neg (by simp only [List.length_cons]; omega)]
theorem wrCells_only {F : List Nat} {b : Nat} (hb : b ∈ F) : ∀ (us : List Value) (w : World) (o : Nat), Only F w (wrCells w b o us)
  | [], w, o => Only.refl F w
  | u :: us, w, o => ((Only.refl F w).setCell hb u).trans (wrCells_only hb us _ (o + 1))

/-- Element i is another. Its own blocks are f. -/
theorem Sl.upd {α : Type} [Rd α] {w : World} {a : Option Addr} {len cap : Nat} {l : List α} {F : List Nat} (h : Sl w a len cap l F) (hnd : F.Nodup) (hpos : 0 < Rd.k α) {i : Nat} (hi : i < len) :
    ∃ b off x cs f, a = some ⟨b, off, none⟩ ∧ l[i]? = some x ∧ rd w cs x f ∧ b ∈ F ∧ b ∉ f ∧ f.Nodup ∧ (∀ b' ∈ f, b' ∈ F) ∧
      (∀ (j : Nat) (u : Value), cs[j]? = some u → w.cell? ⟨b, off + i * Rd.k α + j, none⟩ = some u) ∧
      ∀ (w' : World) (cs' : List Value) (y : α), rd w' cs' y f → (∀ b' ∈ F, b' ≠ b → b' ∉ f → w'.heap[b']? = w.heap[b']?) →
        (∀ (q : Nat) (v : Value), w.cell? ⟨b, q, none⟩ = some v → w'.cell? ⟨b, q, none⟩ = some (if off + i * Rd.k α ≤ q ∧ q < off + i * Rd.k α + cs'.length then cs'.getD (q - (off + i * Rd.k α)) undef else v)) →
        Sl w' a len cap (l.set i y) F := by
  obtain ⟨h1, h2, h3, css, Fs, h4, h5, h6, h7⟩ := h
  rcases h7 with ⟨h0, _⟩ | ⟨b, off, ha, rfl, hlt, hcell⟩
  · omega
  have hnd' := List.nodup_cons.1 hnd
  have hx : l[i]? = some (l[i]'(by omega)) := List.getElem?_eq_getElem _
  have hcs : css[i]? = some (css[i]'(by omega)) := List.getElem?_eq_getElem _
  have hf : Fs[i]? = some (Fs[i]'(by omega)) := List.getElem?_eq_getElem _
  have hsub : ∀ b' ∈ Fs[i]'(by omega), b' ∈ Fs.flatten := fun b' hb' => List.mem_flatten.2 ⟨_, List.getElem_mem _, hb'⟩
  have hpw := List.pairwise_flatten.1 hnd'.2
  refine ⟨b, off, _, _, _, ha, hx, h6 i _ _ _ hx hcs hf, by simp, fun hb => hnd'.1 (hsub b hb), hpw.1 _ (List.getElem_mem _), fun b' hb' => List.mem_cons_of_mem _ (hsub b' hb'),
    fun j u hu => hcell i _ j u hcs hu, ?_⟩
  intro w' cs' y hr hoth hrow
  have hlen' : cs'.length = Rd.k α := Rd.len hr
  refine ⟨by simp [h1], h2, h3, css.set i cs', Fs, by simp [h4], h5, ?_, .inr ⟨b, off, ha, rfl, ?_, ?_⟩⟩
  · intro j z cs f hz hcs' hf'
    by_cases hji : j = i
    · subst hji
      have hz' : z = y := by simpa [List.getElem?_set_self, h1, hi] using hz.symm
      have hc' : cs' = cs := by simpa [List.getElem?_set_self, h4, hi] using hcs'
      rw [hf] at hf'
      cases hf'
      subst hz'; subst hc'
      exact hr
    · rw [List.getElem?_set_ne (Ne.symm hji)] at hz hcs'
      refine Rd.congr (h6 j z cs f hz hcs' hf') fun b' hb' => hoth b' (List.mem_cons_of_mem _ (List.mem_flatten.2 ⟨f, List.mem_of_getElem? hf', hb'⟩)) ?_ ?_
      · rintro rfl
        exact hnd'.1 (List.mem_flatten.2 ⟨f, List.mem_of_getElem? hf', hb'⟩)
      · intro hb''
        have hjl : j < Fs.length := (List.getElem?_eq_some_iff.1 hf').1
        have hfj : Fs[j] = f := (List.getElem?_eq_some_iff.1 hf').2
        have hp := List.pairwise_iff_getElem.1 hpw.2
        rcases Nat.lt_or_gt_of_ne hji with hlt' | hgt
        · have := hp j i hjl (by omega) hlt'
          exact this _ (by rw [hfj]; exact hb') _ hb'' rfl
        · have := hp i j (by omega) hjl hgt
          exact this _ hb'' _ (by rw [hfj]; exact hb') rfl
  · -- the block is still there
    have hk0 : 0 < (css[i]'(by omega)).length := by rw [Rd.len (h6 i _ _ _ hx hcs hf)]; exact hpos
    have hc := hcell i _ 0 _ hcs (List.getElem?_eq_getElem hk0)
    exact World.block_lt_of_cell? w' _ (hrow _ _ hc)
  · intro j cs j' u hcs' hu
    by_cases hji : j = i
    · subst hji
      have hc' : cs' = cs := by simpa [List.getElem?_set_self, h4, hi] using hcs'
      subst hc'
      have hj' : j' < cs'.length := (List.getElem?_eq_some_iff.1 hu).1
      have hj'' : j' < (css[j]'(by omega)).length := by rw [Rd.len (h6 j _ _ _ hx hcs hf), ← hlen']; exact hj'
      have := hrow _ _ (hcell j _ j' _ hcs (List.getElem?_eq_getElem hj''))
      rw [this, if_pos (by omega)]
      have e : off + j * Rd.k α + j' - (off + j * Rd.k α) = j' := by omega
      rw [e]
      simp [List.getD, hu]
    · rw [List.getElem?_set_ne (Ne.symm hji)] at hcs'
      have hc := hcell j cs j' u hcs' hu
      have hj' : j' < cs.length := (List.getElem?_eq_some_iff.1 hu).1
      have hjl : j < css.length := (List.getElem?_eq_some_iff.1 hcs').1
      have hcl : cs.length = Rd.k α := Rd.len (h6 j (l[j]'(by omega)) cs (Fs[j]'(by omega)) (List.getElem?_eq_getElem _) hcs' (List.getElem?_eq_getElem _))
      rw [hrow _ _ hc, if_neg]
      rw [hlen']
      intro ⟨g1, g2⟩
      rcases Nat.lt_or_gt_of_ne hji with hlt' | hgt
      · have := Nat.mul_le_mul_right (Rd.k α) (show j + 1 ≤ i by omega)
        rw [Nat.add_mul, Nat.one_mul] at this
        omega
      · have := Nat.mul_le_mul_right (Rd.k α) (show i + 1 ≤ j by omega)
        rw [Nat.add_mul, Nat.one_mul] at this
        omega
theorem Sl.write {α : Type} [Flat α] {w : World} {a : Option Addr} {len cap : Nat} {l : List α} {F : List Nat} (h : Sl w a len cap l F) (hnd : F.Nodup) (hpos : 0 < Flat.k α) {i : Nat} (hi : i < len) (y : α) {b off : Nat}
    (ha : a = some ⟨b, off, none⟩) : b ∈ F ∧ Sl (wrCells w b (off + i * Flat.k α) (Flat.enc y)) a len cap (l.set i y) F := by
  obtain ⟨b', off', x, cs, f, ha', hx, ⟨rfl, rfl⟩, hb, _, _, _, _, hup⟩ := h.upd hnd hpos hi
  rw [ha] at ha'
  cases ha'
  refine ⟨hb, hup _ (Flat.enc y) y ⟨rfl, rfl⟩ (fun b' hb' hne _ => ?_) (fun q v hv => wrCells_cell _ _ _ _ hv)⟩
  exact (wrCells_only (F := [b]) (by simp) (Flat.enc y) w (off + i * Flat.k α)).block b' (h.lt b' hb') (by simpa using hne)
/-- The first q are the marks; behind them what was there. -/
def markPre {α : Type} (m : Nat → α) (l : List α) (q : Nat) : List α := (List.range q).map m ++ l.drop q
theorem markPre_zero {α : Type} (m : Nat → α) (l : List α) : markPre m l 0 = l := by simp [markPre]
theorem markPre_set {α : Type} (m : Nat → α) {l : List α} {q : Nat} (h : q < l.length) : (markPre m l q).set q (m q) = markPre m l (q + 1) := by
  unfold markPre
  rw [List.set_append, if_neg (by simp), List.length_map, List.length_range, Nat.sub_self, List.drop_eq_getElem_cons h, List.set_cons_zero]
  simp [List.range_succ]
theorem markPre_all {α : Type} (m : Nat → α) {l : List α} {q : Nat} (h : l.length = q) : markPre m l q = (List.range l.length).map m := by
  simp [markPre, h, List.drop_eq_nil_of_le (show l.length ≤ q by omega)]
theorem markPre_length {α : Type} (m : Nat → α) {l : List α} {q : Nat} (h : q ≤ l.length) : (markPre m l q).length = l.length := by
  simp [markPre]; omega

/-! ### Where blocks lie -/
theorem inRange {α : Type} [Rd α] {w : World} {a : Option Addr} {len cap : Nat} {l : List α} {F : List Nat} (h : Sl w a len cap l F) : ∀ b ∈ F, 0 ≤ b ∧ b < w.heap.size := fun b hb => ⟨Nat.zero_le _, h.lt b hb⟩
theorem inOf {F : List Nat} {lo hi : Nat} {w : World} (h : ∀ b ∈ F, lo ≤ b ∧ b < hi ∧ Thaw w b) : ∀ b ∈ F, lo ≤ b ∧ b < hi := fun b hb => ⟨(h b hb).1, (h b hb).2.1⟩
theorem thOf {F : List Nat} {lo hi : Nat} {w : World} (h : ∀ b ∈ F, lo ≤ b ∧ b < hi ∧ Thaw w b) : ∀ b ∈ F, Thaw w b := fun b hb => (h b hb).2.2
theorem ndSplit {F G : List Nat} (h : (F ++ G).Nodup) : F.Nodup ∧ G.Nodup ∧ ∀ b ∈ F, b ∉ G :=
  let h := List.nodup_append.1 h
  ⟨h.1, h.2.1, fun b hb hc => h.2.2 b hb b hc rfl⟩
theorem apartL {F G : List Nat} {lo hi lo' hi' : Nat} (hF : ∀ b ∈ F, lo ≤ b ∧ b < hi) (hG : ∀ b ∈ G, lo' ≤ b ∧ b < hi') (h : hi ≤ lo' ∨ hi' ≤ lo) : ∀ b ∈ F, b ∉ G := fun b hb hc => by
  have := hF b hb
  have := hG b hc
  omega
end Go.Q
