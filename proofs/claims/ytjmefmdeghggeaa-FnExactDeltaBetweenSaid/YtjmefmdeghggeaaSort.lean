/- slices.SortFunc of the kit's shelf, at rows of plain cells: as a function that puts rows in another order. -/
import Derived.Test.YtjmefmdeghggeaaAbsI
import Derived.Test.YtjmefmdeghggeaaB02
import Derived.Shelf.SlSortCmp.NoneTotal
import Derived.Shelf.Abstract
import Derived.Ground.SlsfProg
set_option linter.unusedVariables false
set_option linter.unusedSimpArgs false
namespace Go.Q
open Go.RowKit Go.Sort Go.Proofs
section
variable {P : Program}
theorem heap_mapBlock {w : World} {blk : Nat} {f : Array Value → Array Value} {c : Array Value} {e : TypeId} {fr : Nat × Nat} (hb : w.heap[blk]? = some (.cells c e fr)) : (mapBlock w blk f).heap[blk]? = some (.cells (f c) e fr) := by
  unfold mapBlock
  show (w.heap.modify blk (onCells f))[blk]? = _
  rw [Array.getElem?_modify, if_pos rfl, hb]
  rfl
theorem heap_mapBlock_other {w : World} {blk b : Nat} {f : Array Value → Array Value} (h : b ≠ blk) : (mapBlock w blk f).heap[b]? = w.heap[b]? := by
  unfold mapBlock
  show (w.heap.modify blk (onCells f))[b]? = _
  rw [Array.getElem?_modify, if_neg (fun e => h e.symm)]
theorem flat_get {α : Type} [Inhabited α] {enc : α → List Value} {k : Nat} (hk : ∀ x, (enc x).length = k) : ∀ (l : List α) (t : Nat), t < l.length * k → ((l.map enc).flatten)[t]? = some ((enc (l[t / k]!))[t % k]!)
  | [], t, h => by simp at h
  | x :: l, t, h => by
    rw [List.map_cons, List.flatten_cons]
    rw [List.length_cons, Nat.succ_mul] at h
    have hk0 : 0 < k := by
      rcases Nat.eq_zero_or_pos k with e | e
      · subst e; omega
      · exact e
    by_cases ht : t < k
    · rw [List.getElem?_append_left (by rw [hk]; exact ht), Nat.div_eq_of_lt ht, Nat.mod_eq_of_lt ht]
      have : t < (enc x).length := by rw [hk]; exact ht
      rw [List.getElem?_eq_getElem this]
      simp [this]
    · rw [List.getElem?_append_right (by rw [hk]; omega), hk]
      have e1 : t / k = (t - k) / k + 1 := by
        conv => lhs; rw [show t = (t - k) + k by omega]
        rw [Nat.add_div_right _ hk0]
      have e2 : t % k = (t - k) % k := by
        conv => lhs; rw [show t = (t - k) + k by omega]
        rw [Nat.add_mod_right]
      rw [flat_get hk l (t - k) (by omega), e1, e2]
      simp
theorem FnS.ofK {α : Type} [Inhabited α] [DecidableEq α] {f : FuncId} {kv : Value} {k : Nat} {enc : α → List Value} {c : α → List T} {lt : α → α → Bool} (hcallee : Callee P f) (hc : ∀ x, c x = (enc x).map .v) (hk : ∀ x, (enc x).length = k) (h1 : ∀ x, ∀ v ∈ enc x, v.oneCell' = true) (S : List α → List α) (hS : ∀ l, (S l).length = l.length)
    (hnone : ∀ p cap w, Calls P f #[.slice p 0 cap, kv] w fun e w' => e = .returned (.tuple #[]) ∧ w' = w)
    (hsome : ∀ (blk cap : Nat) (d : Array α) (w : World), HoldsK enc k w blk 0 d → blk < w.heap.size → d.size < 4611686018427387904 → Calls P f #[.slice (some ⟨blk, 0, none⟩) d.size cap, kv] w fun e w' => e = .returned (.tuple #[]) ∧ ∃ n os, w' = sortWorldK enc k w blk 0 n (S d.toList).toArray os)
    (l : List α) (hl : l.length < 4611686018427387904) : FnS P f k (l.map c) kv ((S l).map c) := ⟨hcallee, fun w v F hC hnd hth => by
  have hcm : ∀ m : List α, (m.map c).flatten = ((m.map enc).flatten).map T.v := fun m => by
    rw [List.map_flatten, List.map_map]
    congr 1
    exact List.map_congr_left fun x _ => hc x
  have hrow : ∀ m : List α, ∀ r ∈ m.map c, r.length = k := fun m r hr => by
    obtain ⟨x, _, rfl⟩ := List.mem_map.1 hr
    rw [hc, List.length_map, hk]
  have hCc := hC
  simp only [C] at hCc
  obtain ⟨a0, n0, m0, rfl, _⟩ := hCc
  obtain ⟨e1, e2, e3⟩ := hC.hdr
  rw [List.length_map] at e1
  rcases hC.blk with ⟨q1, q2, q3⟩ | ⟨g, G, cur, e', rfl, rfl, q3, q4, q5⟩
  · have hl0 : l = [] := by simpa using q3
    subst hl0
    have hS0 : S [] = [] := List.eq_nil_of_length_eq_zero (by rw [hS]; rfl)
    subst e1
    refine (hnone a0 m0 w).mono fun e w' ⟨h1, h2⟩ => ?_
    subst h2
    rw [hS0]
    exact ⟨h1, Chg.refl _ _, F, hC, hnd, fun b hb => ⟨hb, hth b hb⟩⟩
  · obtain ⟨s1, xs, s2, s3, s4⟩ := q5.flat
    rw [hcm] at s2
    simp only [Nat.zero_add] at s4
    have hval : ∀ m : List α, ((m.map enc).flatten).all Value.oneCell' = true := fun m => by
      rw [List.all_eq_true]
      intro v hv
      rw [List.mem_flatten] at hv
      obtain ⟨r, hr, hv⟩ := hv
      obtain ⟨x, _, rfl⟩ := List.mem_map.1 hr
      exact h1 x v hv
    have hG : G = [] ∧ xs = (l.map enc).flatten := by
      have key : ∀ (vs : List Value) {cs : List Value} {G : List Nat}, Cs true w (vs.map T.v) cs G → G = [] ∧ cs = vs := by
        intro vs
        induction vs with
        | nil => intro cs G h; simp only [List.map_nil, Cs] at h; exact ⟨h.2, h.1⟩
        | cons v vs ih =>
          intro cs G h
          simp only [List.map_cons, Cs] at h
          obtain ⟨c1, cr, G1, G2, rfl, h2, h3, rfl⟩ := h
          simp only [C] at h2
          obtain ⟨rfl, rfl, _⟩ := h2
          obtain ⟨rfl, rfl⟩ := ih h3
          exact ⟨rfl, rfl⟩
      exact key _ s2
    obtain ⟨rfl, rfl⟩ := hG
    have hglt : g < w.heap.size := (Array.getElem?_eq_some_iff.1 q3).1
    have hH : HoldsK enc k w g 0 l.toArray := fun j hj => by
      rw [size_flatK] at hj
      rw [Nat.zero_add]
      refine ⟨?_, ?_⟩
      · have hj' : j < l.length * k := by simpa using hj
        rw [s4 j _ (flat_get hk l j hj'), get_flatK enc k l.toArray j hj]
        simp
      · simp [World.frozen?, q3]
    have hcall := hsome g m0 l.toArray w hH hglt (by simpa using hl)
    rw [List.size_toArray, e1] at hcall
    refine hcall.mono fun e w' hR => ?_
    obtain ⟨rfl, n, os, rfl⟩ := hR
    simp only [List.toList_toArray]
    have hsl := hS l
    generalize hd' : (S l).toArray = d'
    have hd's : d'.size = l.length := by rw [← hd']; simpa using hsl
    have hw1 : (sortWorldK enc k w g 0 n d' os).heap[g]? = some (.cells (putCells id 0 (flatK enc k d') cur) e' (0, 0)) := by
      unfold sortWorldK grow putRowK putRow
      show ((mapBlock (Go.Sort.ahead w n) g _).heap ++ os)[g]? = _
      have hm := heap_mapBlock (w := Go.Sort.ahead w n) (f := putCells id 0 (flatK enc k d')) q3
      rw [Array.getElem?_append_left (Array.getElem?_eq_some_iff.1 hm).1]
      exact hm
    have hw2 : ∀ b, b < w.heap.size → b ≠ g → (sortWorldK enc k w g 0 n d' os).heap[b]? = w.heap[b]? := fun b hb hne => by
      unfold sortWorldK grow putRowK putRow
      show ((mapBlock (Go.Sort.ahead w n) g _).heap ++ os)[b]? = _
      have hm := heap_mapBlock_other (w := Go.Sort.ahead w n) (f := putCells id 0 (flatK enc k d')) hne
      have hb' : b < (mapBlock (Go.Sort.ahead w n) g (putCells id 0 (flatK enc k d'))).heap.size := heap_lt hm hb
      rw [Array.getElem?_append_left hb']
      exact hm
    have hsz : (putCells id 0 (flatK enc k d') cur).size = m0 * k := by unfold putCells; simp [q4]
    have hch : Chg w (sortWorldK enc k w g 0 n d' os) [g] := ⟨rfl, rfl, rfl, by unfold sortWorldK; rw [size_grow]; unfold putRowK; rw [Go.Proofs.size_putRow]; exact Nat.le_add_right _ _, fun b hb hn => hw2 b hb (by simpa using hn)⟩
    have hH' : HoldsK enc k (sortWorldK enc k w g 0 n d' os) g 0 d' := holdsK_sortWorldK_c enc k w g 0 l.toArray d' n os hH hglt (by rw [hd's]; simp)
    refine ⟨trivial, hch, [g], ?_, by simp, fun b hb => ?_⟩
    · unfold C
      refine ⟨_, _, _, rfl, by rw [List.length_map, hsl, e1], e2, e3, .inr ⟨g, 0, [], rfl, rfl, (Array.getElem?_eq_some_iff.1 hw1).1, fun _ => ⟨rfl, _, e', hw1, hsz⟩, Rws.of (xs := ((S l).map enc).flatten) (hrow _) ?_ fun j u hj => ?_⟩⟩
      · rw [hcm]; exact Cs_vals (hval _)
      · have hjl : j < (S l).length * k := by
          have := (List.getElem?_eq_some_iff.1 hj).1
          have e : ∀ m : List α, ((m.map enc).flatten).length = m.length * k := fun m => by
            induction m with
            | nil => simp
            | cons x m ih => rw [List.map_cons, List.flatten_cons, List.length_append, ih, hk, List.length_cons, Nat.succ_mul]; omega
          rwa [e] at this
        have hjd : j < (flatK enc k d').size := by rw [size_flatK, hd's, ← hsl]; exact hjl
        have h5 := (hH' j hjd).1
        rw [flat_get hk _ j hjl] at hj
        cases hj
        rw [h5, get_flatK enc k d' j (by rw [hd's, ← hsl]; exact hjl), ← hd']
        simp
    · simp only [List.mem_singleton] at hb
      subst hb
      exact ⟨by simp, _, _, hw1⟩⟩
end
end Go.Q
