/- Edges, batches, records written out: the plain law. -/
import Derived.Test.YtoealglkenhphaaDoorB80xb
import Derived.Test.YtoealglkenhphaaDoorB75xb
import Derived.Test.YtoealglkenhphaaDoorB03xb
set_option linter.unusedVariables false
set_option linter.unusedSimpArgs false
set_option maxHeartbeats 1000000
set_option maxRecDepth 100000
namespace Go.Q
open Go.D
def fmtEdge (e : TEdge) : List UInt8 := if edgeOk e 5 = true then numS e.ID ++ [58] ++ numS e.From ++ letS (2 * e.Label) ++ numS e.To else []
theorem edge_r {e : TEdge} (h : edgeOk e 5 = true) : (1 ≤ e.ID ∧ e.ID ≤ 99) ∧ (0 ≤ e.From ∧ e.From ≤ 4) ∧ (0 ≤ e.To ∧ e.To ≤ 4) ∧ 0 ≤ e.Label ∧ e.Label ≤ 2 := by
  unfold edgeOk at h
  simp only [inB, Bool.and_eq_true, decide_eq_true_eq] at h
  omega
theorem lab_abc {k : Int} (h0 : 0 ≤ k) (h2 : k ≤ 2) : (ByteArray.mk #[97, 98, 99]).extract k.toNat (k.toNat + 1) = bs (letS (2 * k)) := by
  have h3 : k = 0 ∨ k = 1 ∨ k = 2 := by omega
  rcases h3 with rfl | rfl | rfl <;> rfl
theorem fmtEdge_len {e : TEdge} : (fmtEdge e).length ≤ 8 := by
  unfold fmtEdge
  split
  · rename_i h
    have hr := edge_r h
    have h1 := numS_len (n := e.ID) (by omega)
    have h2 := numS_len (n := e.From) (by omega)
    have h3 := numS_len (n := e.To) (by omega)
    have h4 := letS_len (2 * e.Label)
    simp only [List.length_append, List.length_singleton]
    have h5 : (numS e.From).length ≤ 1 := by unfold numS; rw [dig_small (by omega)]; simp
    have h6 : (numS e.To).length ≤ 1 := by unfold numS; rw [dig_small (by omega)]; simp
    omega
  · simp
theorem fmtEdge_nil {e : TEdge} : fmtEdge e = [] ↔ edgeOk e 5 = false := by
  unfold fmtEdge
  by_cases h : edgeOk e 5 = true
  · rw [if_pos h, h]
    simp
  · rw [if_neg h]
    simpa using h
def fmtCh (c : TChange) : List UInt8 := (if c.Insert = true then [43] else [45]) ++ fmtEdge c.Edge
theorem fmtCh_len {c : TChange} : (fmtCh c).length ≤ 9 := by
  have := fmtEdge_len (e := c.Edge)
  unfold fmtCh
  rw [List.length_append]
  split <;> simp <;> omega
def batchOk (b : TBatch) : Bool := decide (b.Changes.length ≤ 6) && b.Changes.all fun c => edgeOk c.Edge 5
def fmtBatch (b : TBatch) : List UInt8 := if batchOk b = true then joinL [32] (b.Changes.map fmtCh) else []
theorem fmtBatch_len (b : TBatch) : (fmtBatch b).length ≤ 100 := by
  unfold fmtBatch
  split
  · rename_i h
    unfold batchOk at h
    simp only [Bool.and_eq_true, decide_eq_true_eq] at h
    have := joinL_len (sep := [32]) (b := 9) (f := fmtCh) (l := b.Changes) fun c _ => fmtCh_len
    simp at this; omega
  · simp
theorem batch_long {b : TBatch} (h : 6 < b.Changes.length) : fmtBatch b = [] := by
  unfold fmtBatch batchOk
  rw [if_neg (by simp; omega)]
theorem batch_bad {b : TBatch} {k : Nat} {c : TChange} (hc : b.Changes[k]? = some c) (h : fmtEdge c.Edge = []) : fmtBatch b = [] := by
  have h1 := fmtEdge_nil.1 h
  unfold fmtBatch batchOk
  rw [if_neg ?_]
  simp only [Bool.and_eq_true, List.all_eq_true, not_and]
  intro _ hh
  have := hh c (List.mem_of_getElem? hc)
  rw [h1] at this; cases this
theorem batch_all {b : TBatch} {k : Nat} (h6 : b.Changes.length ≤ 6) (hk : b.Changes.length ≤ k) (h : ∀ j c, j < k → b.Changes[j]? = some c → fmtEdge c.Edge ≠ []) : fmtBatch b = joinL [32] (b.Changes.map fmtCh) := by
  unfold fmtBatch batchOk
  rw [if_pos ?_]
  simp only [Bool.and_eq_true, decide_eq_true_eq, List.all_eq_true]
  refine ⟨h6, fun c hc => ?_⟩
  obtain ⟨j, hj⟩ := List.getElem?_of_mem hc
  have hl := (List.getElem?_eq_some_iff.1 hj).1
  have := h j c (by omega) hj
  rw [Ne, fmtEdge_nil] at this
  simpa using this
theorem batch_more {b : TBatch} {k : Nat} {x : TChange} (h : ∀ j c, j < k → b.Changes[j]? = some c → fmtEdge c.Edge ≠ []) (hx : b.Changes[k]? = some x) (hne : fmtEdge x.Edge ≠ []) : ∀ j c, j < k + 1 → b.Changes[j]? = some c → fmtEdge c.Edge ≠ [] := fun j c hj hc => by
  by_cases e : j = k
  · subst e; rw [hx] at hc; cases hc; exact hne
  · exact h j c (by omega) hc
theorem fmtCh_p {x : TChange} (h : x.Insert = true) : fmtCh x = [43] ++ fmtEdge x.Edge := by unfold fmtCh; rw [if_pos h]
theorem fmtCh_m {x : TChange} (h : x.Insert = false) : fmtCh x = [45] ++ fmtEdge x.Edge := by unfold fmtCh; rw [if_neg (by rw [h]; decide)]
theorem batch_txt {b : TBatch} {k : Nat} {x : TChange} {O : ByteArray} {s : List UInt8} (hx : b.Changes[k]? = some x) (he : O = bs (joinL [32] ((b.Changes.take k).map fmtCh))) (hk : k ≠ 0) (hs : fmtCh x = s ++ fmtEdge x.Edge) :
    ((O ++ bs [32]) ++ bs s) ++ bs (fmtEdge x.Edge) = bs (joinL [32] ((b.Changes.take (k + 1)).map fmtCh)) := by
  rw [joinL_at _ hx, if_neg hk, he, hs]
  simp [bs_append, List.append_assoc]
theorem batch_txt0 {b : TBatch} {k : Nat} {x : TChange} {O : ByteArray} {s : List UInt8} (hx : b.Changes[k]? = some x) (he : O = bs (joinL [32] ((b.Changes.take k).map fmtCh))) (hk : k = 0) (hs : fmtCh x = s ++ fmtEdge x.Edge) :
    (O ++ bs s) ++ bs (fmtEdge x.Edge) = bs (joinL [32] ((b.Changes.take (k + 1)).map fmtCh)) := by
  rw [joinL_at _ hx, if_pos hk, he, hs, hk]
  simp [bs_append, joinL_nil]
def recHead (v : Int) (b : TBatch) : List UInt8 := itoS v ++ [59] ++ fmtBatch b ++ [59]
def recOk (v : Int) (b : TBatch) : Bool := inB v 1 999 && !(decide (0 < b.Changes.length) && decide (fmtBatch b = []))
theorem rec_iff {v : Int} {b : TBatch} : recOk v b = true ↔ inB v 1 999 = true ∧ (bs (fmtBatch b) = bs [] → b.Changes = []) := by
  unfold recOk
  rw [Bool.and_eq_true]
  refine and_congr_right fun _ => ?_
  constructor
  · intro h e
    have e := bs_inj e
    simp only [e, decide_true, Bool.and_true, Bool.not_eq_true', decide_eq_false_iff_not] at h
    exact List.eq_nil_of_length_eq_zero (by omega)
  · intro h
    by_cases e : fmtBatch b = []
    · have := h (by rw [e])
      simp [this]
    · simp [e]
theorem rec_no {v : Int} {b : TBatch} (h : inB v 1 999 = false ∨ bs (fmtBatch b) = bs [] ∧ 0 < b.Changes.length) : ¬ recOk v b = true := fun hh => by
  obtain ⟨h1, h2⟩ := rec_iff.1 hh
  rcases h with h | ⟨h3, h4⟩
  · rw [h1] at h; cases h
  · rw [h2 h3] at h4; simp at h4
def encRec (v : Int) (b : TBatch) : List UInt8 := if recOk v b = true then recHead v b ++ itoS (chkS (recHead v b)) ++ [10] else []
theorem itoS_len {n : Int} (h0 : 0 ≤ n) (h : n < 1000000000) : (itoS n).length ≤ 9 := by
  unfold itoS Lib.itoa
  rw [if_neg (by omega)]
  exact (dig_le 9 n.toNat (by decide)).1 (by omega)
end Go.Q
