import Derived.Test.YtoealglkenhphaaGreatProg
import Derived.Test.YtoealglkenhphaaGreatLibxc
import Derived.ChangeAgain
import Derived.Lib.LaidTab
import Derived.Lib.ItoaNum
import Derived.HandedShaped
import Derived.LaidSub
set_option linter.unusedVariables false
set_option linter.unusedSimpArgs false
namespace Go.Q
open Go.RowKit
def GoodX (w : World) : Prop := w.ShapedOpen Go.Proofs.Tryz.prog ∧ True ∧ True
structure Good (w : World) (H : List Nat) : Prop where
 low : Go.Proofs.Tryz.prog.low ≤ w.heap.size
 ex : ∃ w0, GoodX w0 ∧ ∀ k, k < Go.Proofs.Tryz.prog.low → w.heap[k]? = w0.heap[k]?
 off : ∀ b ∈ H, Go.Proofs.Tryz.prog.low ≤ b
theorem Good.nil {w : World} {H : List Nat} (h : Good w H) : Good w [] := ⟨h.low, h.ex, fun _ hb => by cases hb⟩
theorem Good.step {w w' : World} {H G : List Nat} (h : Good w H) (hs : w.heap.size ≤ w'.heap.size) (hk : ∀ k, k < w.heap.size → k ∉ H → w'.heap[k]? = w.heap[k]?) (hG : ∀ b ∈ G, w.heap.size ≤ b ∨ b ∈ H) : Good w' G := by
 obtain ⟨w0, h0, h1⟩ := h.ex
 refine ⟨Nat.le_trans h.low hs, ⟨w0, h0, fun k hlt => (hk k (Nat.lt_of_lt_of_le hlt h.low) fun hm => by have := h.off k hm; omega).trans (h1 k hlt)⟩, fun b hb => ?_⟩
 rcases hG b hb with g | g
 · exact Nat.le_trans h.low g
 · exact h.off b g
theorem Good.ext {w w' : World} {H : List Nat} (h : Good w H) (hx : Ext w w') : Good w' [] :=
 h.nil.step hx.size (fun k hk _ => hx.block hk) fun _ hb => by cases hb
theorem Good.get {w : World} {H : List Nat} (h : Good w H) {k : Nat} {p : Option Obj → Prop} (hk : k < Go.Proofs.Tryz.prog.low) (hp : ∀ w0, GoodX w0 → p w0.heap[k]?) : p w.heap[k]? := by
 obtain ⟨w0, h0, h1⟩ := h.ex
 rw [h1 k hk]; exact hp w0 h0
theorem low_lt : Go.Proofs.Tryz.prog.globals.size < Go.Proofs.Tryz.prog.low := of_decide_eq_true (by kernel_rfl)
theorem good_of {w : World} (h : GoodX w) : Good w [] := by
 have e : Go.Proofs.Tryz.prog.low ≤ w.heap.size := by
  have hl := low_lt
  obtain ⟨o, _, h1, _⟩ := h.1.2 (Go.Proofs.Tryz.prog.low - 1) (by omega) (by show Go.Proofs.Tryz.prog.low - 1 < Go.Proofs.Tryz.prog.low; omega)
  have := (Array.getElem?_eq_some_iff.1 h1).1
  omega
 exact ⟨e, ⟨w, h, fun _ _ => rfl⟩, fun _ hb => by cases hb⟩
end Go.Q
