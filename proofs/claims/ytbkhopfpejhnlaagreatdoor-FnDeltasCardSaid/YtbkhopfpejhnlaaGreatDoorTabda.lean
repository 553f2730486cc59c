import Derived.Test.YtbkhopfpejhnlaaGreatDoorProg
import Derived.Test.YtbkhopfpejhnlaaGreatDoorLibda
import Derived.ChangeAgain
import Derived.Lib.LaidTab
import Derived.Lib.ItoaNum
import Derived.HandedShaped
import Derived.LaidSub
set_option linter.unusedVariables false
set_option linter.unusedSimpArgs false
namespace Go.Q
open Go.RowKit
def GoodX (w : World) : Prop := w.ShapedOpen Go.Proofs.Tryz.prog ∧ (Lib.TabIs Go.Proofs.Tryz.prog w "internal/strconv.uint64pow10" .u64 Lib.pow10Tab) ∧ True
structure Good (w : World) (H : List Nat) : Prop where
 low : Go.Proofs.Tryz.prog.low ≤ w.heap.size
 ex : ∃ w0, GoodX w0 ∧ ∀ k, k < Go.Proofs.Tryz.prog.low → w.heap[k]? = w0.heap[k]?
 off : ∀ b ∈ H, Go.Proofs.Tryz.prog.low ≤ b
theorem Good.nil {w : World} {H : List Nat} (h : Good w H) : Good w [] := ⟨h.low, h.ex, fun _ hb => by cases hb⟩
theorem Good.step {w w' : World} {H G : List Nat} (h : Good w H) (hs : w.heap.size ≤ w'.heap.size) (hk : ∀ k, k < w.heap.size → k ∉ H → w'.heap[k]? = w.heap[k]?) (hG : ∀ b ∈ G, w.heap.size ≤ b ∨ b ∈ H) : Good w' G := by
 obtain ⟨w0, h0, h1⟩ := h.ex
 refine ⟨Nat.le_trans h.low hs, ⟨w0, h0, fun k hlt => (hk k (Nat.lt_of_lt_of_le hlt h.low) fun hm => by have := h.off k hm; omega).trans (h1 k hlt)⟩, fun b hb => ?_⟩
 rcases hG b hb with g | g
 · exact Nat.le_trans h.low g
 · exact h.off b g
theorem Good.ext {w w' : World} {H : List Nat} (h : Good w H) (hx : Ext w w') : Good w' [] :=
 h.nil.step hx.size (fun k hk _ => hx.block hk) fun _ hb => by cases hb
theorem Good.get {w : World} {H : List Nat} (h : Good w H) {k : Nat} {p : Option Obj → Prop} (hk : k < Go.Proofs.Tryz.prog.low) (hp : ∀ w0, GoodX w0 → p w0.heap[k]?) : p w.heap[k]? := by
 obtain ⟨w0, h0, h1⟩ := h.ex
 rw [h1 k hk]; exact hp w0 h0
theorem low_lt : Go.Proofs.Tryz.prog.globals.size < Go.Proofs.Tryz.prog.low := of_decide_eq_true (by kernel_rfl)
theorem good_of {w : World} (h : GoodX w) : Good w [] := by
 have e : Go.Proofs.Tryz.prog.low ≤ w.heap.size := by
  have hl := low_lt
  obtain ⟨o, _, h1, _⟩ := h.1.2 (Go.Proofs.Tryz.prog.low - 1) (by omega) (by show Go.Proofs.Tryz.prog.low - 1 < Go.Proofs.Tryz.prog.low; omega)
  have := (Array.getElem?_eq_some_iff.1 h1).1
  omega
 exact ⟨e, ⟨w, h, fun _ _ => rfl⟩, fun _ hb => by cases hb⟩
theorem frame_laid {H : Type} {enc : TypeId × Value → H} {C : Checked} {os : Os} {f : FuncId} {fn : Func} {s : ChangeSpec} {conds : List PathCond} {apart fresh handsOn again : Bool} {X : World → Prop}
 (hX : ∀ (w w' : World), w.heap = w'.heap → X w → X w')
 (own : ownKnob C.prog.godebug = none) (started : os.Started) (noInit : C.prog.inits.idxOf? f = none) (hfn : C.prog.funcs[f]? = some fn)
 (witness : ∃ (w : World) (tape : Tape) (i : Input), w.os = os ∧ (w.forCall tape i).Shaped C.prog ∧ i.vars = [] ∧ Input.okWide C.prog (w.forCall tape i) .any w.heap.size f i ∧
  ((s.pre enc C.prog fn conds apart (w.forCall tape i).memory i.args ∧ X (w.forCall tape i).memory) ∧ sizedMet enc C.prog fn (OpenSpec.ofChange s) apart (w.forCall tape i).memory i.args) ∧ ({} : Assume).holds C.prog (lone (Frame.enter C.prog f i.args .normal) [] (w.forCall tape i)))
 (contract : ∀ (W : World) (base : Nat) (args : Array Value) (ds gs : List (DataW H)) (before : List MemPlace),
  (∀ (j : Nat) t v, fn.params[j]? = some t → args[j]? = some v → Value.okWide C.prog W .any base t v) →
  DataW.Whole enc C.prog fn.params.toList s.vars apart W args.toList ds gs before →
  X W → W.ShapedOpen C.prog →
  Calls C.prog f args W fun e W' => ∃ v, e = .returned v ∧ s.post enc C.prog fn apart fresh handsOn again W args v W') :
 ReturnsInHanded {} C os f .any (fun w args => (s.pre enc C.prog fn conds apart w args ∧ X w) ∧ sizedMet enc C.prog fn (OpenSpec.ofChange s) apart w args) (s.post enc C.prog fn apart fresh handsOn again) := by
 refine returnsInHanded_of_calls own started noInit witness ?_
 intro w tape i _ hsh _ hok hpre _
 obtain ⟨_, _, _, fn', hfn', _, _, _, _, hval⟩ := hok
 have e : fn' = fn := Option.some.inj (hfn'.symm.trans hfn)
 subst e
 obtain ⟨⟨⟨ds, gs, before, hw, hc⟩, hx⟩, hz⟩ := hpre
 have hw' := DataW.Whole.of_heap (w' := w.forCall tape i) (by rfl) hw
 refine (contract (w.forCall tape i) w.heap.size i.args ds gs before hval hw' (hX _ _ (by rfl) hx) hsh).mono fun e W' ⟨v, he, hp⟩ => ?_
 subst he
 exact ChangeSpec.post_blind hp
theorem laid_one {P : Program} {w : World} {l : List (String × DataW Unit)} (n : String) {x : String × DataW Unit} (h : laidMet P l w) (e : (l.filter fun y => y.1 == n) = [x]) : laidMet P [x] w := by
 have := laidMet.filter (fun y => y.1 == n) h
 rw [e] at this; exact this
end Go.Q
