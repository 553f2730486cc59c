/- Merged texts. -/
import Derived.Test.YtoealglkenhphaaDoorAbsGxb
set_option linter.unusedVariables false
set_option linter.unusedSimpArgs false
namespace Go.Q
open Go.RowKit
section
variable {P : Program} {ops : Array Oper} {o : Oper} {σ : St} {q : Bool}
theorem C.hdr {o : Bool} {w : World} {k : Nat} {rows : List (List T)} {a : Option Addr} {n m : Nat} {F : List Nat} (h : C o w (.sl k rows) (.slice a n m) F) : rows.length = n ∧ n ≤ m ∧ m ≤ maxLen := by
  simp only [C] at h
  obtain ⟨a', n', m', e, h1, h2, h3, _⟩ := h
  cases e
  exact ⟨h1, h2, h3⟩
/-- An operation that may leave one of several states. -/
def OpE (P : Program) (ops : Array Oper) (o : Oper) (σ : St) (Φ : St → Prop) : Prop := ∀ w0 a w, Rel w0 σ a w → ∀ (K : Act → World → Prop) (Q : Exit → Act → World → Prop), (∀ σ' a' w', Φ σ' → Rel w0 σ' a' w' → K a' w') →
  if Region.wanted o (yielded ops a.tmps) then o.wp P a w K Q else K (a.put o.dst undef) w
theorem OpE.eff {Φ : St → Prop} (hg : o.guard = none) (h : ∀ w0 a w, Rel w0 σ a w → ∃ v w' σ', (execOp a.eval o).run P w = .ok (.value v) w' ∧ Φ σ' ∧ Rel w0 σ' (a.put o.dst v) w') : OpE P ops o σ Φ := by
  intro w0 a w hr K Q hK
  simp only [Region.wanted, hg, if_true]
  obtain ⟨v, w', σ', h1, h2, h3⟩ := h w0 a w hr
  unfold Oper.wp
  rw [h1]
  exact hK _ _ _ h2 h3
theorem AWl.opE {w0 : Base} {Q : Exit → St → Prop} {l : List Oper} {Φ : St → Prop} (ho : OpE P ops o σ Φ) (h : ∀ σ', Φ σ' → AWl P w0 ops Q l σ') : AWl P w0 ops Q (o :: l) σ := fun a w hr =>
  wpList_step fun K hK => ho w0 a w hr K _ fun σ' a' w' hφ hr' => hK a' w' (h σ' hφ a' w' hr')
variable {w0 : Base} {Q : Exit → St → Prop} {n : Nat} {sl : List (Nat × (Bool × S))} {rs : List (Nat × R)} {l : List Oper}
end
end Go.Q
set_option linter.unusedVariables false
set_option linter.unusedSimpArgs false
namespace Go.Q
open Go.RowKit
section
variable {P : Program} {ops : Array Oper} {o : Oper} {σ : St} {q : Bool}
theorem R_load_prq {id k i p : Nat} {t : TypeId} {x : Operand} {rows : List (List T)} {row : List T} {ag : Bool} {n : Nat} (ho : o.op = .load t x) (hg : Grd ops o σ q) (hd : o.dst.all (fun d => Nat.blt d σ.n) = true) (hx : Get σ q x (.one (.pr id k i p))) (hs : look σ.res id = some (.row k rows)) (hi : q = true → rows[i]? = some row) (ht : tyB P t ag n = true)
    (hn : Nat.ble (p + n) row.length = true) (h1 : (ag || Nat.beq n 1) = true) : Op1 P ops o σ (σ.put o.dst (q, .a (mkA ag (((row.drop p).take n).map (toE id))))) := by
  cases q with
  | true => exact R_load_pr ho hg hd hx hs (hi rfl) ht hn h1
  | false => exact .val hg hd fun I w0 a w hr hq => by cases hq
theorem isV_map {α : Type} {f : α → List T} (h : ∀ x, (f x).all T.isV = true) : ∀ l : List α, (l.map f).flatten.all T.isV = true
  | [] => rfl
  | x :: l => by rw [List.map_cons, List.flatten_cons, List.all_append, h x, isV_map h l]; rfl
theorem isV_part {α : Type} {f : α → List T} (h : ∀ x, (f x).all T.isV = true) (l : List α) (n m : Nat) : (((l.map f).take m).drop n).flatten.all T.isV = true := by
  rw [← List.map_take, ← List.map_drop]; exact isV_map h _
end
end Go.Q
