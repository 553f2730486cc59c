/- Drawn regions as a graph of states: one state for each set of operations that may be done, one step for each operation that may come next. -/
import Derived.Test.YtibjbmjgmfiecaaDoorAbsLxa
set_option linter.unusedVariables false
set_option linter.unusedSimpArgs false
namespace Go.Q
open Go.RowKit
section
variable {P : Program}
def EndQ (σt : St) : Exit → St → Prop
  | .normal, σ => Le σ σt
  | _, _ => False
theorem EndQ.run {ops : Array Oper} {o : Oper} {σ σt : St} (h : ∀ w0, AWl P w0 ops (EndQ σt) [o] σ) {w0 : Base} {a : Act} {w : World} (hr : Rel w0 σ a w) (K : Act → World → Prop) (Q : Exit → Act → World → Prop) (hK : ∀ a' w', Rel w0 σt a' w' → K a' w') :
    if Region.wanted o (yielded ops a.tmps) then o.wp P a w K Q else K (a.put o.dst undef) w := by
  have h1 := h w0 a w hr
  unfold wpList at h1
  have hN : ∀ a' w', wpList P ops (lift w0 (EndQ σt)) [] a' w' → K a' w' := fun a' w' h => by
    obtain ⟨σ', h2, h3⟩ := h
    exact hK a' w' (h2 w0 a' w' h3)
  have hF : ∀ e a' w', e ≠ Exit.normal → lift w0 (EndQ σt) e a' w' → False := fun e a' w' he h => by
    obtain ⟨σ', h2, h3⟩ := h
    cases e <;> first | exact he rfl | exact h2
  have hL : LetsOut (lift w0 (EndQ σt)) → False := fun ⟨a', w', h⟩ => hF _ a' w' (by simp) h
  split
  · rename_i hw
    rw [if_pos hw] at h1
    rcases h1 with h1 | ⟨_, h1⟩
    · unfold Oper.wp at *
      generalize (execOp a.eval o).run P w = r at *
      cases r with
      | ok n w' =>
        cases n <;> simp only [Oper.upon] at h1 ⊢ <;>
          first
            | exact hN _ _ h1
            | exact Calls.mono h1 (fun e w'' he => by cases e <;> first | exact hN _ _ he | exact (hL he).elim | exact (hF _ _ _ (by simp) he).elim)
            | exact Rows.mono h1 (fun _ _ he => hN _ _ he)
      | halt x w' => cases x <;> simp only [Oper.upon] at h1 ⊢ <;> first | exact h1.elim | exact (hF _ _ _ (by simp) h1).elim
    · exact (hL h1).elim
  · rename_i hw
    rw [if_neg hw] at h1
    exact hN _ _ h1
/-- The states got so far, the steps yet to be shown. -/
structure Dag (P : Program) (l : List Oper) (acc : List (Nat × St)) (es : List (Nat × Nat × Nat)) (Fin : (Nat → St) → Prop) : Prop where
  pf : ∃ st : Nat → St, (∀ k σ, look acc k = some σ → st k = σ) ∧ (∀ e ∈ es, ∀ o, l[e.2.1]? = some o → ∀ w0, AWl P w0 l.toArray (EndQ (st e.2.2)) [o] (st e.1)) ∧ Fin st
variable {l : List Oper} {acc : List (Nat × St)} {es : List (Nat × Nat × Nat)} {Fin : (Nat → St) → Prop}
theorem Dag.new {a i b : Nat} {σ σ' : St} {o : Oper} (ha : look acc a = some σ) (ho : l[i]? = some o) (hb : look acc b = none) (hE : ∀ w0, AWl P w0 l.toArray (EndQ σ') [o] σ) (h : Dag P l ((b, σ') :: acc) es Fin) : Dag P l acc ((a, i, b) :: es) Fin := by
  obtain ⟨st, h1, h2, h3⟩ := h.pf
  have hne : b ≠ a := fun e => by subst e; rw [hb] at ha; cases ha
  have h1' : ∀ k σ, look acc k = some σ → st k = σ := fun k σ hk => h1 k σ (by
    rw [look_cons, if_neg (fun e => ?_)]
    · exact hk
    · subst e; rw [hb] at hk; cases hk)
  refine ⟨st, h1', fun e he o' ho' w0 => ?_, h3⟩
  rcases List.mem_cons.1 he with rfl | he
  · simp only at ho' ⊢
    rw [ho] at ho'; cases ho'
    rw [h1' a σ ha, h1 b σ' (by rw [look_cons, if_pos rfl])]
    exact hE w0
  · exact h2 e he o' ho' w0
theorem Dag.old {a i b : Nat} {σ σ' : St} {o : Oper} (ha : look acc a = some σ) (ho : l[i]? = some o) (hb : look acc b = some σ') (hE : ∀ w0, AWl P w0 l.toArray (EndQ σ') [o] σ) (h : Dag P l acc es Fin) : Dag P l acc ((a, i, b) :: es) Fin := by
  obtain ⟨st, h1, h2, h3⟩ := h.pf
  refine ⟨st, h1, fun e he o' ho' w0 => ?_, h3⟩
  rcases List.mem_cons.1 he with rfl | he
  · simp only at ho' ⊢
    rw [ho] at ho'; cases ho'
    rw [h1 a σ ha, h1 b σ' hb]
    exact hE w0
  · exact h2 e he o' ho' w0
theorem Dag.fin {w0 : Base} {Q : Exit → St → Prop} {N k : Nat} {σ : St} (hk : look acc k = some σ) (h : AWl P w0 l.toArray Q (l.drop N) σ) : Dag P l acc [] (fun st => AWl P w0 l.toArray Q (l.drop N) (st k)) :=
  ⟨fun i => (look acc i).getD ⟨0, [], []⟩, fun i σ' hi => by simp [hi], fun e he => (by cases he), by simpa [hk] using h⟩
end
end Go.Q
