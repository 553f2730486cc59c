/- Merged texts. -/
import Derived.Test.YtbfejakbaijmhaaAbsOxc
import Derived.Test.YtbfejakbaijmhaaTrxc
import Derived.Test.YtbfejakbaijmhaaB42xc
import Derived.Test.YtbfejakbaijmhaaB19xc
import Derived.Test.YtbfejakbaijmhaaB18xc
import Derived.Test.YtbfejakbaijmhaaB05xc
import Derived.Test.YtbfejakbaijmhaaB54xc
import Derived.Test.YtbfejakbaijmhaaB24xc
import Derived.Test.YtbfejakbaijmhaaB38xc
set_option linter.unusedVariables false
set_option linter.unusedSimpArgs false
namespace Go.Q
open Go.RowKit
section
variable {P : Program}
/-- The entries of the graph yet to be shown. -/
structure MixD (P : Program) (l : List Oper) (n : Nat) (sl : List (Nat × (Bool × S))) (rs : List (Nat × R)) (outs : List Out) (acc : List (Nat × St)) (todo : List (Nat × List Nat)) (es : List (Nat × Nat × Nat)) (Fin : (Nat → St) → Prop) : Prop where
  pf : ∃ st : Nat → St, (∀ k σ, look acc k = some σ → st k = σ) ∧ (∀ p ∈ todo, Le (stL (memN p.2) 0 outs ⟨n, sl, rs⟩) (st p.1)) ∧ (∀ e ∈ es, ∀ o, l[e.2.1]? = some o → ∀ w0, AWl P w0 l.toArray (EndQ (st e.2.2)) [o] (st e.1)) ∧ Fin st
variable {l : List Oper} {n : Nat} {sl : List (Nat × (Bool × S))} {rs : List (Nat × R)} {outs : List Out} {acc : List (Nat × St)} {todo : List (Nat × List Nat)} {es : List (Nat × Nat × Nat)} {Fin : (Nat → St) → Prop}
theorem MixD.add {b : Nat} {S : List Nat} (σ' : St) (hb : look acc b = none) (hle : Le (stL (memN S) 0 outs ⟨n, sl, rs⟩) σ') (h : MixD P l n sl rs outs ((b, σ') :: acc) todo es Fin) : MixD P l n sl rs outs acc ((b, S) :: todo) es Fin := by
  obtain ⟨st, h1, h2, h3⟩ := h.pf
  have h1' : ∀ k σ, look acc k = some σ → st k = σ := fun k σ hk => h1 k σ (by
    rw [look_cons, if_neg (fun e => ?_)]
    · exact hk
    · subst e; rw [hb] at hk; cases hk)
  refine ⟨st, h1', fun p hp => ?_, h3⟩
  rcases List.mem_cons.1 hp with rfl | hp
  · show Le _ (st b)
    rw [h1 b σ' (by rw [look_cons, if_pos rfl])]
    exact hle
  · exact h2 p hp
theorem MixD.go (h : Dag P l acc es Fin) : MixD P l n sl rs outs acc [] es Fin := by
  obtain ⟨st, h1, h2, h3⟩ := h.pf
  exact ⟨st, h1, fun p hp => (by cases hp), h2, h3⟩
def FinX (P : Program) (w0 : Base) (Q : Exit → St → Prop) (N k : Nat) (B : Nat → List Nat) (es : List (Nat × Nat × Nat)) (todo : List (Nat × List Nat)) (l : List Oper) (n : Nat) (sl : List (Nat × (Bool × S))) (rs : List (Nat × R)) (outs : List Out) : Prop :=
  delS (outs.map (·.1)) sl = sl ∧ outB B ⟨n, sl, rs⟩ outs = true ∧ MixD P l n sl rs outs [] todo es (fun st => AWl P w0 l.toArray Q (l.drop N) (st k))
theorem FinX.mk {w0 : Base} {Q : Exit → St → Prop} {N k : Nat} {B : Nat → List Nat} (hd : delS (outs.map (·.1)) sl = sl) (hU : outB B ⟨n, sl, rs⟩ outs = true) (h : MixD P l n sl rs outs [] todo es (fun st => AWl P w0 l.toArray Q (l.drop N) (st k))) : FinX P w0 Q N k B es todo l n sl rs outs := ⟨hd, hU, h⟩
end
end Go.Q
set_option linter.unusedVariables false
set_option linter.unusedSimpArgs false
namespace Go.Q
open Go.RowKit
section
variable {u v : Nat} {I : Ip} {w : World}
end
theorem Le.trans {σ σ' σ'' : St} (h1 : Le σ σ') (h2 : Le σ' σ'') : Le σ σ'' := fun w0 a w h => h2 w0 a w (h1 w0 a w h)
section
variable {Q : Exit → St → Prop} {σ : St}
theorem ThenQ.ex {K : St → Prop} {i : Nat} (h : Q (.exit i) σ) : ThenQ K Q (.exit i) σ := h
theorem BlockQ.here {i : Nat} (h : Q .normal σ) : BlockQ i Q (.exit i) σ := by
  show (bif Nat.beq i i then Q .normal σ else Q (.exit i) σ)
  rw [Nat.beq_refl]; exact h
theorem BlockQ.past {i j : Nat} (hne : Nat.beq i j = false) (h : Q (.exit i) σ) : BlockQ j Q (.exit i) σ := by
  show (bif Nat.beq i j then Q .normal σ else Q (.exit i) σ)
  rw [hne]; exact h
theorem Round1.ex {β1 : Type} {Inv : β1 → Prop} {J : β1 → St} {m : β1 → Nat} {a1 : β1} {i : Nat} (h : Q (.exit i) σ) : Round1 Inv J m a1 Q (.exit i) σ := h
theorem Round2.ex {β1 β2 : Type} {Inv : β1 → β2 → Prop} {J : β1 → β2 → St} {m : β1 → β2 → Nat} {a1 : β1} {a2 : β2} {i : Nat} (h : Q (.exit i) σ) : Round2 Inv J m a1 a2 Q (.exit i) σ := h
theorem Round3.ex {β1 β2 β3 : Type} {Inv : β1 → β2 → β3 → Prop} {J : β1 → β2 → β3 → St} {m : β1 → β2 → β3 → Nat} {a1 : β1} {a2 : β2} {a3 : β3} {i : Nat} (h : Q (.exit i) σ) : Round3 Inv J m a1 a2 a3 Q (.exit i) σ := h
theorem Round4.ex {β1 β2 β3 β4 : Type} {Inv : β1 → β2 → β3 → β4 → Prop} {J : β1 → β2 → β3 → β4 → St} {m : β1 → β2 → β3 → β4 → Nat} {a1 : β1} {a2 : β2} {a3 : β3} {a4 : β4} {i : Nat} (h : Q (.exit i) σ) : Round4 Inv J m a1 a2 a3 a4 Q (.exit i) σ := h
theorem Round5.ex {β1 β2 β3 β4 β5 : Type} {Inv : β1 → β2 → β3 → β4 → β5 → Prop} {J : β1 → β2 → β3 → β4 → β5 → St} {m : β1 → β2 → β3 → β4 → β5 → Nat} {a1 : β1} {a2 : β2} {a3 : β3} {a4 : β4} {a5 : β5} {i : Nat} (h : Q (.exit i) σ) : Round5 Inv J m a1 a2 a3 a4 a5 Q (.exit i) σ := h
end
section
variable {P : Program} {ops : Array Oper} {o : Oper} {σ : St} {q : Bool}
end
end Go.Q
set_option linter.unusedVariables false
set_option linter.unusedSimpArgs false
namespace Go.Q
open Go.RowKit
end Go.Q
set_option linter.unusedVariables false
set_option linter.unusedSimpArgs false
set_option maxHeartbeats 1000000
set_option maxRecDepth 100000
namespace Go.Q
open Go.D
section
variable {E : Nat → List (Int × Int)} {G : Nat → Bool} {N : Nat} {O : List Int}
/-- The list that such a search ends with. -/
noncomputable def leastL (E : Nat → List (Int × Int)) (G : Nat → Bool) (N : Nat) : List Int :=
  open Classical in if h : ∃ O, CI E G N O ∧ ∀ i, i < N → ∀ e ∈ E i, fixd O i e then Classical.choose h else []
theorem leastL_eq (hE : ∀ i, i < N → ∀ e ∈ E i, 0 ≤ e.1 ∧ e.1 < N) (h : CI E G N O) (hf : ∀ i, i < N → ∀ e ∈ E i, fixd O i e) : leastL E G N = O := by
  have hx : ∃ O, CI E G N O ∧ ∀ i, i < N → ∀ e ∈ E i, fixd O i e := ⟨O, h, hf⟩
  unfold leastL
  rw [dif_pos hx]
  obtain ⟨h1, h2⟩ := Classical.choose_spec hx
  refine List.ext_getElem? fun i => ?_
  by_cases hi : i < N
  · have e := CI.same h1 h hE h2 hf hi
    have g1 := atI_get (out := Classical.choose hx) (k := (i : Int)) (by rw [h1.len]; simpa using hi)
    have g2 := atI_get (out := O) (k := (i : Int)) (by rw [h.len]; simpa using hi)
    simp only [Int.toNat_natCast] at g1 g2
    rw [g1, g2, e]
  · rw [List.getElem?_eq_none (by rw [h1.len]; omega), List.getElem?_eq_none (by rw [h.len]; omega)]
end
end Go.Q
set_option linter.unusedVariables false
set_option linter.unusedSimpArgs false
set_option maxHeartbeats 1000000
set_option maxRecDepth 100000
namespace Go.Q
open Go.D
end Go.Q
namespace Go.Proofs.Ytbfejakbaijmhaa
open Go.RowKit Go.Q Go.D
end Go.Proofs.Ytbfejakbaijmhaa
set_option linter.unusedVariables false
set_option linter.unusedSimpArgs false
set_option maxHeartbeats 1000000
set_option maxRecDepth 100000
namespace Go.Q
open Go.D
end Go.Q
namespace Go.Proofs.Ytbfejakbaijmhaa
open Go.RowKit Go.Q Go.D
end Go.Proofs.Ytbfejakbaijmhaa
set_option linter.unusedVariables false
set_option linter.unusedSimpArgs false
set_option maxHeartbeats 1000000
set_option maxRecDepth 100000
namespace Go.Q
open Go.D
end Go.Q
set_option linter.unusedVariables false
set_option linter.unusedSimpArgs false
set_option maxHeartbeats 1000000
set_option maxRecDepth 100000
namespace Go.Q
open Go.D
theorem CanR.congr {nx nx' : Nat → List Int} {G : Nat → Bool} {N : Nat} (hn : ∀ p, p < N → ∀ k ∈ nx p, 0 ≤ k ∧ k < (N : Int)) (he : ∀ p, p < N → nx p = nx' p) {i : Nat} (h : CanR nx G i) : i < N → CanR nx' G i := by
  induction h with
  | goal h => exact fun _ => .goal h
  | @step i z hz _ ih =>
    intro hi
    have hb := hn i hi z hz
    exact .step (by rw [← he i hi]; exact hz) (ih (by omega))
end Go.Q
namespace Go.Proofs.Ytbfejakbaijmhaa
open Go.RowKit Go.Q Go.D
set_option maxRecDepth 100000 in
theorem IndexFuncIntG (l : List Int) (f : FuncId) (caps : List T) (p : Int → Bool) (hp : ∀ e ∈ l, FrT Try.prog f ([.one (.v (.int .i64 e))] ++ caps.map .one) (.a (.one (.v (.bool (p e)))))) : FnT Try.prog 138 [.one (.sl 1 (l.map cInt)), .one (.fn (.func f) [] caps)] (.a (.one (.v (.int .i64 (findI p l 0))))) := by
  refine FnT.walk Try.func138 rfl (by kernel_rfl) Try.ntmps138 rfl fun hlen w0 => ?_
  try simp [cPair, cToken, cExpr, cEdge, cGraph, cStep, cWalk, cChange, cBatch, cHistory, cPositions, cAutomaton, cProductStep, cPathAtom, cConjunction, cView, cDelta, cRegistered, cRegistry] at hlen
  refine AW.seq ?_
  refine AW.region ?_
  refine AWl.put (R_assign rfl (.no rfl) rfl (.const rfl)) rfl ?_
  refine AWl.nil ?_
  refine AW.seq ?_
  refine AW.seq ?_
  refine AW.region ?_
  refine AWl.put (R_move rfl (.no rfl) rfl (.tmp rfl fun _ => rfl)) rfl ?_
  refine AWl.put ((by exact R_lenm rfl (.no rfl) rfl (.tmp rfl fun _ => rfl) (by exact .t) Try.underlying22)) rfl ?_
  refine AWl.put (R_move rfl (.no rfl) rfl (.const rfl)) rfl ?_
  refine AWl.nil ?_
  refine AW.block ?_
  refine AW.loop (β := Nat) (fun x => x ≤ (l).length ∧ ∀ j y, j < x → (l)[j]? = some y → (fun e => !p e) y = true) (fun x => ⟨_, [(8, (true, .a (.one (.t (.v (.int .i64 (x : Nat))))))), (0, _), (1, _), (7, _)], []⟩) (fun x => (l).length - x) (0) ⟨Nat.zero_le _, fun j y hj => absurd hj (Nat.not_lt_zero j)⟩ (Le.sub0 rfl ⟨rfl, rfl, rfl, rfl, trivial⟩ trivial) ?_
  intro k hk
  refine AW.seq ?_
  refine AW.region ?_
  refine AWl.put (R_lt rfl (.no rfl) rfl (.tmp rfl fun _ => rfl) (.tmp rfl fun _ => rfl)) rfl ?_
  refine AWl.nil ?_
  refine AW.seq ?_
  refine AW.cond (.tmp rfl fun _ => rfl) (fun hlt => ?_) (fun hlt => ?_)
  · skip
    try simp at hlt
    obtain ⟨x, hx⟩ : ∃ ξ, (l)[k]? = some ξ := ⟨_, List.getElem?_eq_getElem (by exact hlt)⟩
    refine AW.skip ?_
    refine AW.seq ?_
    refine AW.block ?_
    refine AW.seq ?_
    refine AW.region ?_
    refine AWl.put (R_move rfl (.no rfl) rfl (.tmp rfl fun _ => rfl)) rfl ?_
    refine AWl.put (R_assign rfl (.no rfl) rfl (.tmp rfl fun _ => rfl)) rfl ?_
    refine AWl.nil ?_
    refine AW.seq ?_
    refine AW.region ?_
    refine AWl.put (R_move rfl (.no rfl) rfl (.tmp rfl fun _ => rfl)) rfl ?_
    refine AWl.put (R_move rfl (.no rfl) rfl (.tmp rfl fun _ => rfl)) rfl ?_
    refine AWl.put (R_move rfl (.no rfl) rfl (.tmp rfl fun _ => rfl)) rfl ?_
    refine AWl.put ((by exact R_indexAddr rfl (.no rfl) rfl (.tmp rfl fun _ => rfl) (.tmp rfl fun _ => rfl) Try.underlying22 ty3 (fun _ => ⟨by omega, (by exact map_get (by assumption))⟩))) rfl ?_
    refine AWl.put ((by exact R_load rfl (.no rfl) rfl (.tmp rfl fun _ => rfl) ty3 rfl rfl)) rfl ?_
    refine AWl.put (R_callv rfl (.no rfl) rfl (.tmp rfl fun _ => rfl) (.cons (.tmp rfl fun _ => rfl) rfl .nil) (hp x (List.mem_of_getElem? hx))) rfl ?_
    refine AWl.nil ?_
    refine AW.cond (.tmp rfl fun _ => rfl) (fun h16 => ?_) (fun h16 => ?_)
    · skip
      try simp at h16
      refine AW.seq ?_
      refine AW.le (σ' := ⟨_, [(0, _), (1, _), (5, _), (7, _), (8, _)], []⟩) (Le.sub0 rfl ⟨rfl, rfl, rfl, rfl, rfl, trivial⟩ trivial) ?_
      refine AW.region ?_
      refine AWl.put (R_move rfl (.no rfl) rfl (.tmp rfl fun _ => rfl)) rfl ?_
      refine AWl.put (R_assign rfl (.no rfl) rfl (.tmp rfl fun _ => rfl)) rfl ?_
      refine AWl.nil ?_
      refine AW.ret ?_
      refine Res.v rfl rfl ?_
      rw [findI_at (k := k) hk.2 hx h16]; simp
    · skip
      try simp at h16
      refine AW.skip ?_
      refine AW.le (σ' := ⟨_, [(0, _), (1, _), (5, _), (7, _), (8, _)], []⟩) (Le.sub0 rfl ⟨rfl, rfl, rfl, rfl, rfl, trivial⟩ trivial) ?_
      refine AW.region ?_
      refine AWl.put (R_add rfl (.no rfl) rfl (.tmp rfl fun _ => rfl) (.const rfl) (fun _ => by omega)) rfl ?_
      refine AWl.put (R_move rfl (.no rfl) rfl (.tmp rfl fun _ => rfl)) rfl ?_
      refine AWl.nil ?_
      refine Round.next (k + 1) ⟨by omega, each_succ hk.2 hx (by simp [h16])⟩ (by omega) (Le.sub0 rfl ⟨rfl, rfl, rfl, rfl, trivial⟩ trivial)
  · skip
    try simp at hlt
    refine AW.exit ?_
    refine AW.seq ?_
    refine AW.region ?_
    refine AWl.put (R_assign rfl (.no rfl) rfl (.const rfl)) rfl ?_
    refine AWl.nil ?_
    refine AW.ret ?_
    refine Res.v rfl rfl ?_
    rw [findI_none hk.2 (by omega)]
set_option maxRecDepth 100000 in
theorem ContainsFuncIntG (l : List Int) (f : FuncId) (caps : List T) (p : Int → Bool) (hp : ∀ e ∈ l, FrT Try.prog f ([.one (.v (.int .i64 e))] ++ caps.map .one) (.a (.one (.v (.bool (p e)))))) : FnT Try.prog 77 [.one (.sl 1 (l.map cInt)), .one (.fn (.func f) [] caps)] (.a (.one (.v (.bool (l.any p))))) := by
  refine FnT.walk Try.func77 rfl (by kernel_rfl) Try.ntmps77 rfl fun hlen w0 => ?_
  try simp [cPair, cToken, cExpr, cEdge, cGraph, cStep, cWalk, cChange, cBatch, cHistory, cPositions, cAutomaton, cProductStep, cPathAtom, cConjunction, cView, cDelta, cRegistered, cRegistry] at hlen
  refine AW.seq ?_
  refine AW.region ?_
  refine AWl.put (R_assign rfl (.no rfl) rfl (.const rfl)) rfl ?_
  refine AWl.nil ?_
  refine AW.seq ?_
  refine AW.region ?_
  refine AWl.put (R_move rfl (.no rfl) rfl (.tmp rfl fun _ => rfl)) rfl ?_
  refine AWl.put (R_move rfl (.no rfl) rfl (.tmp rfl fun _ => rfl)) rfl ?_
  refine AWl.put (R_callz (FnT.fr (IndexFuncIntG _ _ _ _ hp)) rfl (.no rfl) rfl (.cons (.tmp rfl fun _ => rfl) rfl (.cons (.tmp rfl fun _ => rfl) rfl .nil))) rfl ?_
  refine AWl.put (R_ge rfl (.no rfl) rfl (.tmp rfl fun _ => rfl) (.const rfl)) rfl ?_
  refine AWl.put (R_assign rfl (.no rfl) rfl (.tmp rfl fun _ => rfl)) rfl ?_
  refine AWl.nil ?_
  refine AW.ret ?_
  refine Res.v rfl rfl ?_
  rw [findI_any]
end Go.Proofs.Ytbfejakbaijmhaa
