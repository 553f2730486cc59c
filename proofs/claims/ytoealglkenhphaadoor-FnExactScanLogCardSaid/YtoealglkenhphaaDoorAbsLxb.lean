/- Drawn regions with new things and one store which one operation may follow. -/
import Derived.Test.YtoealglkenhphaaDoorAbsKxb
set_option linter.unusedVariables false
set_option linter.unusedSimpArgs false
namespace Go.Q
open Go.RowKit
section
variable {P : Program}
theorem Op1.le {ops : Array Oper} {o : Oper} {σ σ' σ2 : St} (h : Op1 P ops o σ σ2) (hs : Sup σ' σ2) : Op1 P ops o σ σ' := fun w0 a w hr K Q' hK => h w0 a w hr K Q' fun a' w' hr' => hK a' w' (Rel.of_look hr' hs.n.symm (fun t x h => hs.slots t x h) (fun t x h => hs.res t x h))
def FinS (P : Program) (w0 : Base) (Q : Exit → St → Prop) (M e : Nat) (B : Nat → List Nat) (l : List Oper) (n : Nat) (sl : List (Nat × (Bool × S))) (rs : List (Nat × R)) (outs : List Out) : Prop :=
  delS (outs.map (·.1)) sl = sl ∧ outB B ⟨n, sl, rs⟩ outs = true ∧ ∃ σA σ1 σF, (∀ o, l[M]? = some o → Op1 P l.toArray o (stL (fun _ => true) 0 outs ⟨n, sl, rs⟩) σA) ∧ (∀ o, l[M]? = some o → Op1 P l.toArray o (stL (fun j => !(Nat.beq j e)) 0 outs ⟨n, sl, rs⟩) σ1) ∧
  (∀ o, l[e]? = some o → Op1 P l.toArray o σ1 σF) ∧ Sup σF σA ∧ AWl P w0 l.toArray Q (l.drop (M + 1)) σF
theorem FinS.mk {w0 : Base} {Q : Exit → St → Prop} {M e : Nat} {B : Nat → List Nat} {l : List Oper} {n : Nat} {sl : List (Nat × (Bool × S))} {rs : List (Nat × R)} {outs : List Out} {oM oE : Oper} {σA σ1 σE : St} (σF : St) (hd : delS (outs.map (·.1)) sl = sl) (hU : outB B ⟨n, sl, rs⟩ outs = true) (hM : l[M]? = some oM) (hE : l[e]? = some oE)
    (hA : Op1 P l.toArray oM (stL (fun _ => true) 0 outs ⟨n, sl, rs⟩) σA) (h1 : Op1 P l.toArray oM (stL (fun j => !(Nat.beq j e)) 0 outs ⟨n, sl, rs⟩) σ1) (hEE : Op1 P l.toArray oE σ1 σE) (hF : Sup σF σA) (hF2 : Sup σF σE) (hfin : AWl P w0 l.toArray Q (l.drop (M + 1)) σF) : FinS P w0 Q M e B l n sl rs outs :=
  ⟨hd, hU, σA, σ1, σF, fun o h => by rw [hM] at h; cases h; exact hA, fun o h => by rw [hM] at h; cases h; exact h1, fun o h => by rw [hE] at h; cases h; exact hEE.le hF2, hF, hfin⟩
end
end Go.Q
