/- Regions that draw their order and hold one store that may come early. -/
import Derived.Test.YtoealglkenhphaaAbsExa
import Derived.Test.YtoealglkenhphaaAbs13xa
set_option linter.unusedVariables false
set_option linter.unusedSimpArgs false
namespace Go.Q
open Go.RowKit
section
variable {P : Program}
def disN : List Nat → Bool
  | [] => true
  | x :: l => l.all (fun y => !(Nat.beq x y)) && disN l
theorem Sup.sub0 {σ σ' : St} (hn : σ'.n = σ.n) (hs : SubS0 σ σ'.slots) (hr : SubR0 σ σ'.res) : Sup σ' σ := ⟨hn.symm, fun i x h => look_SubS0 hs i x h, fun i x h => look_SubR0 hr i x h⟩
def StepsF (P : Program) (ops : Array Oper) (B : Nat → List Nat) (outs : List Out) (X : Nat → Bool) (σ σ2 : St) : Nat → List Oper → List Out → Prop
  | i, o :: l, y :: r => Loc P ops o (stL (memN (B i)) 0 outs (bif X i then σ2 else σ)) y ∧ StepsF P ops B outs X σ σ2 (i + 1) l r
  | _, _, _ => True
theorem StepsF.at {ops : Array Oper} {B : Nat → List Nat} {outs : List Out} {X : Nat → Bool} {σ σ2 : St} : ∀ (l : List Oper) (r : List Out) (k : Nat), StepsF P ops B outs X σ σ2 k l r → ∀ i o y, l[i]? = some o → r[i]? = some y → Loc P ops o (stL (memN (B (k + i))) 0 outs (bif X (k + i) then σ2 else σ)) y
  | [], r, k, h, i, o, y, hl, hr => by simp at hl
  | o' :: l, [], k, h, i, o, y, hl, hr => by simp at hr
  | o' :: l, y' :: r, k, h, 0, o, y, hl, hr => by simp at hl hr; subst hl; subst hr; exact h.1
  | o' :: l, y' :: r, k, h, i + 1, o, y, hl, hr => by
    have := StepsF.at l r (k + 1) h.2 i o y (by simpa using hl) (by simpa using hr)
    rwa [show k + 1 + i = k + (i + 1) by omega] at this
end
end Go.Q
