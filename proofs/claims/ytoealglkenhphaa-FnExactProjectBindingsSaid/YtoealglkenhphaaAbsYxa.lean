/- A call that uses up several things of the state's own. -/
import Derived.Test.YtoealglkenhphaaAbsXxa
set_option linter.unusedVariables false
set_option linter.unusedSimpArgs false
namespace Go.Q
open Go.RowKit
section
variable {P : Program} {ops : Array Oper} {o : Oper} {σ : St}
inductive GetL (σ : St) : List Operand → List E → Prop where
  | nil : GetL σ [] []
  | cons {x : Operand} {e : E} {l : List Operand} {es : List E} (hx : Get σ true x (.one e)) (h : GetL σ l es) : GetL σ (x :: l) (e :: es)
theorem GetL.ves {I : Ip} {w0 : Base} {w : World} {a : Act} (hr : RelI I w0 σ a w) {l : List Operand} {es : List E} (h : GetL σ l es) : VEs I w es (l.map a.eval) := by
  induction h with
  | nil => rfl
  | cons hx h ih => exact ⟨_, _, rfl, hx.va hr rfl, ih⟩
def ownAll (ts : List T) : List (Bool × V0) := ts.map fun t => (true, .one t)
theorem V0c_all {w : World} {FF : List Nat} : ∀ {ts : List T} {cs : List Value} {G : List Nat}, Cs true w ts cs G → V0c w FF (ownAll ts) cs G
  | [], cs, G, h => by simp only [Cs] at h; exact h
  | t :: ts, cs, G, h => by
    simp only [Cs] at h
    obtain ⟨c, cr, G1, G2, rfl, h1, h2, rfl⟩ := h
    exact ⟨c, cr, G1, G2, rfl, h1, V0c_all h2, by simp⟩
theorem R_consumeL {f : FuncId} {l : List Operand} {tys : Array TypeId} {es : List E} {ts : List T} {out : V} {σ' : St} {y : S} {rs : List (Nat × R)} (n : Nat) (h : FnC P f (ownAll ts) out) (ho : o.op = .call { callee := .value (.func f), args := l.toArray, argTypes := tys }) (hg : o.guard = none) (hd : o.dst.all (fun d => Nat.blt d σ.n) = true)
    (hx : GetL σ l es) (ha : absorb σ es = some (σ', ts)) (hout : outV n out = some (y, rs)) (hf : (rs.all fun x => !σ'.has x.1) = true) : Op1 P ops o σ ((σ'.adds rs).put o.dst (true, y)) := by
  rintro w0 a w ⟨I, hr⟩ K Q hK
  simp only [Region.wanted, hg, if_true]
  obtain ⟨I', G, r1, r2, r3, r4, _⟩ := RelI.absorb ha hr (hx.ves hr)
  have hc : V0c w G (ownAll ts) (l.map a.eval) G := V0c_all r2
  unfold Oper.wp
  rw [run_enter h.1 ho]
  refine (h.2 w _ G (r1.goodF fun b hb => (r4 b hb).1) hc r3 fun b hb => (r4 b hb).2.2.1).mono fun e w' hR => ?_
  obtain ⟨v, F', rfl, h1, h2, h3, h4⟩ := hR
  have r1' := r1.chgF r4 h4
  have hfree : ∀ b ∈ F', Free I' w0 w' b := fun b hb => by
    rcases (h3 b hb).1 with g | g
    · exact ⟨.inl (Nat.le_trans r1.ext.size g), Vr.lt h1 b hb, (h3 b hb).2, fun hz => by have := r1.old b hz; omega, fun i hi => by have := (r1.lt i b hi).1; omega⟩
    · exact ⟨(r4 b g).1, Vr.lt h1 b hb, (h3 b hb).2, (r4 b g).2.2.2.1, (r4 b g).2.2.2.2⟩
  obtain ⟨I2, g1, g2⟩ := outV_ok hout hf r1' h1 h2 hfree
  refine hK _ _ ⟨I2, g1.put ?_ g2⟩
  have e1 : (σ'.adds rs).n = σ'.n := adds_n rs
  rw [e1, absorb_n ha]; exact hd
end
end Go.Q
