/- Two names of a state exchanged: what holds stays. Exits that end a round. -/
import Derived.Test.YtoealglkenhphaaNilxa
set_option linter.unusedVariables false
set_option linter.unusedSimpArgs false
namespace Go.Q
open Go.RowKit
section
variable {u v : Nat} {I : Ip} {w : World}
end
theorem Le.trans {σ σ' σ'' : St} (h1 : Le σ σ') (h2 : Le σ' σ'') : Le σ σ'' := fun w0 a w h => h2 w0 a w (h1 w0 a w h)
section
variable {Q : Exit → St → Prop} {σ : St}
theorem ThenQ.ex {K : St → Prop} {i : Nat} (h : Q (.exit i) σ) : ThenQ K Q (.exit i) σ := h
theorem Round1.ex {β1 : Type} {Inv : β1 → Prop} {J : β1 → St} {m : β1 → Nat} {a1 : β1} {i : Nat} (h : Q (.exit i) σ) : Round1 Inv J m a1 Q (.exit i) σ := h
theorem Round2.ex {β1 β2 : Type} {Inv : β1 → β2 → Prop} {J : β1 → β2 → St} {m : β1 → β2 → Nat} {a1 : β1} {a2 : β2} {i : Nat} (h : Q (.exit i) σ) : Round2 Inv J m a1 a2 Q (.exit i) σ := h
theorem Round3.ex {β1 β2 β3 : Type} {Inv : β1 → β2 → β3 → Prop} {J : β1 → β2 → β3 → St} {m : β1 → β2 → β3 → Nat} {a1 : β1} {a2 : β2} {a3 : β3} {i : Nat} (h : Q (.exit i) σ) : Round3 Inv J m a1 a2 a3 Q (.exit i) σ := h
theorem Round4.ex {β1 β2 β3 β4 : Type} {Inv : β1 → β2 → β3 → β4 → Prop} {J : β1 → β2 → β3 → β4 → St} {m : β1 → β2 → β3 → β4 → Nat} {a1 : β1} {a2 : β2} {a3 : β3} {a4 : β4} {i : Nat} (h : Q (.exit i) σ) : Round4 Inv J m a1 a2 a3 a4 Q (.exit i) σ := h
theorem Round5.ex {β1 β2 β3 β4 β5 : Type} {Inv : β1 → β2 → β3 → β4 → β5 → Prop} {J : β1 → β2 → β3 → β4 → β5 → St} {m : β1 → β2 → β3 → β4 → β5 → Nat} {a1 : β1} {a2 : β2} {a3 : β3} {a4 : β4} {a5 : β5} {i : Nat} (h : Q (.exit i) σ) : Round5 Inv J m a1 a2 a3 a4 a5 Q (.exit i) σ := h
end
section
variable {P : Program} {ops : Array Oper} {o : Oper} {σ : St} {q : Bool}
end
end Go.Q
