/- From the form's own reading of an argument to trees. -/
import Derived.Test.YtibjbmjgmfiecaaDoorDataxb
import Derived.Deep.Slices
set_option linter.unusedVariables false
set_option linter.unusedSimpArgs false
namespace Go.Q
open Go.RowKit Go.ChangeShapes Go.WideShapes Go.Deep Go.D
/-- Whatever the form reads at the type t reads as the cells of a datum. -/
def OpensT {α : Type} (c : α → List T) (P : Program) (t : TypeId) : Prop :=
  ∀ {H : Type} {enc : TypeId × Value → H} {w : World} {base : Nat} {spare : Nat → Bool} {held : Bool} {fuel : Nat} {cs : List Value} {x : DataW H × List MemPlace},
    DataW.trod enc P w base spare held fuel t cs = some x → ∃ (a : α) (F : List Nat), Cs false w (c a) cs F
/-- An argument's value. -/
theorem OpensT.vl {α : Type} {c : α → List T} {P : Program} {t : TypeId} {v : Value} {H : Type} {enc : TypeId × Value → H} {w : World} {base : Nat} {spare : Nat → Bool} {held : Bool} {d : DataW H} {p : List MemPlace} (h : OpensT c P t)
    (hv : DataW.Trod enc P w base spare held t v d p) : ∃ (a : α) (F : List Nat), Cs false w (c a) v.cells.toList F := by
  obtain ⟨fuel, hf⟩ := hv
  exact h hf
end Go.Q
