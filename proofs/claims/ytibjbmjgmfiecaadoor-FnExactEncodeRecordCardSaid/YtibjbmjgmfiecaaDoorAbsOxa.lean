/- Copying plain cells into a row of the call's own; numbers turned into other kinds. -/
import Derived.Test.YtibjbmjgmfiecaaDoorAbsNxa
import Derived.Laws.Cover3
set_option linter.unusedVariables false
set_option linter.unusedSimpArgs false
namespace Go.Q
open Go.RowKit
section
variable {P : Program} {ops : Array Oper} {o : Oper} {σ : St} {q : Bool}
/-- A number turned into another kind. -/
theorem R_conv {t t' : TypeId} {x : Operand} {k0 k : IntKind} {n m : Int} (ho : o.op = .convert t t' x) (hg : Grd ops o σ q) (hd : o.dst.all (fun d => Nat.blt d σ.n) = true) (hx : Get σ q x (.one (.t (.v (.int k0 n))))) (hu0 : (P.underlying t).isSome = true) (hu : P.underlying t' = some (.int k)) (hm : q = true → k.wrap n = m) :
    Op1 P ops o σ (σ.put o.dst (q, .a (.one (.t (.v (.int k m)))))) :=
  .val hg hd fun I w0 a w hr hq => by
    have hv := hx.int hr hq
    obtain ⟨u0, hu0⟩ := Option.isSome_iff_exists.1 hu0
    exact ⟨_, by simp [execOp, ho, hv, Go.convert, run_underlying hu0, run_underlying hu, Conv.intToInt, hm hq], VS_v _⟩
end
end Go.Q
