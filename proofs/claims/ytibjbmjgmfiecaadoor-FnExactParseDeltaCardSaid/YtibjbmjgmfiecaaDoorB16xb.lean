/- Sets of pairs: both texts. -/
import Derived.Test.YtibjbmjgmfiecaaDoorB15xb
set_option linter.unusedVariables false
set_option linter.unusedSimpArgs false
set_option maxHeartbeats 1000000
set_option maxRecDepth 100000
namespace Go.Q
open Go.D
def okP (p : TPair) : Bool := inB p.From 0 4 && inB p.To 0 4
def apAt (l : List TPair) (k : Nat) : Bool := match l[k]? with
  | some p => okP p && !(decide (0 < k) && !(pless (l[k - 1]?.getD default) p))
  | none => true
def arePairs (l : List TPair) : Bool := (List.range l.length).all (apAt l)
end Go.Q
namespace Go.Proofs.YtibjbmjgmfiecaaDoor
open Go.RowKit Go.Q Go.D
end Go.Proofs.YtibjbmjgmfiecaaDoor
