import Derived.Test.YtamnfkfjfelbbaaB144xw
set_option linter.unusedVariables false
set_option linter.unusedSimpArgs false
set_option maxHeartbeats 1000000
set_option maxRecDepth 100000
namespace Go.Q
open Go.D
theorem condWit_ok (g : TGraph) (a : TAutomaton) (c x y : Int) : okWalk (condWit g a c x y).1 := by
 unfold condWit
 split
 · rename_i h
   obtain ⟨hg, ha, hx, hy⟩ := witOk_of h.1
   have h1 := distX_le ha hg (c := c) hx hy
   have h2 := gwS_len (g := g) (a := a) (c := c) (y := y) (distX g a c x y).toNat x (2 ^ a.Start.toNat)
   have h3 : (gwS g a c y (distX g a c x y).toNat x (2 ^ a.Start.toNat)).length ≤ 1048576 := by omega
   exact ⟨h3, trivial⟩
 · exact ⟨Nat.zero_le _, trivial⟩
end Go.Q
