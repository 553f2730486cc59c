/- The library's strings and numbers, for the walks: what leans on the library's own variables. -/
import Derived.Test.YtibjbmjgmfiecaaDoorB80xa
import Derived.Test.YtibjbmjgmfiecaaDoorB74xa
import Derived.Shelf.Strings.SplitShaped
import Derived.Shelf.Strings.Shaped
import Derived.Shelf.Strings.Prefix
import Derived.Shelf.Small.Strs
set_option linter.unusedVariables false
set_option linter.unusedSimpArgs false
set_option maxHeartbeats 1000000
set_option maxRecDepth 100000
namespace Go.Q
open Go.RowKit
end Go.Q
namespace Go.Proofs.YtibjbmjgmfiecaaDoor
open Go.RowKit Go.Q Go.D Go.Shelf
shelf_lay LaysM.n171 Nm 171 at Tryd as Tryd.laysM171
theorem strconvItoaA (n : Int) (h0 : -9223372036854775808 ≤ n) (h1 : n ≤ 9223372036854775807) : FnT Tryd.prog 62 [.one (.v (.int .i64 n))] (.a (.one (.v (.string (bs (itoS n)))))) := by
  refine ⟨⟨_, Tryd.func62, by kernel_rfl, by kernel_rfl⟩, fun w vs F hG hv => ?_⟩
  obtain ⟨v1, vr, G1, G2, rfl, g1, ⟨rfl, rfl⟩, rfl⟩ := hv
  simp only [V0r, C] at g1
  obtain ⟨rfl, rfl, _⟩ := g1
  have htab : Lib.TabIs Tryd.prog w "internal/strconv.uint64pow10" .u64 Lib.pow10Tab := by
    obtain ⟨w0, ⟨_, h2⟩, h3⟩ := hG.ex
    have hg : Tryd.prog.globalNamed "internal/strconv.uint64pow10" = some ((Tryd.prog.globalNamed "internal/strconv.uint64pow10").getD 0) := by kernel_rfl
    have hl : (Tryd.prog.globalNamed "internal/strconv.uint64pow10").getD 0 < Tryd.prog.low := Nat.lt_trans (of_decide_eq_true (by kernel_rfl)) low_lt
    unfold Lib.TabIs World.var? at h2 ⊢
    rw [hg] at h2 ⊢
    simp only [Option.bind_some] at h2 ⊢
    rw [h3 _ hl]; exact h2
  have hcon := Any.strconv_Itoa Tryd.laysM171 n h0 h1 w htab
  change Calls Tryd.prog 62 _ _ _ at hcon
  refine hcon.mono ?_
  rintro e w' ⟨rfl, k, os, rfl⟩
  refine ⟨_, [], rfl, ?_, List.nodup_nil, by simp, ⟨rfl, rfl, rfl, (by show w.heap.size ≤ (w.heap ++ os).size; rw [Array.size_append]; omega), fun j hj => (by show (w.heap ++ os)[j]? = w.heap[j]?; exact Array.getElem?_append_left hj)⟩⟩
  simp [Vr, V0r, C]
  exact ⟨rfl, rfl⟩
end Go.Proofs.YtibjbmjgmfiecaaDoor
