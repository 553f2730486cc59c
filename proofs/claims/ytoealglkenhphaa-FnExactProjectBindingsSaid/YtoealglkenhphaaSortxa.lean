/- slices.SortFunc of the kit's shelf, at rows of plain cells: as a function that puts rows in another order. -/
import Derived.Test.YtoealglkenhphaaAbsIxa
import Derived.Test.YtoealglkenhphaaB02xa
import Derived.Shelf.SlSortCmp.NoneTotal
import Derived.Shelf.Abstract
import Derived.Ground.SlsfProg
set_option linter.unusedVariables false
set_option linter.unusedSimpArgs false
namespace Go.Q
open Go.RowKit Go.Sort Go.Proofs
section
variable {P : Program}
theorem heap_mapBlock {w : World} {blk : Nat} {f : Array Value → Array Value} {c : Array Value} {e : TypeId} {fr : Nat × Nat} (hb : w.heap[blk]? = some (.cells c e fr)) : (mapBlock w blk f).heap[blk]? = some (.cells (f c) e fr) := by
  unfold mapBlock
  show (w.heap.modify blk (onCells f))[blk]? = _
  rw [Array.getElem?_modify, if_pos rfl, hb]
  rfl
theorem heap_mapBlock_other {w : World} {blk b : Nat} {f : Array Value → Array Value} (h : b ≠ blk) : (mapBlock w blk f).heap[b]? = w.heap[b]? := by
  unfold mapBlock
  show (w.heap.modify blk (onCells f))[b]? = _
  rw [Array.getElem?_modify, if_neg (fun e => h e.symm)]
end
end Go.Q
