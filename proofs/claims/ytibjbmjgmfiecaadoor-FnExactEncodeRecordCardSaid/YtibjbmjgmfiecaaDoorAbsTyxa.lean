/- The facts of the types that the walks in abstract states ask for. -/
import Derived.Test.YtibjbmjgmfiecaaDoorDataxa
import Derived.Test.YtibjbmjgmfiecaaDoorProg
namespace Go.Proofs.YtibjbmjgmfiecaaDoor
open Go.RowKit Go.Q
theorem ty3 : tyB Tryd.prog 3 false 1 = true := by kernel_rfl
theorem ty4 : tyB Tryd.prog 4 false 1 = true := by kernel_rfl
theorem in5 : (Tryd.prog.info? 5).map (fun i => (i.zero, i.size, i.bytes)) = some (some (.int .u8 0), 1, 1) := by kernel_rfl
theorem ty9 : tyB Tryd.prog 9 false 1 = true := by kernel_rfl
theorem in9 : (Tryd.prog.info? 9).map (fun i => (i.zero, i.size, i.bytes)) = some (some (.string .empty), 1, 16) := by kernel_rfl
theorem ty22 : tyB Tryd.prog 22 false 1 = true := by kernel_rfl
theorem ty24 : tyB Tryd.prog 24 true 1 = true := by kernel_rfl
theorem fl24_0 : fldB Tryd.prog 24 0 0 = true := by kernel_rfl
theorem ty27 : tyB Tryd.prog 27 false 1 = true := by kernel_rfl
theorem ty29 : tyB Tryd.prog 29 true 1 = true := by kernel_rfl
theorem in29 : (Tryd.prog.info? 29).map (fun i => (i.zero, i.size, i.bytes)) = some (some (.agg #[.slice none 0 0]), 1, 24) := by kernel_rfl
theorem fl29_0 : fldB Tryd.prog 29 0 0 = true := by kernel_rfl
theorem ty79 : tyB Tryd.prog 79 true 4 = true := by kernel_rfl
theorem in79 : (Tryd.prog.info? 79).map (fun i => (i.zero, i.size, i.bytes)) = some (some (.agg #[.int .i64 0, .int .i64 0, .int .i64 0, .int .i64 0]), 4, 32) := by kernel_rfl
theorem fl79_0 : fldB Tryd.prog 79 0 0 = true := by kernel_rfl
theorem fl79_1 : fldB Tryd.prog 79 1 1 = true := by kernel_rfl
theorem fl79_2 : fldB Tryd.prog 79 2 2 = true := by kernel_rfl
theorem fl79_3 : fldB Tryd.prog 79 3 3 = true := by kernel_rfl
theorem ty81 : tyB Tryd.prog 81 true 5 = true := by kernel_rfl
theorem in81 : (Tryd.prog.info? 81).map (fun i => (i.zero, i.size, i.bytes)) = some (some (.agg #[.bool false, .int .i64 0, .int .i64 0, .int .i64 0, .int .i64 0]), 5, 40) := by kernel_rfl
theorem fl81_0 : fldB Tryd.prog 81 0 0 = true := by kernel_rfl
theorem fl81_1 : fldB Tryd.prog 81 1 1 = true := by kernel_rfl
theorem ty84 : tyB Tryd.prog 84 true 4 = true := by kernel_rfl
theorem fl84_0 : fldB Tryd.prog 84 0 0 = true := by kernel_rfl
theorem fl84_1 : fldB Tryd.prog 84 1 1 = true := by kernel_rfl
theorem fl84_2 : fldB Tryd.prog 84 2 2 = true := by kernel_rfl
theorem fl84_3 : fldB Tryd.prog 84 3 3 = true := by kernel_rfl
theorem ty86 : tyB Tryd.prog 86 true 5 = true := by kernel_rfl
theorem fl86_0 : fldB Tryd.prog 86 0 0 = true := by kernel_rfl
theorem fl86_1 : fldB Tryd.prog 86 1 1 = true := by kernel_rfl
end Go.Proofs.YtibjbmjgmfiecaaDoor
