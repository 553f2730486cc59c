/- Merged texts. -/
import Derived.Test.YtijkijoempdgnaaDoorDataxa
import Derived.Test.YtijkijoempdgnaaDoorProg
namespace Go.Proofs.YtijkijoempdgnaaDoor
open Go.RowKit Go.Q
theorem ty3 : tyB Tryd.prog 3 false 1 = true := by kernel_rfl
theorem ty4 : tyB Tryd.prog 4 false 1 = true := by kernel_rfl
theorem in4 : (Tryd.prog.info? 4).map (fun i => (i.zero, i.size, i.bytes)) = some (some (.bool false), 1, 1) := by kernel_rfl
theorem in5 : (Tryd.prog.info? 5).map (fun i => (i.zero, i.size, i.bytes)) = some (some (.int .u8 0), 1, 1) := by kernel_rfl
theorem ty9 : tyB Tryd.prog 9 false 1 = true := by kernel_rfl
theorem in9 : (Tryd.prog.info? 9).map (fun i => (i.zero, i.size, i.bytes)) = some (some (.string .empty), 1, 16) := by kernel_rfl
theorem ty22 : tyB Tryd.prog 22 false 1 = true := by kernel_rfl
theorem ty24 : tyB Tryd.prog 24 true 2 = true := by kernel_rfl
theorem fl24_0 : fldB Tryd.prog 24 0 0 = true := by kernel_rfl
theorem fl24_1 : fldB Tryd.prog 24 1 1 = true := by kernel_rfl
theorem ty27 : tyB Tryd.prog 27 false 1 = true := by kernel_rfl
theorem ty29 : tyB Tryd.prog 29 true 2 = true := by kernel_rfl
theorem in29 : (Tryd.prog.info? 29).map (fun i => (i.zero, i.size, i.bytes)) = some (some (.agg #[.slice none 0 0, .slice none 0 0]), 2, 48) := by kernel_rfl
theorem fl29_0 : fldB Tryd.prog 29 0 0 = true := by kernel_rfl
theorem fl29_1 : fldB Tryd.prog 29 1 1 = true := by kernel_rfl
theorem ty33 : tyB Tryd.prog 33 false 1 = true := by kernel_rfl
theorem ty35 : tyB Tryd.prog 35 true 2 = true := by kernel_rfl
theorem fl35_0 : fldB Tryd.prog 35 0 0 = true := by kernel_rfl
theorem fl35_1 : fldB Tryd.prog 35 1 1 = true := by kernel_rfl
theorem ty38 : tyB Tryd.prog 38 false 1 = true := by kernel_rfl
theorem ty40 : tyB Tryd.prog 40 true 2 = true := by kernel_rfl
theorem in40 : (Tryd.prog.info? 40).map (fun i => (i.zero, i.size, i.bytes)) = some (some (.agg #[.int .i64 0, .slice none 0 0]), 2, 32) := by kernel_rfl
theorem fl40_0 : fldB Tryd.prog 40 0 0 = true := by kernel_rfl
theorem fl40_1 : fldB Tryd.prog 40 1 1 = true := by kernel_rfl
theorem ty52 : tyB Tryd.prog 52 false 1 = true := by kernel_rfl
theorem ty54 : tyB Tryd.prog 54 true 1 = true := by kernel_rfl
theorem in54 : (Tryd.prog.info? 54).map (fun i => (i.zero, i.size, i.bytes)) = some (some (.agg #[.slice none 0 0]), 1, 24) := by kernel_rfl
theorem fl54_0 : fldB Tryd.prog 54 0 0 = true := by kernel_rfl
theorem ty56 : tyB Tryd.prog 56 true 3 = true := by kernel_rfl
theorem in56 : (Tryd.prog.info? 56).map (fun i => (i.zero, i.size, i.bytes)) = some (some (.agg #[.int .i64 0, .int .i64 0, .slice none 0 0]), 3, 40) := by kernel_rfl
theorem fl56_0 : fldB Tryd.prog 56 0 0 = true := by kernel_rfl
theorem fl56_1 : fldB Tryd.prog 56 1 1 = true := by kernel_rfl
theorem fl56_2 : fldB Tryd.prog 56 2 2 = true := by kernel_rfl
theorem ty64 : tyB Tryd.prog 64 true 2 = true := by kernel_rfl
theorem in64 : (Tryd.prog.info? 64).map (fun i => (i.zero, i.size, i.bytes)) = some (some (.agg #[.int .i64 0, .int .i64 0]), 2, 16) := by kernel_rfl
theorem eqS64 (x0 : Int) (x1 : Int) (y0 : Int) (y1 : Int) (w : World) : (binOp .eql 64 (.agg (List.toArray [.int .i64 x0, .int .i64 x1])) (.agg (List.toArray [.int .i64 y0, .int .i64 y1]))).run Tryd.prog w = .ok (.bool ((decide (x0 = y0) && decide (x1 = y1)))) w := by
  have hs : Tryd.prog.stoodInHeld 64 = false := by kernel_rfl
  simp [go_sem, hs, Tryd.underlying64]
  repeat' split
  all_goals simp [*]
theorem fl64_0 : fldB Tryd.prog 64 0 0 = true := by kernel_rfl
theorem fl64_1 : fldB Tryd.prog 64 1 1 = true := by kernel_rfl
theorem ty67 : tyB Tryd.prog 67 true 2 = true := by kernel_rfl
theorem fl67_0 : fldB Tryd.prog 67 0 0 = true := by kernel_rfl
theorem fl67_1 : fldB Tryd.prog 67 1 1 = true := by kernel_rfl
theorem ty70 : tyB Tryd.prog 70 false 1 = true := by kernel_rfl
theorem ty72 : tyB Tryd.prog 72 true 1 = true := by kernel_rfl
theorem fl72_0 : fldB Tryd.prog 72 0 0 = true := by kernel_rfl
theorem ty74 : tyB Tryd.prog 74 true 3 = true := by kernel_rfl
theorem fl74_0 : fldB Tryd.prog 74 0 0 = true := by kernel_rfl
theorem fl74_1 : fldB Tryd.prog 74 1 1 = true := by kernel_rfl
theorem fl74_2 : fldB Tryd.prog 74 2 2 = true := by kernel_rfl
theorem ty80 : tyB Tryd.prog 80 true 4 = true := by kernel_rfl
theorem in80 : (Tryd.prog.info? 80).map (fun i => (i.zero, i.size, i.bytes)) = some (some (.agg #[.int .i64 0, .int .i64 0, .int .i64 0, .int .i64 0]), 4, 32) := by kernel_rfl
theorem st80 : (match Tryd.prog.underlying 80 with | some (.struct fs) => fs.all (fun f => (Tryd.prog.info? f.type).isSome) | _ => false) = true := by kernel_rfl
theorem eqS80 (x0 : Int) (x1 : Int) (x2 : Int) (x3 : Int) (y0 : Int) (y1 : Int) (y2 : Int) (y3 : Int) (w : World) : (binOp .eql 80 (.agg (List.toArray [.int .i64 x0, .int .i64 x1, .int .i64 x2, .int .i64 x3])) (.agg (List.toArray [.int .i64 y0, .int .i64 y1, .int .i64 y2, .int .i64 y3]))).run Tryd.prog w = .ok (.bool ((decide (x0 = y0) && decide (x1 = y1) && decide (x2 = y2) && decide (x3 = y3)))) w := by
  have hs : Tryd.prog.stoodInHeld 80 = false := by kernel_rfl
  simp [go_sem, hs, Tryd.underlying80]
  repeat' split
  all_goals simp [*]
theorem fl80_0 : fldB Tryd.prog 80 0 0 = true := by kernel_rfl
theorem fp80_0 : (match Tryd.prog.underlying 80 with | some (.struct fs) => (match fs[0]? with | some f => Nat.beq f.offset 0 && (match Tryd.prog.info? f.type with | some i => Nat.beq i.size 1 | none => false) | none => false) | _ => false) = true := by kernel_rfl
theorem fl80_1 : fldB Tryd.prog 80 1 1 = true := by kernel_rfl
theorem fl80_2 : fldB Tryd.prog 80 2 2 = true := by kernel_rfl
theorem fl80_3 : fldB Tryd.prog 80 3 3 = true := by kernel_rfl
theorem ty117 : tyB Tryd.prog 117 true 4 = true := by kernel_rfl
theorem fl117_0 : fldB Tryd.prog 117 0 0 = true := by kernel_rfl
theorem fl117_1 : fldB Tryd.prog 117 1 1 = true := by kernel_rfl
theorem fl117_2 : fldB Tryd.prog 117 2 2 = true := by kernel_rfl
theorem fl117_3 : fldB Tryd.prog 117 3 3 = true := by kernel_rfl
end Go.Proofs.YtijkijoempdgnaaDoor
set_option linter.unusedVariables false
set_option linter.unusedSimpArgs false
namespace Go.D
open Go.Q
end Go.D
