/- Merged texts. -/
import Derived.Test.YtoealglkenhphaaDoorOpenTxb
import Derived.Test.YtoealglkenhphaaDoorProg
namespace Go.Proofs.YtoealglkenhphaaDoor
open Go.RowKit Go.Q
theorem ty3 : tyB Tryd.prog 3 false 1 = true := by kernel_rfl
theorem in3 : (Tryd.prog.info? 3).map (fun i => (i.zero, i.size, i.bytes)) = some (some (.int .i64 0), 1, 8) := by kernel_rfl
theorem ty4 : tyB Tryd.prog 4 false 1 = true := by kernel_rfl
theorem in5 : (Tryd.prog.info? 5).map (fun i => (i.zero, i.size, i.bytes)) = some (some (.int .u8 0), 1, 1) := by kernel_rfl
theorem ty9 : tyB Tryd.prog 9 false 1 = true := by kernel_rfl
theorem in9 : (Tryd.prog.info? 9).map (fun i => (i.zero, i.size, i.bytes)) = some (some (.string .empty), 1, 16) := by kernel_rfl
theorem ty22 : tyB Tryd.prog 22 false 1 = true := by kernel_rfl
theorem ty24 : tyB Tryd.prog 24 true 1 = true := by kernel_rfl
theorem in24 : (Tryd.prog.info? 24).map (fun i => (i.zero, i.size, i.bytes)) = some (some (.agg #[.slice none 0 0]), 1, 24) := by kernel_rfl
theorem st24 : (match Tryd.prog.underlying 24 with | some (.struct fs) => fs.all (fun f => (Tryd.prog.info? f.type).isSome) | _ => false) = true := by kernel_rfl
theorem fl24_0 : fldB Tryd.prog 24 0 0 = true := by kernel_rfl
theorem ty51 : tyB Tryd.prog 51 true 4 = true := by kernel_rfl
theorem in51 : (Tryd.prog.info? 51).map (fun i => (i.zero, i.size, i.bytes)) = some (some (.agg #[.int .i64 0, .int .i64 0, .int .i64 0, .int .i64 0]), 4, 32) := by kernel_rfl
theorem st51 : (match Tryd.prog.underlying 51 with | some (.struct fs) => fs.all (fun f => (Tryd.prog.info? f.type).isSome) | _ => false) = true := by kernel_rfl
theorem fl51_0 : fldB Tryd.prog 51 0 0 = true := by kernel_rfl
theorem fp51_0 : (match Tryd.prog.underlying 51 with | some (.struct fs) => (match fs[0]? with | some f => Nat.beq f.offset 0 && (match Tryd.prog.info? f.type with | some i => Nat.beq i.size 1 | none => false) | none => false) | _ => false) = true := by kernel_rfl
theorem fl51_1 : fldB Tryd.prog 51 1 1 = true := by kernel_rfl
theorem fp51_1 : (match Tryd.prog.underlying 51 with | some (.struct fs) => (match fs[1]? with | some f => Nat.beq f.offset 1 && (match Tryd.prog.info? f.type with | some i => Nat.beq i.size 1 | none => false) | none => false) | _ => false) = true := by kernel_rfl
theorem fl51_2 : fldB Tryd.prog 51 2 2 = true := by kernel_rfl
theorem fp51_2 : (match Tryd.prog.underlying 51 with | some (.struct fs) => (match fs[2]? with | some f => Nat.beq f.offset 2 && (match Tryd.prog.info? f.type with | some i => Nat.beq i.size 1 | none => false) | none => false) | _ => false) = true := by kernel_rfl
theorem fl51_3 : fldB Tryd.prog 51 3 3 = true := by kernel_rfl
theorem fp51_3 : (match Tryd.prog.underlying 51 with | some (.struct fs) => (match fs[3]? with | some f => Nat.beq f.offset 3 && (match Tryd.prog.info? f.type with | some i => Nat.beq i.size 1 | none => false) | none => false) | _ => false) = true := by kernel_rfl
theorem ty55 : tyB Tryd.prog 55 true 5 = true := by kernel_rfl
theorem in55 : (Tryd.prog.info? 55).map (fun i => (i.zero, i.size, i.bytes)) = some (some (.agg #[.bool false, .int .i64 0, .int .i64 0, .int .i64 0, .int .i64 0]), 5, 40) := by kernel_rfl
theorem st55 : (match Tryd.prog.underlying 55 with | some (.struct fs) => fs.all (fun f => (Tryd.prog.info? f.type).isSome) | _ => false) = true := by kernel_rfl
theorem fl55_0 : fldB Tryd.prog 55 0 0 = true := by kernel_rfl
theorem fp55_0 : (match Tryd.prog.underlying 55 with | some (.struct fs) => (match fs[0]? with | some f => Nat.beq f.offset 0 && (match Tryd.prog.info? f.type with | some i => Nat.beq i.size 1 | none => false) | none => false) | _ => false) = true := by kernel_rfl
theorem fl55_1 : fldB Tryd.prog 55 1 1 = true := by kernel_rfl
theorem fp55_1 : (match Tryd.prog.underlying 55 with | some (.struct fs) => (match fs[1]? with | some f => Nat.beq f.offset 1 && (match Tryd.prog.info? f.type with | some i => Nat.beq i.size 4 | none => false) | none => false) | _ => false) = true := by kernel_rfl
end Go.Proofs.YtoealglkenhphaaDoor
set_option linter.unusedVariables false
set_option linter.unusedSimpArgs false
namespace Go.Q
end Go.Q
namespace Go.Proofs.YtoealglkenhphaaDoor
open Go.RowKit Go.Q Go.D
end Go.Proofs.YtoealglkenhphaaDoor
