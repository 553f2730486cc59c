/- The facts of the types that the walks in abstract states ask for. -/
import Derived.Test.YtoealglkenhphaaGreatDoorOpenTxa
import Derived.Test.YtoealglkenhphaaGreatDoorProg
namespace Go.Proofs.YtoealglkenhphaaGreatDoor
open Go.RowKit Go.Q
theorem ty3 : tyB Tryz.prog 3 false 1 = true := by kernel_rfl
theorem ty4 : tyB Tryz.prog 4 false 1 = true := by kernel_rfl
theorem in4 : (Tryz.prog.info? 4).map (fun i => (i.zero, i.size, i.bytes)) = some (some (.bool false), 1, 1) := by kernel_rfl
theorem in5 : (Tryz.prog.info? 5).map (fun i => (i.zero, i.size, i.bytes)) = some (some (.int .u8 0), 1, 1) := by kernel_rfl
theorem ty9 : tyB Tryz.prog 9 false 1 = true := by kernel_rfl
theorem in9 : (Tryz.prog.info? 9).map (fun i => (i.zero, i.size, i.bytes)) = some (some (.string .empty), 1, 16) := by kernel_rfl
theorem ty22 : tyB Tryz.prog 22 false 1 = true := by kernel_rfl
theorem ty24 : tyB Tryz.prog 24 true 2 = true := by kernel_rfl
theorem in24 : (Tryz.prog.info? 24).map (fun i => (i.zero, i.size, i.bytes)) = some (some (.agg #[.int .i64 0, .slice none 0 0]), 2, 32) := by kernel_rfl
theorem st24 : (match Tryz.prog.underlying 24 with | some (.struct fs) => fs.all (fun f => (Tryz.prog.info? f.type).isSome) | _ => false) = true := by kernel_rfl
theorem fl24_0 : fldB Tryz.prog 24 0 0 = true := by kernel_rfl
theorem fl24_1 : fldB Tryz.prog 24 1 1 = true := by kernel_rfl
theorem ty32 : tyB Tryz.prog 32 false 1 = true := by kernel_rfl
theorem ty34 : tyB Tryz.prog 34 true 1 = true := by kernel_rfl
theorem in34 : (Tryz.prog.info? 34).map (fun i => (i.zero, i.size, i.bytes)) = some (some (.agg #[.slice none 0 0]), 1, 24) := by kernel_rfl
theorem st34 : (match Tryz.prog.underlying 34 with | some (.struct fs) => fs.all (fun f => (Tryz.prog.info? f.type).isSome) | _ => false) = true := by kernel_rfl
theorem fl34_0 : fldB Tryz.prog 34 0 0 = true := by kernel_rfl
theorem ty38 : tyB Tryz.prog 38 true 3 = true := by kernel_rfl
theorem in38 : (Tryz.prog.info? 38).map (fun i => (i.zero, i.size, i.bytes)) = some (some (.agg #[.int .i64 0, .int .i64 0, .slice none 0 0]), 3, 40) := by kernel_rfl
theorem st38 : (match Tryz.prog.underlying 38 with | some (.struct fs) => fs.all (fun f => (Tryz.prog.info? f.type).isSome) | _ => false) = true := by kernel_rfl
theorem fl38_0 : fldB Tryz.prog 38 0 0 = true := by kernel_rfl
theorem fp38_0 : (match Tryz.prog.underlying 38 with | some (.struct fs) => (match fs[0]? with | some f => Nat.beq f.offset 0 && (match Tryz.prog.info? f.type with | some i => Nat.beq i.size 1 | none => false) | none => false) | _ => false) = true := by kernel_rfl
theorem fl38_1 : fldB Tryz.prog 38 1 1 = true := by kernel_rfl
theorem fp38_1 : (match Tryz.prog.underlying 38 with | some (.struct fs) => (match fs[1]? with | some f => Nat.beq f.offset 1 && (match Tryz.prog.info? f.type with | some i => Nat.beq i.size 1 | none => false) | none => false) | _ => false) = true := by kernel_rfl
theorem fl38_2 : fldB Tryz.prog 38 2 2 = true := by kernel_rfl
theorem fp38_2 : (match Tryz.prog.underlying 38 with | some (.struct fs) => (match fs[2]? with | some f => Nat.beq f.offset 2 && (match Tryz.prog.info? f.type with | some i => Nat.beq i.size 1 | none => false) | none => false) | _ => false) = true := by kernel_rfl
theorem ty48 : tyB Tryz.prog 48 true 4 = true := by kernel_rfl
theorem in48 : (Tryz.prog.info? 48).map (fun i => (i.zero, i.size, i.bytes)) = some (some (.agg #[.int .i64 0, .int .i64 0, .int .i64 0, .int .i64 0]), 4, 32) := by kernel_rfl
theorem st48 : (match Tryz.prog.underlying 48 with | some (.struct fs) => fs.all (fun f => (Tryz.prog.info? f.type).isSome) | _ => false) = true := by kernel_rfl
theorem eqS48 (x0 : Int) (x1 : Int) (x2 : Int) (x3 : Int) (y0 : Int) (y1 : Int) (y2 : Int) (y3 : Int) (w : World) : (binOp .eql 48 (.agg (List.toArray [.int .i64 x0, .int .i64 x1, .int .i64 x2, .int .i64 x3])) (.agg (List.toArray [.int .i64 y0, .int .i64 y1, .int .i64 y2, .int .i64 y3]))).run Tryz.prog w = .ok (.bool ((decide (x0 = y0) && decide (x1 = y1) && decide (x2 = y2) && decide (x3 = y3)))) w := by
  have hs : Tryz.prog.stoodInHeld 48 = false := by kernel_rfl
  simp [go_sem, hs, Tryz.underlying48]
  repeat' split
  all_goals simp [*]
theorem fl48_0 : fldB Tryz.prog 48 0 0 = true := by kernel_rfl
theorem fp48_0 : (match Tryz.prog.underlying 48 with | some (.struct fs) => (match fs[0]? with | some f => Nat.beq f.offset 0 && (match Tryz.prog.info? f.type with | some i => Nat.beq i.size 1 | none => false) | none => false) | _ => false) = true := by kernel_rfl
theorem fl48_1 : fldB Tryz.prog 48 1 1 = true := by kernel_rfl
theorem fp48_1 : (match Tryz.prog.underlying 48 with | some (.struct fs) => (match fs[1]? with | some f => Nat.beq f.offset 1 && (match Tryz.prog.info? f.type with | some i => Nat.beq i.size 1 | none => false) | none => false) | _ => false) = true := by kernel_rfl
theorem fl48_2 : fldB Tryz.prog 48 2 2 = true := by kernel_rfl
theorem fp48_2 : (match Tryz.prog.underlying 48 with | some (.struct fs) => (match fs[2]? with | some f => Nat.beq f.offset 2 && (match Tryz.prog.info? f.type with | some i => Nat.beq i.size 1 | none => false) | none => false) | _ => false) = true := by kernel_rfl
theorem fl48_3 : fldB Tryz.prog 48 3 3 = true := by kernel_rfl
theorem fp48_3 : (match Tryz.prog.underlying 48 with | some (.struct fs) => (match fs[3]? with | some f => Nat.beq f.offset 3 && (match Tryz.prog.info? f.type with | some i => Nat.beq i.size 1 | none => false) | none => false) | _ => false) = true := by kernel_rfl
end Go.Proofs.YtoealglkenhphaaGreatDoor
