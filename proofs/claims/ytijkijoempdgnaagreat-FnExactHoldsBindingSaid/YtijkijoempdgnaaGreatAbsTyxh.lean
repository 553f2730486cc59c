/- The facts of the types that the walks in abstract states ask for. -/
import Derived.Test.YtijkijoempdgnaaGreatDataxh
import Derived.Test.YtijkijoempdgnaaGreatProg
namespace Go.Proofs.YtijkijoempdgnaaGreat
open Go.RowKit Go.Q
theorem ty3 : tyB Tryz.prog 3 false 1 = true := by kernel_rfl
theorem in3 : (Tryz.prog.info? 3).map (fun i => (i.zero, i.size, i.bytes)) = some (some (.int .i64 0), 1, 8) := by kernel_rfl
theorem ty4 : tyB Tryz.prog 4 false 1 = true := by kernel_rfl
theorem in4 : (Tryz.prog.info? 4).map (fun i => (i.zero, i.size, i.bytes)) = some (some (.bool false), 1, 1) := by kernel_rfl
theorem ty22 : tyB Tryz.prog 22 false 1 = true := by kernel_rfl
theorem ty23 : tyB Tryz.prog 23 false 1 = true := by kernel_rfl
theorem ty25 : tyB Tryz.prog 25 true 2 = true := by kernel_rfl
theorem fl25_0 : fldB Tryz.prog 25 0 0 = true := by kernel_rfl
theorem fl25_1 : fldB Tryz.prog 25 1 1 = true := by kernel_rfl
theorem ty26 : tyB Tryz.prog 26 false 1 = true := by kernel_rfl
theorem ty28 : tyB Tryz.prog 28 true 2 = true := by kernel_rfl
theorem fl28_0 : fldB Tryz.prog 28 0 0 = true := by kernel_rfl
theorem fl28_1 : fldB Tryz.prog 28 1 1 = true := by kernel_rfl
theorem ty32 : tyB Tryz.prog 32 false 1 = true := by kernel_rfl
theorem ty34 : tyB Tryz.prog 34 true 2 = true := by kernel_rfl
theorem in34 : (Tryz.prog.info? 34).map (fun i => (i.zero, i.size, i.bytes)) = some (some (.agg #[.slice none 0 0, .slice none 0 0]), 2, 48) := by kernel_rfl
theorem fl34_0 : fldB Tryz.prog 34 0 0 = true := by kernel_rfl
theorem fl34_1 : fldB Tryz.prog 34 1 1 = true := by kernel_rfl
theorem ty36 : tyB Tryz.prog 36 false 1 = true := by kernel_rfl
theorem ty38 : tyB Tryz.prog 38 true 2 = true := by kernel_rfl
theorem in38 : (Tryz.prog.info? 38).map (fun i => (i.zero, i.size, i.bytes)) = some (some (.agg #[.int .i64 0, .slice none 0 0]), 2, 32) := by kernel_rfl
theorem fl38_0 : fldB Tryz.prog 38 0 0 = true := by kernel_rfl
theorem fl38_1 : fldB Tryz.prog 38 1 1 = true := by kernel_rfl
theorem ty51 : tyB Tryz.prog 51 false 1 = true := by kernel_rfl
theorem in51 : (Tryz.prog.info? 51).map (fun i => (i.zero, i.size, i.bytes)) = some (some (.slice none 0 0), 1, 24) := by kernel_rfl
theorem ty53 : tyB Tryz.prog 53 false 1 = true := by kernel_rfl
theorem ty55 : tyB Tryz.prog 55 true 1 = true := by kernel_rfl
theorem in55 : (Tryz.prog.info? 55).map (fun i => (i.zero, i.size, i.bytes)) = some (some (.agg #[.slice none 0 0]), 1, 24) := by kernel_rfl
theorem fl55_0 : fldB Tryz.prog 55 0 0 = true := by kernel_rfl
theorem ty57 : tyB Tryz.prog 57 true 3 = true := by kernel_rfl
theorem in57 : (Tryz.prog.info? 57).map (fun i => (i.zero, i.size, i.bytes)) = some (some (.agg #[.int .i64 0, .int .i64 0, .slice none 0 0]), 3, 40) := by kernel_rfl
theorem fl57_0 : fldB Tryz.prog 57 0 0 = true := by kernel_rfl
theorem fl57_1 : fldB Tryz.prog 57 1 1 = true := by kernel_rfl
theorem fl57_2 : fldB Tryz.prog 57 2 2 = true := by kernel_rfl
theorem ty59 : tyB Tryz.prog 59 true 2 = true := by kernel_rfl
theorem in59 : (Tryz.prog.info? 59).map (fun i => (i.zero, i.size, i.bytes)) = some (some (.agg #[.int .i64 0, .int .i64 0]), 2, 16) := by kernel_rfl
theorem st59 : (match Tryz.prog.underlying 59 with | some (.struct fs) => fs.all (fun f => (Tryz.prog.info? f.type).isSome) | _ => false) = true := by kernel_rfl
theorem eqS59 (x0 : Int) (x1 : Int) (y0 : Int) (y1 : Int) (w : World) : (binOp .eql 59 (.agg (List.toArray [.int .i64 x0, .int .i64 x1])) (.agg (List.toArray [.int .i64 y0, .int .i64 y1]))).run Tryz.prog w = .ok (.bool ((decide (x0 = y0) && decide (x1 = y1)))) w := by
  have hs : Tryz.prog.stoodInHeld 59 = false := by kernel_rfl
  simp [go_sem, hs, Tryz.underlying59]
  repeat' split
  all_goals simp [*]
theorem neS59 (x0 : Int) (x1 : Int) (y0 : Int) (y1 : Int) (w : World) : (binOp .neq 59 (.agg (List.toArray [.int .i64 x0, .int .i64 x1])) (.agg (List.toArray [.int .i64 y0, .int .i64 y1]))).run Tryz.prog w = .ok (.bool (!(decide (x0 = y0) && decide (x1 = y1)))) w := by
  have hs : Tryz.prog.stoodInHeld 59 = false := by kernel_rfl
  simp [go_sem, hs, Tryz.underlying59]
  repeat' split
  all_goals simp [*]
theorem fl59_0 : fldB Tryz.prog 59 0 0 = true := by kernel_rfl
theorem fp59_0 : (match Tryz.prog.underlying 59 with | some (.struct fs) => (match fs[0]? with | some f => Nat.beq f.offset 0 && (match Tryz.prog.info? f.type with | some i => Nat.beq i.size 1 | none => false) | none => false) | _ => false) = true := by kernel_rfl
theorem fl59_1 : fldB Tryz.prog 59 1 1 = true := by kernel_rfl
theorem fp59_1 : (match Tryz.prog.underlying 59 with | some (.struct fs) => (match fs[1]? with | some f => Nat.beq f.offset 1 && (match Tryz.prog.info? f.type with | some i => Nat.beq i.size 1 | none => false) | none => false) | _ => false) = true := by kernel_rfl
theorem ty68 : tyB Tryz.prog 68 false 1 = true := by kernel_rfl
theorem ty70 : tyB Tryz.prog 70 true 1 = true := by kernel_rfl
theorem fl70_0 : fldB Tryz.prog 70 0 0 = true := by kernel_rfl
theorem ty72 : tyB Tryz.prog 72 true 3 = true := by kernel_rfl
theorem fl72_0 : fldB Tryz.prog 72 0 0 = true := by kernel_rfl
theorem fl72_1 : fldB Tryz.prog 72 1 1 = true := by kernel_rfl
theorem fl72_2 : fldB Tryz.prog 72 2 2 = true := by kernel_rfl
theorem ty76 : tyB Tryz.prog 76 true 4 = true := by kernel_rfl
theorem in76 : (Tryz.prog.info? 76).map (fun i => (i.zero, i.size, i.bytes)) = some (some (.agg #[.int .i64 0, .int .i64 0, .int .i64 0, .int .i64 0]), 4, 32) := by kernel_rfl
theorem fl76_0 : fldB Tryz.prog 76 0 0 = true := by kernel_rfl
theorem fl76_1 : fldB Tryz.prog 76 1 1 = true := by kernel_rfl
theorem fl76_2 : fldB Tryz.prog 76 2 2 = true := by kernel_rfl
theorem fl76_3 : fldB Tryz.prog 76 3 3 = true := by kernel_rfl
theorem ty79 : tyB Tryz.prog 79 true 4 = true := by kernel_rfl
theorem in79 : (Tryz.prog.info? 79).map (fun i => (i.zero, i.size, i.bytes)) = some (some (.agg #[.int .i64 0, .int .i64 0, .int .i64 0, .int .i64 0]), 4, 32) := by kernel_rfl
theorem st79 : (match Tryz.prog.underlying 79 with | some (.struct fs) => fs.all (fun f => (Tryz.prog.info? f.type).isSome) | _ => false) = true := by kernel_rfl
theorem eqS79 (x0 : Int) (x1 : Int) (x2 : Int) (x3 : Int) (y0 : Int) (y1 : Int) (y2 : Int) (y3 : Int) (w : World) : (binOp .eql 79 (.agg (List.toArray [.int .i64 x0, .int .i64 x1, .int .i64 x2, .int .i64 x3])) (.agg (List.toArray [.int .i64 y0, .int .i64 y1, .int .i64 y2, .int .i64 y3]))).run Tryz.prog w = .ok (.bool ((decide (x0 = y0) && decide (x1 = y1) && decide (x2 = y2) && decide (x3 = y3)))) w := by
  have hs : Tryz.prog.stoodInHeld 79 = false := by kernel_rfl
  simp [go_sem, hs, Tryz.underlying79]
  repeat' split
  all_goals simp [*]
theorem fl79_0 : fldB Tryz.prog 79 0 0 = true := by kernel_rfl
theorem fp79_0 : (match Tryz.prog.underlying 79 with | some (.struct fs) => (match fs[0]? with | some f => Nat.beq f.offset 0 && (match Tryz.prog.info? f.type with | some i => Nat.beq i.size 1 | none => false) | none => false) | _ => false) = true := by kernel_rfl
theorem fl79_1 : fldB Tryz.prog 79 1 1 = true := by kernel_rfl
theorem fl79_2 : fldB Tryz.prog 79 2 2 = true := by kernel_rfl
theorem fl79_3 : fldB Tryz.prog 79 3 3 = true := by kernel_rfl
theorem ty87 : tyB Tryz.prog 87 true 4 = true := by kernel_rfl
theorem fl87_0 : fldB Tryz.prog 87 0 0 = true := by kernel_rfl
theorem fl87_1 : fldB Tryz.prog 87 1 1 = true := by kernel_rfl
theorem fl87_2 : fldB Tryz.prog 87 2 2 = true := by kernel_rfl
theorem fl87_3 : fldB Tryz.prog 87 3 3 = true := by kernel_rfl
theorem ty104 : tyB Tryz.prog 104 false 1 = true := by kernel_rfl
theorem ty112 : tyB Tryz.prog 112 false 1 = true := by kernel_rfl
theorem fl116_0 : fldB Tryz.prog 116 0 0 = true := by kernel_rfl
theorem fl116_1 : fldB Tryz.prog 116 1 4 = true := by kernel_rfl
theorem ty119 : tyB Tryz.prog 119 true 4 = true := by kernel_rfl
theorem fl119_0 : fldB Tryz.prog 119 0 0 = true := by kernel_rfl
theorem fl119_1 : fldB Tryz.prog 119 1 1 = true := by kernel_rfl
theorem fl119_2 : fldB Tryz.prog 119 2 2 = true := by kernel_rfl
theorem fl119_3 : fldB Tryz.prog 119 3 3 = true := by kernel_rfl
theorem ty122 : tyB Tryz.prog 122 false 1 = true := by kernel_rfl
theorem in122 : (Tryz.prog.info? 122).map (fun i => (i.zero, i.size, i.bytes)) = some (some (.slice none 0 0), 1, 24) := by kernel_rfl
theorem in124 : (Tryz.prog.info? 124).map (fun i => (i.zero, i.size, i.bytes)) = some (some (.agg #[.int .i64 0, .bool false]), 2, 16) := by kernel_rfl
theorem st124 : (match Tryz.prog.underlying 124 with | some (.struct fs) => fs.all (fun f => (Tryz.prog.info? f.type).isSome) | _ => false) = true := by kernel_rfl
theorem fp124_0 : (match Tryz.prog.underlying 124 with | some (.struct fs) => (match fs[0]? with | some f => Nat.beq f.offset 0 && (match Tryz.prog.info? f.type with | some i => Nat.beq i.size 1 | none => false) | none => false) | _ => false) = true := by kernel_rfl
theorem fp124_1 : (match Tryz.prog.underlying 124 with | some (.struct fs) => (match fs[1]? with | some f => Nat.beq f.offset 1 && (match Tryz.prog.info? f.type with | some i => Nat.beq i.size 1 | none => false) | none => false) | _ => false) = true := by kernel_rfl
theorem ty126 : tyB Tryz.prog 126 true 4 = true := by kernel_rfl
theorem in126 : (Tryz.prog.info? 126).map (fun i => (i.zero, i.size, i.bytes)) = some (some (.agg #[.int .i64 0, .bool false, .int .i64 0, .int .i64 0]), 4, 32) := by kernel_rfl
theorem st126 : (match Tryz.prog.underlying 126 with | some (.struct fs) => fs.all (fun f => (Tryz.prog.info? f.type).isSome) | _ => false) = true := by kernel_rfl
theorem fp126_0 : (match Tryz.prog.underlying 126 with | some (.struct fs) => (match fs[0]? with | some f => Nat.beq f.offset 0 && (match Tryz.prog.info? f.type with | some i => Nat.beq i.size 2 | none => false) | none => false) | _ => false) = true := by kernel_rfl
theorem fl126_1 : fldB Tryz.prog 126 1 2 = true := by kernel_rfl
theorem fp126_1 : (match Tryz.prog.underlying 126 with | some (.struct fs) => (match fs[1]? with | some f => Nat.beq f.offset 2 && (match Tryz.prog.info? f.type with | some i => Nat.beq i.size 1 | none => false) | none => false) | _ => false) = true := by kernel_rfl
theorem fl126_2 : fldB Tryz.prog 126 2 3 = true := by kernel_rfl
theorem fp126_2 : (match Tryz.prog.underlying 126 with | some (.struct fs) => (match fs[2]? with | some f => Nat.beq f.offset 3 && (match Tryz.prog.info? f.type with | some i => Nat.beq i.size 1 | none => false) | none => false) | _ => false) = true := by kernel_rfl
end Go.Proofs.YtijkijoempdgnaaGreat
