/- The facts of the types that the walks in abstract states ask for. -/
import Derived.Test.YtjmefmdeghggeaaData
import Derived.Test.YtjmefmdeghggeaaProg
namespace Go.Proofs.Ytjmefmdeghggeaa
open Go.RowKit Go.Q
theorem ty3 : tyB Try.prog 3 false 1 = true := by kernel_rfl
theorem in3 : (Try.prog.info? 3).map (fun i => (i.zero, i.size, i.bytes)) = some (some (.int .i64 0), 1, 8) := by kernel_rfl
theorem ty4 : tyB Try.prog 4 false 1 = true := by kernel_rfl
theorem in4 : (Try.prog.info? 4).map (fun i => (i.zero, i.size, i.bytes)) = some (some (.bool false), 1, 1) := by kernel_rfl
theorem ty9 : tyB Try.prog 9 false 1 = true := by kernel_rfl
theorem in9 : (Try.prog.info? 9).map (fun i => (i.zero, i.size, i.bytes)) = some (some (.string .empty), 1, 16) := by kernel_rfl
theorem ty22 : tyB Try.prog 22 false 1 = true := by kernel_rfl
theorem in22 : (Try.prog.info? 22).map (fun i => (i.zero, i.size, i.bytes)) = some (some (.slice none 0 0), 1, 24) := by kernel_rfl
theorem ty24 : tyB Try.prog 24 true 1 = true := by kernel_rfl
theorem in24 : (Try.prog.info? 24).map (fun i => (i.zero, i.size, i.bytes)) = some (some (.agg #[.slice none 0 0]), 1, 24) := by kernel_rfl
theorem st24 : (match Try.prog.underlying 24 with | some (.struct fs) => fs.all (fun f => (Try.prog.info? f.type).isSome) | _ => false) = true := by kernel_rfl
theorem fl24_0 : fldB Try.prog 24 0 0 = true := by kernel_rfl
theorem fp24_0 : (match Try.prog.underlying 24 with | some (.struct fs) => (match fs[0]? with | some f => Nat.beq f.offset 0 && (match Try.prog.info? f.type with | some i => Nat.beq i.size 1 | none => false) | none => false) | _ => false) = true := by kernel_rfl
theorem ty26 : tyB Try.prog 26 false 1 = true := by kernel_rfl
theorem in26 : (Try.prog.info? 26).map (fun i => (i.zero, i.size, i.bytes)) = some (some (.slice none 0 0), 1, 24) := by kernel_rfl
theorem ty28 : tyB Try.prog 28 true 1 = true := by kernel_rfl
theorem in28 : (Try.prog.info? 28).map (fun i => (i.zero, i.size, i.bytes)) = some (some (.agg #[.slice none 0 0]), 1, 24) := by kernel_rfl
theorem st28 : (match Try.prog.underlying 28 with | some (.struct fs) => fs.all (fun f => (Try.prog.info? f.type).isSome) | _ => false) = true := by kernel_rfl
theorem fl28_0 : fldB Try.prog 28 0 0 = true := by kernel_rfl
theorem fp28_0 : (match Try.prog.underlying 28 with | some (.struct fs) => (match fs[0]? with | some f => Nat.beq f.offset 0 && (match Try.prog.info? f.type with | some i => Nat.beq i.size 1 | none => false) | none => false) | _ => false) = true := by kernel_rfl
theorem ty35 : tyB Try.prog 35 false 1 = true := by kernel_rfl
theorem in35 : (Try.prog.info? 35).map (fun i => (i.zero, i.size, i.bytes)) = some (some (.slice none 0 0), 1, 24) := by kernel_rfl
theorem ty37 : tyB Try.prog 37 false 1 = true := by kernel_rfl
theorem in37 : (Try.prog.info? 37).map (fun i => (i.zero, i.size, i.bytes)) = some (some (.slice none 0 0), 1, 24) := by kernel_rfl
theorem ty39 : tyB Try.prog 39 true 2 = true := by kernel_rfl
theorem in39 : (Try.prog.info? 39).map (fun i => (i.zero, i.size, i.bytes)) = some (some (.agg #[.slice none 0 0, .slice none 0 0]), 2, 48) := by kernel_rfl
theorem st39 : (match Try.prog.underlying 39 with | some (.struct fs) => fs.all (fun f => (Try.prog.info? f.type).isSome) | _ => false) = true := by kernel_rfl
theorem fl39_0 : fldB Try.prog 39 0 0 = true := by kernel_rfl
theorem fp39_0 : (match Try.prog.underlying 39 with | some (.struct fs) => (match fs[0]? with | some f => Nat.beq f.offset 0 && (match Try.prog.info? f.type with | some i => Nat.beq i.size 1 | none => false) | none => false) | _ => false) = true := by kernel_rfl
theorem fl39_1 : fldB Try.prog 39 1 1 = true := by kernel_rfl
theorem fp39_1 : (match Try.prog.underlying 39 with | some (.struct fs) => (match fs[1]? with | some f => Nat.beq f.offset 1 && (match Try.prog.info? f.type with | some i => Nat.beq i.size 1 | none => false) | none => false) | _ => false) = true := by kernel_rfl
theorem ty47 : tyB Try.prog 47 false 1 = true := by kernel_rfl
theorem in47 : (Try.prog.info? 47).map (fun i => (i.zero, i.size, i.bytes)) = some (some (.slice none 0 0), 1, 24) := by kernel_rfl
theorem ty48 : tyB Try.prog 48 false 1 = true := by kernel_rfl
theorem in48 : (Try.prog.info? 48).map (fun i => (i.zero, i.size, i.bytes)) = some (some (.slice none 0 0), 1, 24) := by kernel_rfl
theorem ty54 : tyB Try.prog 54 false 1 = true := by kernel_rfl
theorem in54 : (Try.prog.info? 54).map (fun i => (i.zero, i.size, i.bytes)) = some (some (.nilFunc), 1, 8) := by kernel_rfl
theorem ty58 : tyB Try.prog 58 true 2 = true := by kernel_rfl
theorem in58 : (Try.prog.info? 58).map (fun i => (i.zero, i.size, i.bytes)) = some (some (.agg #[.slice none 0 0, .slice none 0 0]), 2, 48) := by kernel_rfl
theorem st58 : (match Try.prog.underlying 58 with | some (.struct fs) => fs.all (fun f => (Try.prog.info? f.type).isSome) | _ => false) = true := by kernel_rfl
theorem fl58_0 : fldB Try.prog 58 0 0 = true := by kernel_rfl
theorem fp58_0 : (match Try.prog.underlying 58 with | some (.struct fs) => (match fs[0]? with | some f => Nat.beq f.offset 0 && (match Try.prog.info? f.type with | some i => Nat.beq i.size 1 | none => false) | none => false) | _ => false) = true := by kernel_rfl
theorem fl58_1 : fldB Try.prog 58 1 1 = true := by kernel_rfl
theorem fp58_1 : (match Try.prog.underlying 58 with | some (.struct fs) => (match fs[1]? with | some f => Nat.beq f.offset 1 && (match Try.prog.info? f.type with | some i => Nat.beq i.size 1 | none => false) | none => false) | _ => false) = true := by kernel_rfl
theorem ty67 : tyB Try.prog 67 false 1 = true := by kernel_rfl
theorem in67 : (Try.prog.info? 67).map (fun i => (i.zero, i.size, i.bytes)) = some (some (.slice none 0 0), 1, 24) := by kernel_rfl
theorem ty69 : tyB Try.prog 69 true 2 = true := by kernel_rfl
theorem in69 : (Try.prog.info? 69).map (fun i => (i.zero, i.size, i.bytes)) = some (some (.agg #[.slice none 0 0, .slice none 0 0]), 2, 48) := by kernel_rfl
theorem st69 : (match Try.prog.underlying 69 with | some (.struct fs) => fs.all (fun f => (Try.prog.info? f.type).isSome) | _ => false) = true := by kernel_rfl
theorem fl69_0 : fldB Try.prog 69 0 0 = true := by kernel_rfl
theorem fp69_0 : (match Try.prog.underlying 69 with | some (.struct fs) => (match fs[0]? with | some f => Nat.beq f.offset 0 && (match Try.prog.info? f.type with | some i => Nat.beq i.size 1 | none => false) | none => false) | _ => false) = true := by kernel_rfl
theorem fl69_1 : fldB Try.prog 69 1 1 = true := by kernel_rfl
theorem fp69_1 : (match Try.prog.underlying 69 with | some (.struct fs) => (match fs[1]? with | some f => Nat.beq f.offset 1 && (match Try.prog.info? f.type with | some i => Nat.beq i.size 1 | none => false) | none => false) | _ => false) = true := by kernel_rfl
theorem ty70 : tyB Try.prog 70 false 1 = true := by kernel_rfl
theorem in70 : (Try.prog.info? 70).map (fun i => (i.zero, i.size, i.bytes)) = some (some (.slice none 0 0), 1, 24) := by kernel_rfl
theorem ty72 : tyB Try.prog 72 true 3 = true := by kernel_rfl
theorem in72 : (Try.prog.info? 72).map (fun i => (i.zero, i.size, i.bytes)) = some (some (.agg #[.int .i64 0, .slice none 0 0, .slice none 0 0]), 3, 56) := by kernel_rfl
theorem st72 : (match Try.prog.underlying 72 with | some (.struct fs) => fs.all (fun f => (Try.prog.info? f.type).isSome) | _ => false) = true := by kernel_rfl
theorem fl72_0 : fldB Try.prog 72 0 0 = true := by kernel_rfl
theorem fp72_0 : (match Try.prog.underlying 72 with | some (.struct fs) => (match fs[0]? with | some f => Nat.beq f.offset 0 && (match Try.prog.info? f.type with | some i => Nat.beq i.size 1 | none => false) | none => false) | _ => false) = true := by kernel_rfl
theorem fl72_1 : fldB Try.prog 72 1 1 = true := by kernel_rfl
theorem fp72_1 : (match Try.prog.underlying 72 with | some (.struct fs) => (match fs[1]? with | some f => Nat.beq f.offset 1 && (match Try.prog.info? f.type with | some i => Nat.beq i.size 1 | none => false) | none => false) | _ => false) = true := by kernel_rfl
theorem fl72_2 : fldB Try.prog 72 2 2 = true := by kernel_rfl
theorem fp72_2 : (match Try.prog.underlying 72 with | some (.struct fs) => (match fs[2]? with | some f => Nat.beq f.offset 2 && (match Try.prog.info? f.type with | some i => Nat.beq i.size 1 | none => false) | none => false) | _ => false) = true := by kernel_rfl
theorem ty76 : tyB Try.prog 76 false 1 = true := by kernel_rfl
theorem in76 : (Try.prog.info? 76).map (fun i => (i.zero, i.size, i.bytes)) = some (some (.slice none 0 0), 1, 24) := by kernel_rfl
theorem ty78 : tyB Try.prog 78 true 2 = true := by kernel_rfl
theorem in78 : (Try.prog.info? 78).map (fun i => (i.zero, i.size, i.bytes)) = some (some (.agg #[.slice none 0 0, .slice none 0 0]), 2, 48) := by kernel_rfl
theorem st78 : (match Try.prog.underlying 78 with | some (.struct fs) => fs.all (fun f => (Try.prog.info? f.type).isSome) | _ => false) = true := by kernel_rfl
theorem fl78_0 : fldB Try.prog 78 0 0 = true := by kernel_rfl
theorem fp78_0 : (match Try.prog.underlying 78 with | some (.struct fs) => (match fs[0]? with | some f => Nat.beq f.offset 0 && (match Try.prog.info? f.type with | some i => Nat.beq i.size 1 | none => false) | none => false) | _ => false) = true := by kernel_rfl
theorem fl78_1 : fldB Try.prog 78 1 1 = true := by kernel_rfl
theorem fp78_1 : (match Try.prog.underlying 78 with | some (.struct fs) => (match fs[1]? with | some f => Nat.beq f.offset 1 && (match Try.prog.info? f.type with | some i => Nat.beq i.size 1 | none => false) | none => false) | _ => false) = true := by kernel_rfl
theorem ty80 : tyB Try.prog 80 true 3 = true := by kernel_rfl
theorem in80 : (Try.prog.info? 80).map (fun i => (i.zero, i.size, i.bytes)) = some (some (.agg #[.int .i64 0, .slice none 0 0, .slice none 0 0]), 3, 56) := by kernel_rfl
theorem st80 : (match Try.prog.underlying 80 with | some (.struct fs) => fs.all (fun f => (Try.prog.info? f.type).isSome) | _ => false) = true := by kernel_rfl
theorem fl80_0 : fldB Try.prog 80 0 0 = true := by kernel_rfl
theorem fp80_0 : (match Try.prog.underlying 80 with | some (.struct fs) => (match fs[0]? with | some f => Nat.beq f.offset 0 && (match Try.prog.info? f.type with | some i => Nat.beq i.size 1 | none => false) | none => false) | _ => false) = true := by kernel_rfl
theorem fl80_1 : fldB Try.prog 80 1 1 = true := by kernel_rfl
theorem fp80_1 : (match Try.prog.underlying 80 with | some (.struct fs) => (match fs[1]? with | some f => Nat.beq f.offset 1 && (match Try.prog.info? f.type with | some i => Nat.beq i.size 1 | none => false) | none => false) | _ => false) = true := by kernel_rfl
theorem fl80_2 : fldB Try.prog 80 2 2 = true := by kernel_rfl
theorem fp80_2 : (match Try.prog.underlying 80 with | some (.struct fs) => (match fs[2]? with | some f => Nat.beq f.offset 2 && (match Try.prog.info? f.type with | some i => Nat.beq i.size 1 | none => false) | none => false) | _ => false) = true := by kernel_rfl
theorem ty89 : tyB Try.prog 89 true 6 = true := by kernel_rfl
theorem in89 : (Try.prog.info? 89).map (fun i => (i.zero, i.size, i.bytes)) = some (some (.agg #[.int .i64 0, .slice none 0 0, .slice none 0 0, .int .i64 0, .slice none 0 0, .slice none 0 0]), 6, 112) := by kernel_rfl
theorem st89 : (match Try.prog.underlying 89 with | some (.struct fs) => fs.all (fun f => (Try.prog.info? f.type).isSome) | _ => false) = true := by kernel_rfl
theorem fl89_0 : fldB Try.prog 89 0 0 = true := by kernel_rfl
theorem fp89_0 : (match Try.prog.underlying 89 with | some (.struct fs) => (match fs[0]? with | some f => Nat.beq f.offset 0 && (match Try.prog.info? f.type with | some i => Nat.beq i.size 3 | none => false) | none => false) | _ => false) = true := by kernel_rfl
theorem fl89_1 : fldB Try.prog 89 1 3 = true := by kernel_rfl
theorem fp89_1 : (match Try.prog.underlying 89 with | some (.struct fs) => (match fs[1]? with | some f => Nat.beq f.offset 3 && (match Try.prog.info? f.type with | some i => Nat.beq i.size 1 | none => false) | none => false) | _ => false) = true := by kernel_rfl
theorem fl89_2 : fldB Try.prog 89 2 4 = true := by kernel_rfl
theorem fp89_2 : (match Try.prog.underlying 89 with | some (.struct fs) => (match fs[2]? with | some f => Nat.beq f.offset 4 && (match Try.prog.info? f.type with | some i => Nat.beq i.size 1 | none => false) | none => false) | _ => false) = true := by kernel_rfl
theorem fl89_3 : fldB Try.prog 89 3 5 = true := by kernel_rfl
theorem fp89_3 : (match Try.prog.underlying 89 with | some (.struct fs) => (match fs[3]? with | some f => Nat.beq f.offset 5 && (match Try.prog.info? f.type with | some i => Nat.beq i.size 1 | none => false) | none => false) | _ => false) = true := by kernel_rfl
theorem ty93 : tyB Try.prog 93 true 6 = true := by kernel_rfl
theorem in93 : (Try.prog.info? 93).map (fun i => (i.zero, i.size, i.bytes)) = some (some (.agg #[.int .i64 0, .slice none 0 0, .slice none 0 0, .int .i64 0, .slice none 0 0, .slice none 0 0]), 6, 112) := by kernel_rfl
theorem st93 : (match Try.prog.underlying 93 with | some (.struct fs) => fs.all (fun f => (Try.prog.info? f.type).isSome) | _ => false) = true := by kernel_rfl
theorem fl93_0 : fldB Try.prog 93 0 0 = true := by kernel_rfl
theorem fp93_0 : (match Try.prog.underlying 93 with | some (.struct fs) => (match fs[0]? with | some f => Nat.beq f.offset 0 && (match Try.prog.info? f.type with | some i => Nat.beq i.size 3 | none => false) | none => false) | _ => false) = true := by kernel_rfl
theorem fl93_1 : fldB Try.prog 93 1 3 = true := by kernel_rfl
theorem fp93_1 : (match Try.prog.underlying 93 with | some (.struct fs) => (match fs[1]? with | some f => Nat.beq f.offset 3 && (match Try.prog.info? f.type with | some i => Nat.beq i.size 1 | none => false) | none => false) | _ => false) = true := by kernel_rfl
theorem fl93_2 : fldB Try.prog 93 2 4 = true := by kernel_rfl
theorem fp93_2 : (match Try.prog.underlying 93 with | some (.struct fs) => (match fs[2]? with | some f => Nat.beq f.offset 4 && (match Try.prog.info? f.type with | some i => Nat.beq i.size 1 | none => false) | none => false) | _ => false) = true := by kernel_rfl
theorem fl93_3 : fldB Try.prog 93 3 5 = true := by kernel_rfl
theorem fp93_3 : (match Try.prog.underlying 93 with | some (.struct fs) => (match fs[3]? with | some f => Nat.beq f.offset 5 && (match Try.prog.info? f.type with | some i => Nat.beq i.size 1 | none => false) | none => false) | _ => false) = true := by kernel_rfl
theorem ty111 : tyB Try.prog 111 false 1 = true := by kernel_rfl
theorem in111 : (Try.prog.info? 111).map (fun i => (i.zero, i.size, i.bytes)) = some (some (.pointer none), 1, 8) := by kernel_rfl
theorem ty118 : tyB Try.prog 118 true 2 = true := by kernel_rfl
theorem in118 : (Try.prog.info? 118).map (fun i => (i.zero, i.size, i.bytes)) = some (some (.agg #[.int .i64 0, .int .i64 0]), 2, 16) := by kernel_rfl
theorem st118 : (match Try.prog.underlying 118 with | some (.struct fs) => fs.all (fun f => (Try.prog.info? f.type).isSome) | _ => false) = true := by kernel_rfl
theorem eqS118 (x0 : Int) (x1 : Int) (y0 : Int) (y1 : Int) (w : World) : (binOp .eql 118 (.agg (List.toArray [.int .i64 x0, .int .i64 x1])) (.agg (List.toArray [.int .i64 y0, .int .i64 y1]))).run Try.prog w = .ok (.bool ((decide (x0 = y0) && decide (x1 = y1)))) w := by
  have hs : Try.prog.stoodInHeld 118 = false := by kernel_rfl
  simp [go_sem, hs, Try.underlying118]
  repeat' split
  all_goals simp [*]
theorem neS118 (x0 : Int) (x1 : Int) (y0 : Int) (y1 : Int) (w : World) : (binOp .neq 118 (.agg (List.toArray [.int .i64 x0, .int .i64 x1])) (.agg (List.toArray [.int .i64 y0, .int .i64 y1]))).run Try.prog w = .ok (.bool (!(decide (x0 = y0) && decide (x1 = y1)))) w := by
  have hs : Try.prog.stoodInHeld 118 = false := by kernel_rfl
  simp [go_sem, hs, Try.underlying118]
  repeat' split
  all_goals simp [*]
theorem fl118_0 : fldB Try.prog 118 0 0 = true := by kernel_rfl
theorem fp118_0 : (match Try.prog.underlying 118 with | some (.struct fs) => (match fs[0]? with | some f => Nat.beq f.offset 0 && (match Try.prog.info? f.type with | some i => Nat.beq i.size 1 | none => false) | none => false) | _ => false) = true := by kernel_rfl
theorem fl118_1 : fldB Try.prog 118 1 1 = true := by kernel_rfl
theorem fp118_1 : (match Try.prog.underlying 118 with | some (.struct fs) => (match fs[1]? with | some f => Nat.beq f.offset 1 && (match Try.prog.info? f.type with | some i => Nat.beq i.size 1 | none => false) | none => false) | _ => false) = true := by kernel_rfl
theorem ty120 : tyB Try.prog 120 true 2 = true := by kernel_rfl
theorem in120 : (Try.prog.info? 120).map (fun i => (i.zero, i.size, i.bytes)) = some (some (.agg #[.int .i64 0, .int .i64 0]), 2, 16) := by kernel_rfl
theorem st120 : (match Try.prog.underlying 120 with | some (.struct fs) => fs.all (fun f => (Try.prog.info? f.type).isSome) | _ => false) = true := by kernel_rfl
theorem eqS120 (x0 : Int) (x1 : Int) (y0 : Int) (y1 : Int) (w : World) : (binOp .eql 120 (.agg (List.toArray [.int .i64 x0, .int .i64 x1])) (.agg (List.toArray [.int .i64 y0, .int .i64 y1]))).run Try.prog w = .ok (.bool ((decide (x0 = y0) && decide (x1 = y1)))) w := by
  have hs : Try.prog.stoodInHeld 120 = false := by kernel_rfl
  simp [go_sem, hs, Try.underlying120]
  repeat' split
  all_goals simp [*]
theorem neS120 (x0 : Int) (x1 : Int) (y0 : Int) (y1 : Int) (w : World) : (binOp .neq 120 (.agg (List.toArray [.int .i64 x0, .int .i64 x1])) (.agg (List.toArray [.int .i64 y0, .int .i64 y1]))).run Try.prog w = .ok (.bool (!(decide (x0 = y0) && decide (x1 = y1)))) w := by
  have hs : Try.prog.stoodInHeld 120 = false := by kernel_rfl
  simp [go_sem, hs, Try.underlying120]
  repeat' split
  all_goals simp [*]
theorem fl120_0 : fldB Try.prog 120 0 0 = true := by kernel_rfl
theorem fp120_0 : (match Try.prog.underlying 120 with | some (.struct fs) => (match fs[0]? with | some f => Nat.beq f.offset 0 && (match Try.prog.info? f.type with | some i => Nat.beq i.size 1 | none => false) | none => false) | _ => false) = true := by kernel_rfl
theorem fl120_1 : fldB Try.prog 120 1 1 = true := by kernel_rfl
theorem fp120_1 : (match Try.prog.underlying 120 with | some (.struct fs) => (match fs[1]? with | some f => Nat.beq f.offset 1 && (match Try.prog.info? f.type with | some i => Nat.beq i.size 1 | none => false) | none => false) | _ => false) = true := by kernel_rfl
theorem ty124 : tyB Try.prog 124 false 1 = true := by kernel_rfl
theorem in124 : (Try.prog.info? 124).map (fun i => (i.zero, i.size, i.bytes)) = some (some (.nilFunc), 1, 8) := by kernel_rfl
theorem ty139 : tyB Try.prog 139 true 2 = true := by kernel_rfl
theorem in139 : (Try.prog.info? 139).map (fun i => (i.zero, i.size, i.bytes)) = some (some (.agg #[.int .i64 0, .int .i64 0]), 2, 16) := by kernel_rfl
theorem st139 : (match Try.prog.underlying 139 with | some (.struct fs) => fs.all (fun f => (Try.prog.info? f.type).isSome) | _ => false) = true := by kernel_rfl
theorem eqS139 (x0 : Int) (x1 : Int) (y0 : Int) (y1 : Int) (w : World) : (binOp .eql 139 (.agg (List.toArray [.int .i64 x0, .int .i64 x1])) (.agg (List.toArray [.int .i64 y0, .int .i64 y1]))).run Try.prog w = .ok (.bool ((decide (x0 = y0) && decide (x1 = y1)))) w := by
  have hs : Try.prog.stoodInHeld 139 = false := by kernel_rfl
  simp [go_sem, hs, Try.underlying139]
  repeat' split
  all_goals simp [*]
theorem neS139 (x0 : Int) (x1 : Int) (y0 : Int) (y1 : Int) (w : World) : (binOp .neq 139 (.agg (List.toArray [.int .i64 x0, .int .i64 x1])) (.agg (List.toArray [.int .i64 y0, .int .i64 y1]))).run Try.prog w = .ok (.bool (!(decide (x0 = y0) && decide (x1 = y1)))) w := by
  have hs : Try.prog.stoodInHeld 139 = false := by kernel_rfl
  simp [go_sem, hs, Try.underlying139]
  repeat' split
  all_goals simp [*]
theorem fl139_0 : fldB Try.prog 139 0 0 = true := by kernel_rfl
theorem fp139_0 : (match Try.prog.underlying 139 with | some (.struct fs) => (match fs[0]? with | some f => Nat.beq f.offset 0 && (match Try.prog.info? f.type with | some i => Nat.beq i.size 1 | none => false) | none => false) | _ => false) = true := by kernel_rfl
theorem fl139_1 : fldB Try.prog 139 1 1 = true := by kernel_rfl
theorem fp139_1 : (match Try.prog.underlying 139 with | some (.struct fs) => (match fs[1]? with | some f => Nat.beq f.offset 1 && (match Try.prog.info? f.type with | some i => Nat.beq i.size 1 | none => false) | none => false) | _ => false) = true := by kernel_rfl
theorem ty140 : tyB Try.prog 140 false 1 = true := by kernel_rfl
theorem in140 : (Try.prog.info? 140).map (fun i => (i.zero, i.size, i.bytes)) = some (some (.slice none 0 0), 1, 24) := by kernel_rfl
theorem ty149 : tyB Try.prog 149 false 1 = true := by kernel_rfl
theorem in149 : (Try.prog.info? 149).map (fun i => (i.zero, i.size, i.bytes)) = some (some (.slice none 0 0), 1, 24) := by kernel_rfl
theorem ty152 : tyB Try.prog 152 true 2 = true := by kernel_rfl
theorem in152 : (Try.prog.info? 152).map (fun i => (i.zero, i.size, i.bytes)) = some (some (.agg #[.int .i64 0, .bool false]), 2, 16) := by kernel_rfl
theorem st152 : (match Try.prog.underlying 152 with | some (.struct fs) => fs.all (fun f => (Try.prog.info? f.type).isSome) | _ => false) = true := by kernel_rfl
theorem eqS152 (x0 : Int) (x1 : Bool) (y0 : Int) (y1 : Bool) (w : World) : (binOp .eql 152 (.agg (List.toArray [.int .i64 x0, .bool x1])) (.agg (List.toArray [.int .i64 y0, .bool y1]))).run Try.prog w = .ok (.bool ((decide (x0 = y0) && decide (x1 = y1)))) w := by
  have hs : Try.prog.stoodInHeld 152 = false := by kernel_rfl
  simp [go_sem, hs, Try.underlying152]
  repeat' split
  all_goals simp [*]
theorem neS152 (x0 : Int) (x1 : Bool) (y0 : Int) (y1 : Bool) (w : World) : (binOp .neq 152 (.agg (List.toArray [.int .i64 x0, .bool x1])) (.agg (List.toArray [.int .i64 y0, .bool y1]))).run Try.prog w = .ok (.bool (!(decide (x0 = y0) && decide (x1 = y1)))) w := by
  have hs : Try.prog.stoodInHeld 152 = false := by kernel_rfl
  simp [go_sem, hs, Try.underlying152]
  repeat' split
  all_goals simp [*]
theorem fl152_0 : fldB Try.prog 152 0 0 = true := by kernel_rfl
theorem fp152_0 : (match Try.prog.underlying 152 with | some (.struct fs) => (match fs[0]? with | some f => Nat.beq f.offset 0 && (match Try.prog.info? f.type with | some i => Nat.beq i.size 1 | none => false) | none => false) | _ => false) = true := by kernel_rfl
theorem fl152_1 : fldB Try.prog 152 1 1 = true := by kernel_rfl
theorem fp152_1 : (match Try.prog.underlying 152 with | some (.struct fs) => (match fs[1]? with | some f => Nat.beq f.offset 1 && (match Try.prog.info? f.type with | some i => Nat.beq i.size 1 | none => false) | none => false) | _ => false) = true := by kernel_rfl
theorem ty154 : tyB Try.prog 154 true 5 = true := by kernel_rfl
theorem in154 : (Try.prog.info? 154).map (fun i => (i.zero, i.size, i.bytes)) = some (some (.agg #[.int .i64 0, .int .i64 0, .int .i64 0, .int .i64 0, .bool false]), 5, 40) := by kernel_rfl
theorem st154 : (match Try.prog.underlying 154 with | some (.struct fs) => fs.all (fun f => (Try.prog.info? f.type).isSome) | _ => false) = true := by kernel_rfl
theorem fl154_0 : fldB Try.prog 154 0 0 = true := by kernel_rfl
theorem fp154_0 : (match Try.prog.underlying 154 with | some (.struct fs) => (match fs[0]? with | some f => Nat.beq f.offset 0 && (match Try.prog.info? f.type with | some i => Nat.beq i.size 1 | none => false) | none => false) | _ => false) = true := by kernel_rfl
theorem fl154_1 : fldB Try.prog 154 1 1 = true := by kernel_rfl
theorem fp154_1 : (match Try.prog.underlying 154 with | some (.struct fs) => (match fs[1]? with | some f => Nat.beq f.offset 1 && (match Try.prog.info? f.type with | some i => Nat.beq i.size 1 | none => false) | none => false) | _ => false) = true := by kernel_rfl
theorem fl154_2 : fldB Try.prog 154 2 2 = true := by kernel_rfl
theorem fp154_2 : (match Try.prog.underlying 154 with | some (.struct fs) => (match fs[2]? with | some f => Nat.beq f.offset 2 && (match Try.prog.info? f.type with | some i => Nat.beq i.size 1 | none => false) | none => false) | _ => false) = true := by kernel_rfl
theorem fl154_3 : fldB Try.prog 154 3 3 = true := by kernel_rfl
theorem fp154_3 : (match Try.prog.underlying 154 with | some (.struct fs) => (match fs[3]? with | some f => Nat.beq f.offset 3 && (match Try.prog.info? f.type with | some i => Nat.beq i.size 2 | none => false) | none => false) | _ => false) = true := by kernel_rfl
theorem ty156 : tyB Try.prog 156 false 1 = true := by kernel_rfl
theorem in156 : (Try.prog.info? 156).map (fun i => (i.zero, i.size, i.bytes)) = some (some (.slice none 0 0), 1, 24) := by kernel_rfl
theorem ty160 : tyB Try.prog 160 false 1 = true := by kernel_rfl
theorem in160 : (Try.prog.info? 160).map (fun i => (i.zero, i.size, i.bytes)) = some (some (.slice none 0 0), 1, 24) := by kernel_rfl
theorem ty165 : tyB Try.prog 165 true 4 = true := by kernel_rfl
theorem in165 : (Try.prog.info? 165).map (fun i => (i.zero, i.size, i.bytes)) = some (some (.agg #[.int .i64 0, .int .i64 0, .int .i64 0, .int .i64 0]), 4, 32) := by kernel_rfl
theorem st165 : (match Try.prog.underlying 165 with | some (.struct fs) => fs.all (fun f => (Try.prog.info? f.type).isSome) | _ => false) = true := by kernel_rfl
theorem eqS165 (x0 : Int) (x1 : Int) (x2 : Int) (x3 : Int) (y0 : Int) (y1 : Int) (y2 : Int) (y3 : Int) (w : World) : (binOp .eql 165 (.agg (List.toArray [.int .i64 x0, .int .i64 x1, .int .i64 x2, .int .i64 x3])) (.agg (List.toArray [.int .i64 y0, .int .i64 y1, .int .i64 y2, .int .i64 y3]))).run Try.prog w = .ok (.bool ((decide (x0 = y0) && decide (x1 = y1) && decide (x2 = y2) && decide (x3 = y3)))) w := by
  have hs : Try.prog.stoodInHeld 165 = false := by kernel_rfl
  simp [go_sem, hs, Try.underlying165]
  repeat' split
  all_goals simp [*]
theorem neS165 (x0 : Int) (x1 : Int) (x2 : Int) (x3 : Int) (y0 : Int) (y1 : Int) (y2 : Int) (y3 : Int) (w : World) : (binOp .neq 165 (.agg (List.toArray [.int .i64 x0, .int .i64 x1, .int .i64 x2, .int .i64 x3])) (.agg (List.toArray [.int .i64 y0, .int .i64 y1, .int .i64 y2, .int .i64 y3]))).run Try.prog w = .ok (.bool (!(decide (x0 = y0) && decide (x1 = y1) && decide (x2 = y2) && decide (x3 = y3)))) w := by
  have hs : Try.prog.stoodInHeld 165 = false := by kernel_rfl
  simp [go_sem, hs, Try.underlying165]
  repeat' split
  all_goals simp [*]
theorem fl165_0 : fldB Try.prog 165 0 0 = true := by kernel_rfl
theorem fp165_0 : (match Try.prog.underlying 165 with | some (.struct fs) => (match fs[0]? with | some f => Nat.beq f.offset 0 && (match Try.prog.info? f.type with | some i => Nat.beq i.size 1 | none => false) | none => false) | _ => false) = true := by kernel_rfl
theorem fl165_1 : fldB Try.prog 165 1 1 = true := by kernel_rfl
theorem fp165_1 : (match Try.prog.underlying 165 with | some (.struct fs) => (match fs[1]? with | some f => Nat.beq f.offset 1 && (match Try.prog.info? f.type with | some i => Nat.beq i.size 1 | none => false) | none => false) | _ => false) = true := by kernel_rfl
theorem fl165_2 : fldB Try.prog 165 2 2 = true := by kernel_rfl
theorem fp165_2 : (match Try.prog.underlying 165 with | some (.struct fs) => (match fs[2]? with | some f => Nat.beq f.offset 2 && (match Try.prog.info? f.type with | some i => Nat.beq i.size 1 | none => false) | none => false) | _ => false) = true := by kernel_rfl
theorem fl165_3 : fldB Try.prog 165 3 3 = true := by kernel_rfl
theorem fp165_3 : (match Try.prog.underlying 165 with | some (.struct fs) => (match fs[3]? with | some f => Nat.beq f.offset 3 && (match Try.prog.info? f.type with | some i => Nat.beq i.size 1 | none => false) | none => false) | _ => false) = true := by kernel_rfl
theorem ty171 : tyB Try.prog 171 true 4 = true := by kernel_rfl
theorem in171 : (Try.prog.info? 171).map (fun i => (i.zero, i.size, i.bytes)) = some (some (.agg #[.int .i64 0, .int .i64 0, .int .i64 0, .int .i64 0]), 4, 32) := by kernel_rfl
theorem st171 : (match Try.prog.underlying 171 with | some (.struct fs) => fs.all (fun f => (Try.prog.info? f.type).isSome) | _ => false) = true := by kernel_rfl
theorem eqS171 (x0 : Int) (x1 : Int) (x2 : Int) (x3 : Int) (y0 : Int) (y1 : Int) (y2 : Int) (y3 : Int) (w : World) : (binOp .eql 171 (.agg (List.toArray [.int .i64 x0, .int .i64 x1, .int .i64 x2, .int .i64 x3])) (.agg (List.toArray [.int .i64 y0, .int .i64 y1, .int .i64 y2, .int .i64 y3]))).run Try.prog w = .ok (.bool ((decide (x0 = y0) && decide (x1 = y1) && decide (x2 = y2) && decide (x3 = y3)))) w := by
  have hs : Try.prog.stoodInHeld 171 = false := by kernel_rfl
  simp [go_sem, hs, Try.underlying171]
  repeat' split
  all_goals simp [*]
theorem neS171 (x0 : Int) (x1 : Int) (x2 : Int) (x3 : Int) (y0 : Int) (y1 : Int) (y2 : Int) (y3 : Int) (w : World) : (binOp .neq 171 (.agg (List.toArray [.int .i64 x0, .int .i64 x1, .int .i64 x2, .int .i64 x3])) (.agg (List.toArray [.int .i64 y0, .int .i64 y1, .int .i64 y2, .int .i64 y3]))).run Try.prog w = .ok (.bool (!(decide (x0 = y0) && decide (x1 = y1) && decide (x2 = y2) && decide (x3 = y3)))) w := by
  have hs : Try.prog.stoodInHeld 171 = false := by kernel_rfl
  simp [go_sem, hs, Try.underlying171]
  repeat' split
  all_goals simp [*]
theorem fl171_0 : fldB Try.prog 171 0 0 = true := by kernel_rfl
theorem fp171_0 : (match Try.prog.underlying 171 with | some (.struct fs) => (match fs[0]? with | some f => Nat.beq f.offset 0 && (match Try.prog.info? f.type with | some i => Nat.beq i.size 1 | none => false) | none => false) | _ => false) = true := by kernel_rfl
theorem fl171_1 : fldB Try.prog 171 1 1 = true := by kernel_rfl
theorem fp171_1 : (match Try.prog.underlying 171 with | some (.struct fs) => (match fs[1]? with | some f => Nat.beq f.offset 1 && (match Try.prog.info? f.type with | some i => Nat.beq i.size 1 | none => false) | none => false) | _ => false) = true := by kernel_rfl
theorem fl171_2 : fldB Try.prog 171 2 2 = true := by kernel_rfl
theorem fp171_2 : (match Try.prog.underlying 171 with | some (.struct fs) => (match fs[2]? with | some f => Nat.beq f.offset 2 && (match Try.prog.info? f.type with | some i => Nat.beq i.size 1 | none => false) | none => false) | _ => false) = true := by kernel_rfl
theorem fl171_3 : fldB Try.prog 171 3 3 = true := by kernel_rfl
theorem fp171_3 : (match Try.prog.underlying 171 with | some (.struct fs) => (match fs[3]? with | some f => Nat.beq f.offset 3 && (match Try.prog.info? f.type with | some i => Nat.beq i.size 1 | none => false) | none => false) | _ => false) = true := by kernel_rfl
theorem ty172 : tyB Try.prog 172 false 1 = true := by kernel_rfl
theorem in172 : (Try.prog.info? 172).map (fun i => (i.zero, i.size, i.bytes)) = some (some (.slice none 0 0), 1, 24) := by kernel_rfl
theorem ty176 : tyB Try.prog 176 true 5 = true := by kernel_rfl
theorem in176 : (Try.prog.info? 176).map (fun i => (i.zero, i.size, i.bytes)) = some (some (.agg #[.int .i64 0, .int .i64 0, .int .i64 0, .int .i64 0, .slice none 0 0]), 5, 56) := by kernel_rfl
theorem st176 : (match Try.prog.underlying 176 with | some (.struct fs) => fs.all (fun f => (Try.prog.info? f.type).isSome) | _ => false) = true := by kernel_rfl
theorem fl176_0 : fldB Try.prog 176 0 0 = true := by kernel_rfl
theorem fp176_0 : (match Try.prog.underlying 176 with | some (.struct fs) => (match fs[0]? with | some f => Nat.beq f.offset 0 && (match Try.prog.info? f.type with | some i => Nat.beq i.size 4 | none => false) | none => false) | _ => false) = true := by kernel_rfl
theorem fl176_1 : fldB Try.prog 176 1 4 = true := by kernel_rfl
theorem fp176_1 : (match Try.prog.underlying 176 with | some (.struct fs) => (match fs[1]? with | some f => Nat.beq f.offset 4 && (match Try.prog.info? f.type with | some i => Nat.beq i.size 1 | none => false) | none => false) | _ => false) = true := by kernel_rfl
theorem ty181 : tyB Try.prog 181 false 1 = true := by kernel_rfl
theorem in181 : (Try.prog.info? 181).map (fun i => (i.zero, i.size, i.bytes)) = some (some (.nilFunc), 1, 8) := by kernel_rfl
theorem ty184 : tyB Try.prog 184 false 1 = true := by kernel_rfl
theorem in184 : (Try.prog.info? 184).map (fun i => (i.zero, i.size, i.bytes)) = some (some (.int .u64 0), 1, 8) := by kernel_rfl
theorem ty186 : tyB Try.prog 186 false 1 = true := by kernel_rfl
theorem in186 : (Try.prog.info? 186).map (fun i => (i.zero, i.size, i.bytes)) = some (some (.nilFunc), 1, 8) := by kernel_rfl
theorem ty190 : tyB Try.prog 190 false 1 = true := by kernel_rfl
theorem in190 : (Try.prog.info? 190).map (fun i => (i.zero, i.size, i.bytes)) = some (some (.slice none 0 0), 1, 24) := by kernel_rfl
theorem ty191 : tyB Try.prog 191 false 1 = true := by kernel_rfl
theorem in191 : (Try.prog.info? 191).map (fun i => (i.zero, i.size, i.bytes)) = some (some (.slice none 0 0), 1, 24) := by kernel_rfl
theorem ty194 : tyB Try.prog 194 true 4 = true := by kernel_rfl
theorem in194 : (Try.prog.info? 194).map (fun i => (i.zero, i.size, i.bytes)) = some (some (.agg #[.int .i64 0, .bool false, .int .i64 0, .int .i64 0]), 4, 32) := by kernel_rfl
theorem st194 : (match Try.prog.underlying 194 with | some (.struct fs) => fs.all (fun f => (Try.prog.info? f.type).isSome) | _ => false) = true := by kernel_rfl
theorem fl194_0 : fldB Try.prog 194 0 0 = true := by kernel_rfl
theorem fp194_0 : (match Try.prog.underlying 194 with | some (.struct fs) => (match fs[0]? with | some f => Nat.beq f.offset 0 && (match Try.prog.info? f.type with | some i => Nat.beq i.size 2 | none => false) | none => false) | _ => false) = true := by kernel_rfl
theorem fl194_1 : fldB Try.prog 194 1 2 = true := by kernel_rfl
theorem fp194_1 : (match Try.prog.underlying 194 with | some (.struct fs) => (match fs[1]? with | some f => Nat.beq f.offset 2 && (match Try.prog.info? f.type with | some i => Nat.beq i.size 1 | none => false) | none => false) | _ => false) = true := by kernel_rfl
theorem fl194_2 : fldB Try.prog 194 2 3 = true := by kernel_rfl
theorem fp194_2 : (match Try.prog.underlying 194 with | some (.struct fs) => (match fs[2]? with | some f => Nat.beq f.offset 3 && (match Try.prog.info? f.type with | some i => Nat.beq i.size 1 | none => false) | none => false) | _ => false) = true := by kernel_rfl
theorem ty197 : tyB Try.prog 197 true 4 = true := by kernel_rfl
theorem in197 : (Try.prog.info? 197).map (fun i => (i.zero, i.size, i.bytes)) = some (some (.agg #[.int .i64 0, .int .i64 0, .int .i64 0, .int .i64 0]), 4, 32) := by kernel_rfl
theorem st197 : (match Try.prog.underlying 197 with | some (.struct fs) => fs.all (fun f => (Try.prog.info? f.type).isSome) | _ => false) = true := by kernel_rfl
theorem eqS197 (x0 : Int) (x1 : Int) (x2 : Int) (x3 : Int) (y0 : Int) (y1 : Int) (y2 : Int) (y3 : Int) (w : World) : (binOp .eql 197 (.agg (List.toArray [.int .i64 x0, .int .i64 x1, .int .i64 x2, .int .i64 x3])) (.agg (List.toArray [.int .i64 y0, .int .i64 y1, .int .i64 y2, .int .i64 y3]))).run Try.prog w = .ok (.bool ((decide (x0 = y0) && decide (x1 = y1) && decide (x2 = y2) && decide (x3 = y3)))) w := by
  have hs : Try.prog.stoodInHeld 197 = false := by kernel_rfl
  simp [go_sem, hs, Try.underlying197]
  repeat' split
  all_goals simp [*]
theorem neS197 (x0 : Int) (x1 : Int) (x2 : Int) (x3 : Int) (y0 : Int) (y1 : Int) (y2 : Int) (y3 : Int) (w : World) : (binOp .neq 197 (.agg (List.toArray [.int .i64 x0, .int .i64 x1, .int .i64 x2, .int .i64 x3])) (.agg (List.toArray [.int .i64 y0, .int .i64 y1, .int .i64 y2, .int .i64 y3]))).run Try.prog w = .ok (.bool (!(decide (x0 = y0) && decide (x1 = y1) && decide (x2 = y2) && decide (x3 = y3)))) w := by
  have hs : Try.prog.stoodInHeld 197 = false := by kernel_rfl
  simp [go_sem, hs, Try.underlying197]
  repeat' split
  all_goals simp [*]
theorem fl197_0 : fldB Try.prog 197 0 0 = true := by kernel_rfl
theorem fp197_0 : (match Try.prog.underlying 197 with | some (.struct fs) => (match fs[0]? with | some f => Nat.beq f.offset 0 && (match Try.prog.info? f.type with | some i => Nat.beq i.size 1 | none => false) | none => false) | _ => false) = true := by kernel_rfl
theorem fl197_1 : fldB Try.prog 197 1 1 = true := by kernel_rfl
theorem fp197_1 : (match Try.prog.underlying 197 with | some (.struct fs) => (match fs[1]? with | some f => Nat.beq f.offset 1 && (match Try.prog.info? f.type with | some i => Nat.beq i.size 1 | none => false) | none => false) | _ => false) = true := by kernel_rfl
theorem fl197_2 : fldB Try.prog 197 2 2 = true := by kernel_rfl
theorem fp197_2 : (match Try.prog.underlying 197 with | some (.struct fs) => (match fs[2]? with | some f => Nat.beq f.offset 2 && (match Try.prog.info? f.type with | some i => Nat.beq i.size 1 | none => false) | none => false) | _ => false) = true := by kernel_rfl
theorem fl197_3 : fldB Try.prog 197 3 3 = true := by kernel_rfl
theorem fp197_3 : (match Try.prog.underlying 197 with | some (.struct fs) => (match fs[3]? with | some f => Nat.beq f.offset 3 && (match Try.prog.info? f.type with | some i => Nat.beq i.size 1 | none => false) | none => false) | _ => false) = true := by kernel_rfl
theorem ty199 : tyB Try.prog 199 true 4 = true := by kernel_rfl
theorem in199 : (Try.prog.info? 199).map (fun i => (i.zero, i.size, i.bytes)) = some (some (.agg #[.int .i64 0, .int .i64 0, .int .i64 0, .int .i64 0]), 4, 32) := by kernel_rfl
theorem st199 : (match Try.prog.underlying 199 with | some (.struct fs) => fs.all (fun f => (Try.prog.info? f.type).isSome) | _ => false) = true := by kernel_rfl
theorem eqS199 (x0 : Int) (x1 : Int) (x2 : Int) (x3 : Int) (y0 : Int) (y1 : Int) (y2 : Int) (y3 : Int) (w : World) : (binOp .eql 199 (.agg (List.toArray [.int .i64 x0, .int .i64 x1, .int .i64 x2, .int .i64 x3])) (.agg (List.toArray [.int .i64 y0, .int .i64 y1, .int .i64 y2, .int .i64 y3]))).run Try.prog w = .ok (.bool ((decide (x0 = y0) && decide (x1 = y1) && decide (x2 = y2) && decide (x3 = y3)))) w := by
  have hs : Try.prog.stoodInHeld 199 = false := by kernel_rfl
  simp [go_sem, hs, Try.underlying199]
  repeat' split
  all_goals simp [*]
theorem neS199 (x0 : Int) (x1 : Int) (x2 : Int) (x3 : Int) (y0 : Int) (y1 : Int) (y2 : Int) (y3 : Int) (w : World) : (binOp .neq 199 (.agg (List.toArray [.int .i64 x0, .int .i64 x1, .int .i64 x2, .int .i64 x3])) (.agg (List.toArray [.int .i64 y0, .int .i64 y1, .int .i64 y2, .int .i64 y3]))).run Try.prog w = .ok (.bool (!(decide (x0 = y0) && decide (x1 = y1) && decide (x2 = y2) && decide (x3 = y3)))) w := by
  have hs : Try.prog.stoodInHeld 199 = false := by kernel_rfl
  simp [go_sem, hs, Try.underlying199]
  repeat' split
  all_goals simp [*]
theorem fl199_0 : fldB Try.prog 199 0 0 = true := by kernel_rfl
theorem fp199_0 : (match Try.prog.underlying 199 with | some (.struct fs) => (match fs[0]? with | some f => Nat.beq f.offset 0 && (match Try.prog.info? f.type with | some i => Nat.beq i.size 1 | none => false) | none => false) | _ => false) = true := by kernel_rfl
theorem fl199_1 : fldB Try.prog 199 1 1 = true := by kernel_rfl
theorem fp199_1 : (match Try.prog.underlying 199 with | some (.struct fs) => (match fs[1]? with | some f => Nat.beq f.offset 1 && (match Try.prog.info? f.type with | some i => Nat.beq i.size 1 | none => false) | none => false) | _ => false) = true := by kernel_rfl
theorem fl199_2 : fldB Try.prog 199 2 2 = true := by kernel_rfl
theorem fp199_2 : (match Try.prog.underlying 199 with | some (.struct fs) => (match fs[2]? with | some f => Nat.beq f.offset 2 && (match Try.prog.info? f.type with | some i => Nat.beq i.size 1 | none => false) | none => false) | _ => false) = true := by kernel_rfl
theorem fl199_3 : fldB Try.prog 199 3 3 = true := by kernel_rfl
theorem fp199_3 : (match Try.prog.underlying 199 with | some (.struct fs) => (match fs[3]? with | some f => Nat.beq f.offset 3 && (match Try.prog.info? f.type with | some i => Nat.beq i.size 1 | none => false) | none => false) | _ => false) = true := by kernel_rfl
theorem ty201 : tyB Try.prog 201 false 1 = true := by kernel_rfl
theorem in201 : (Try.prog.info? 201).map (fun i => (i.zero, i.size, i.bytes)) = some (some (.slice none 0 0), 1, 24) := by kernel_rfl
theorem ty203 : tyB Try.prog 203 true 4 = true := by kernel_rfl
theorem in203 : (Try.prog.info? 203).map (fun i => (i.zero, i.size, i.bytes)) = some (some (.agg #[.int .i64 0, .bool false, .int .i64 0, .int .i64 0]), 4, 32) := by kernel_rfl
theorem st203 : (match Try.prog.underlying 203 with | some (.struct fs) => fs.all (fun f => (Try.prog.info? f.type).isSome) | _ => false) = true := by kernel_rfl
theorem fl203_0 : fldB Try.prog 203 0 0 = true := by kernel_rfl
theorem fp203_0 : (match Try.prog.underlying 203 with | some (.struct fs) => (match fs[0]? with | some f => Nat.beq f.offset 0 && (match Try.prog.info? f.type with | some i => Nat.beq i.size 2 | none => false) | none => false) | _ => false) = true := by kernel_rfl
theorem fl203_1 : fldB Try.prog 203 1 2 = true := by kernel_rfl
theorem fp203_1 : (match Try.prog.underlying 203 with | some (.struct fs) => (match fs[1]? with | some f => Nat.beq f.offset 2 && (match Try.prog.info? f.type with | some i => Nat.beq i.size 1 | none => false) | none => false) | _ => false) = true := by kernel_rfl
theorem fl203_2 : fldB Try.prog 203 2 3 = true := by kernel_rfl
theorem fp203_2 : (match Try.prog.underlying 203 with | some (.struct fs) => (match fs[2]? with | some f => Nat.beq f.offset 3 && (match Try.prog.info? f.type with | some i => Nat.beq i.size 1 | none => false) | none => false) | _ => false) = true := by kernel_rfl
theorem ty209 : tyB Try.prog 209 false 1 = true := by kernel_rfl
theorem in209 : (Try.prog.info? 209).map (fun i => (i.zero, i.size, i.bytes)) = some (some (.slice none 0 0), 1, 24) := by kernel_rfl
theorem ty213 : tyB Try.prog 213 false 1 = true := by kernel_rfl
theorem in213 : (Try.prog.info? 213).map (fun i => (i.zero, i.size, i.bytes)) = some (some (.nilFunc), 1, 8) := by kernel_rfl
theorem ty231 : tyB Try.prog 231 false 1 = true := by kernel_rfl
theorem in231 : (Try.prog.info? 231).map (fun i => (i.zero, i.size, i.bytes)) = some (some (.int .u32 0), 1, 4) := by kernel_rfl
theorem ty233 : tyB Try.prog 233 false 1 = true := by kernel_rfl
theorem in233 : (Try.prog.info? 233).map (fun i => (i.zero, i.size, i.bytes)) = some (some (.int .u64 0), 1, 8) := by kernel_rfl
theorem ty245 : tyB Try.prog 245 false 1 = true := by kernel_rfl
theorem in245 : (Try.prog.info? 245).map (fun i => (i.zero, i.size, i.bytes)) = some (some (.slice none 0 0), 1, 24) := by kernel_rfl
theorem ty247 : tyB Try.prog 247 false 1 = true := by kernel_rfl
theorem in247 : (Try.prog.info? 247).map (fun i => (i.zero, i.size, i.bytes)) = some (some (.int .u64 0), 1, 8) := by kernel_rfl
theorem ty251 : tyB Try.prog 251 false 1 = true := by kernel_rfl
theorem in251 : (Try.prog.info? 251).map (fun i => (i.zero, i.size, i.bytes)) = some (some (.pointer none), 1, 8) := by kernel_rfl
end Go.Proofs.Ytjmefmdeghggeaa
