/- The facts of the types that the walks in abstract states ask for. -/
import Derived.Test.YtocnceglpkobaaaData
import Derived.Test.YtocnceglpkobaaaProg
namespace Go.Proofs.Ytocnceglpkobaaa
open Go.RowKit Go.Q
theorem ty3 : tyB Try.prog 3 false 1 = true := by kernel_rfl
theorem in3 : (Try.prog.info? 3).map (fun i => (i.zero, i.size, i.bytes)) = some (some (.int .i64 0), 1, 8) := by kernel_rfl
theorem ty4 : tyB Try.prog 4 false 1 = true := by kernel_rfl
theorem in4 : (Try.prog.info? 4).map (fun i => (i.zero, i.size, i.bytes)) = some (some (.bool false), 1, 1) := by kernel_rfl
theorem ty9 : tyB Try.prog 9 false 1 = true := by kernel_rfl
theorem in9 : (Try.prog.info? 9).map (fun i => (i.zero, i.size, i.bytes)) = some (some (.string .empty), 1, 16) := by kernel_rfl
theorem ty22 : tyB Try.prog 22 false 1 = true := by kernel_rfl
theorem in22 : (Try.prog.info? 22).map (fun i => (i.zero, i.size, i.bytes)) = some (some (.slice none 0 0), 1, 24) := by kernel_rfl
theorem ty23 : tyB Try.prog 23 false 1 = true := by kernel_rfl
theorem in23 : (Try.prog.info? 23).map (fun i => (i.zero, i.size, i.bytes)) = some (some (.slice none 0 0), 1, 24) := by kernel_rfl
theorem ty25 : tyB Try.prog 25 true 2 = true := by kernel_rfl
theorem in25 : (Try.prog.info? 25).map (fun i => (i.zero, i.size, i.bytes)) = some (some (.agg #[.slice none 0 0, .slice none 0 0]), 2, 48) := by kernel_rfl
theorem st25 : (match Try.prog.underlying 25 with | some (.struct fs) => fs.all (fun f => (Try.prog.info? f.type).isSome) | _ => false) = true := by kernel_rfl
theorem fl25_0 : fldB Try.prog 25 0 0 = true := by kernel_rfl
theorem fp25_0 : (match Try.prog.underlying 25 with | some (.struct fs) => (match fs[0]? with | some f => Nat.beq f.offset 0 && (match Try.prog.info? f.type with | some i => Nat.beq i.size 1 | none => false) | none => false) | _ => false) = true := by kernel_rfl
theorem fl25_1 : fldB Try.prog 25 1 1 = true := by kernel_rfl
theorem fp25_1 : (match Try.prog.underlying 25 with | some (.struct fs) => (match fs[1]? with | some f => Nat.beq f.offset 1 && (match Try.prog.info? f.type with | some i => Nat.beq i.size 1 | none => false) | none => false) | _ => false) = true := by kernel_rfl
theorem ty26 : tyB Try.prog 26 false 1 = true := by kernel_rfl
theorem in26 : (Try.prog.info? 26).map (fun i => (i.zero, i.size, i.bytes)) = some (some (.slice none 0 0), 1, 24) := by kernel_rfl
theorem ty27 : tyB Try.prog 27 false 1 = true := by kernel_rfl
theorem in27 : (Try.prog.info? 27).map (fun i => (i.zero, i.size, i.bytes)) = some (some (.slice none 0 0), 1, 24) := by kernel_rfl
theorem ty29 : tyB Try.prog 29 true 3 = true := by kernel_rfl
theorem in29 : (Try.prog.info? 29).map (fun i => (i.zero, i.size, i.bytes)) = some (some (.agg #[.int .i64 0, .slice none 0 0, .slice none 0 0]), 3, 56) := by kernel_rfl
theorem st29 : (match Try.prog.underlying 29 with | some (.struct fs) => fs.all (fun f => (Try.prog.info? f.type).isSome) | _ => false) = true := by kernel_rfl
theorem fl29_0 : fldB Try.prog 29 0 0 = true := by kernel_rfl
theorem fp29_0 : (match Try.prog.underlying 29 with | some (.struct fs) => (match fs[0]? with | some f => Nat.beq f.offset 0 && (match Try.prog.info? f.type with | some i => Nat.beq i.size 1 | none => false) | none => false) | _ => false) = true := by kernel_rfl
theorem fl29_1 : fldB Try.prog 29 1 1 = true := by kernel_rfl
theorem fp29_1 : (match Try.prog.underlying 29 with | some (.struct fs) => (match fs[1]? with | some f => Nat.beq f.offset 1 && (match Try.prog.info? f.type with | some i => Nat.beq i.size 1 | none => false) | none => false) | _ => false) = true := by kernel_rfl
theorem fl29_2 : fldB Try.prog 29 2 2 = true := by kernel_rfl
theorem fp29_2 : (match Try.prog.underlying 29 with | some (.struct fs) => (match fs[2]? with | some f => Nat.beq f.offset 2 && (match Try.prog.info? f.type with | some i => Nat.beq i.size 1 | none => false) | none => false) | _ => false) = true := by kernel_rfl
theorem ty33 : tyB Try.prog 33 false 1 = true := by kernel_rfl
theorem in33 : (Try.prog.info? 33).map (fun i => (i.zero, i.size, i.bytes)) = some (some (.slice none 0 0), 1, 24) := by kernel_rfl
theorem ty35 : tyB Try.prog 35 true 2 = true := by kernel_rfl
theorem in35 : (Try.prog.info? 35).map (fun i => (i.zero, i.size, i.bytes)) = some (some (.agg #[.slice none 0 0, .slice none 0 0]), 2, 48) := by kernel_rfl
theorem st35 : (match Try.prog.underlying 35 with | some (.struct fs) => fs.all (fun f => (Try.prog.info? f.type).isSome) | _ => false) = true := by kernel_rfl
theorem fl35_0 : fldB Try.prog 35 0 0 = true := by kernel_rfl
theorem fp35_0 : (match Try.prog.underlying 35 with | some (.struct fs) => (match fs[0]? with | some f => Nat.beq f.offset 0 && (match Try.prog.info? f.type with | some i => Nat.beq i.size 1 | none => false) | none => false) | _ => false) = true := by kernel_rfl
theorem fl35_1 : fldB Try.prog 35 1 1 = true := by kernel_rfl
theorem fp35_1 : (match Try.prog.underlying 35 with | some (.struct fs) => (match fs[1]? with | some f => Nat.beq f.offset 1 && (match Try.prog.info? f.type with | some i => Nat.beq i.size 1 | none => false) | none => false) | _ => false) = true := by kernel_rfl
theorem ty37 : tyB Try.prog 37 true 3 = true := by kernel_rfl
theorem in37 : (Try.prog.info? 37).map (fun i => (i.zero, i.size, i.bytes)) = some (some (.agg #[.int .i64 0, .slice none 0 0, .slice none 0 0]), 3, 56) := by kernel_rfl
theorem st37 : (match Try.prog.underlying 37 with | some (.struct fs) => fs.all (fun f => (Try.prog.info? f.type).isSome) | _ => false) = true := by kernel_rfl
theorem fl37_0 : fldB Try.prog 37 0 0 = true := by kernel_rfl
theorem fp37_0 : (match Try.prog.underlying 37 with | some (.struct fs) => (match fs[0]? with | some f => Nat.beq f.offset 0 && (match Try.prog.info? f.type with | some i => Nat.beq i.size 1 | none => false) | none => false) | _ => false) = true := by kernel_rfl
theorem fl37_1 : fldB Try.prog 37 1 1 = true := by kernel_rfl
theorem fp37_1 : (match Try.prog.underlying 37 with | some (.struct fs) => (match fs[1]? with | some f => Nat.beq f.offset 1 && (match Try.prog.info? f.type with | some i => Nat.beq i.size 1 | none => false) | none => false) | _ => false) = true := by kernel_rfl
theorem fl37_2 : fldB Try.prog 37 2 2 = true := by kernel_rfl
theorem fp37_2 : (match Try.prog.underlying 37 with | some (.struct fs) => (match fs[2]? with | some f => Nat.beq f.offset 2 && (match Try.prog.info? f.type with | some i => Nat.beq i.size 1 | none => false) | none => false) | _ => false) = true := by kernel_rfl
theorem ty42 : tyB Try.prog 42 false 1 = true := by kernel_rfl
theorem in42 : (Try.prog.info? 42).map (fun i => (i.zero, i.size, i.bytes)) = some (some (.nilFunc), 1, 8) := by kernel_rfl
theorem ty54 : tyB Try.prog 54 true 6 = true := by kernel_rfl
theorem in54 : (Try.prog.info? 54).map (fun i => (i.zero, i.size, i.bytes)) = some (some (.agg #[.int .i64 0, .slice none 0 0, .slice none 0 0, .int .i64 0, .slice none 0 0, .slice none 0 0]), 6, 112) := by kernel_rfl
theorem st54 : (match Try.prog.underlying 54 with | some (.struct fs) => fs.all (fun f => (Try.prog.info? f.type).isSome) | _ => false) = true := by kernel_rfl
theorem fl54_0 : fldB Try.prog 54 0 0 = true := by kernel_rfl
theorem fp54_0 : (match Try.prog.underlying 54 with | some (.struct fs) => (match fs[0]? with | some f => Nat.beq f.offset 0 && (match Try.prog.info? f.type with | some i => Nat.beq i.size 3 | none => false) | none => false) | _ => false) = true := by kernel_rfl
theorem fl54_1 : fldB Try.prog 54 1 3 = true := by kernel_rfl
theorem fp54_1 : (match Try.prog.underlying 54 with | some (.struct fs) => (match fs[1]? with | some f => Nat.beq f.offset 3 && (match Try.prog.info? f.type with | some i => Nat.beq i.size 1 | none => false) | none => false) | _ => false) = true := by kernel_rfl
theorem fl54_2 : fldB Try.prog 54 2 4 = true := by kernel_rfl
theorem fp54_2 : (match Try.prog.underlying 54 with | some (.struct fs) => (match fs[2]? with | some f => Nat.beq f.offset 4 && (match Try.prog.info? f.type with | some i => Nat.beq i.size 1 | none => false) | none => false) | _ => false) = true := by kernel_rfl
theorem fl54_3 : fldB Try.prog 54 3 5 = true := by kernel_rfl
theorem fp54_3 : (match Try.prog.underlying 54 with | some (.struct fs) => (match fs[3]? with | some f => Nat.beq f.offset 5 && (match Try.prog.info? f.type with | some i => Nat.beq i.size 1 | none => false) | none => false) | _ => false) = true := by kernel_rfl
theorem ty58 : tyB Try.prog 58 true 6 = true := by kernel_rfl
theorem in58 : (Try.prog.info? 58).map (fun i => (i.zero, i.size, i.bytes)) = some (some (.agg #[.int .i64 0, .slice none 0 0, .slice none 0 0, .int .i64 0, .slice none 0 0, .slice none 0 0]), 6, 112) := by kernel_rfl
theorem st58 : (match Try.prog.underlying 58 with | some (.struct fs) => fs.all (fun f => (Try.prog.info? f.type).isSome) | _ => false) = true := by kernel_rfl
theorem fl58_0 : fldB Try.prog 58 0 0 = true := by kernel_rfl
theorem fp58_0 : (match Try.prog.underlying 58 with | some (.struct fs) => (match fs[0]? with | some f => Nat.beq f.offset 0 && (match Try.prog.info? f.type with | some i => Nat.beq i.size 3 | none => false) | none => false) | _ => false) = true := by kernel_rfl
theorem fl58_1 : fldB Try.prog 58 1 3 = true := by kernel_rfl
theorem fp58_1 : (match Try.prog.underlying 58 with | some (.struct fs) => (match fs[1]? with | some f => Nat.beq f.offset 3 && (match Try.prog.info? f.type with | some i => Nat.beq i.size 1 | none => false) | none => false) | _ => false) = true := by kernel_rfl
theorem fl58_2 : fldB Try.prog 58 2 4 = true := by kernel_rfl
theorem fp58_2 : (match Try.prog.underlying 58 with | some (.struct fs) => (match fs[2]? with | some f => Nat.beq f.offset 4 && (match Try.prog.info? f.type with | some i => Nat.beq i.size 1 | none => false) | none => false) | _ => false) = true := by kernel_rfl
theorem fl58_3 : fldB Try.prog 58 3 5 = true := by kernel_rfl
theorem fp58_3 : (match Try.prog.underlying 58 with | some (.struct fs) => (match fs[3]? with | some f => Nat.beq f.offset 5 && (match Try.prog.info? f.type with | some i => Nat.beq i.size 1 | none => false) | none => false) | _ => false) = true := by kernel_rfl
theorem ty68 : tyB Try.prog 68 false 1 = true := by kernel_rfl
theorem in68 : (Try.prog.info? 68).map (fun i => (i.zero, i.size, i.bytes)) = some (some (.slice none 0 0), 1, 24) := by kernel_rfl
theorem ty72 : tyB Try.prog 72 false 1 = true := by kernel_rfl
theorem in72 : (Try.prog.info? 72).map (fun i => (i.zero, i.size, i.bytes)) = some (some (.slice none 0 0), 1, 24) := by kernel_rfl
theorem ty74 : tyB Try.prog 74 true 2 = true := by kernel_rfl
theorem in74 : (Try.prog.info? 74).map (fun i => (i.zero, i.size, i.bytes)) = some (some (.agg #[.int .i64 0, .slice none 0 0]), 2, 32) := by kernel_rfl
theorem st74 : (match Try.prog.underlying 74 with | some (.struct fs) => fs.all (fun f => (Try.prog.info? f.type).isSome) | _ => false) = true := by kernel_rfl
theorem fl74_0 : fldB Try.prog 74 0 0 = true := by kernel_rfl
theorem fp74_0 : (match Try.prog.underlying 74 with | some (.struct fs) => (match fs[0]? with | some f => Nat.beq f.offset 0 && (match Try.prog.info? f.type with | some i => Nat.beq i.size 1 | none => false) | none => false) | _ => false) = true := by kernel_rfl
theorem fl74_1 : fldB Try.prog 74 1 1 = true := by kernel_rfl
theorem fp74_1 : (match Try.prog.underlying 74 with | some (.struct fs) => (match fs[1]? with | some f => Nat.beq f.offset 1 && (match Try.prog.info? f.type with | some i => Nat.beq i.size 1 | none => false) | none => false) | _ => false) = true := by kernel_rfl
theorem ty95 : tyB Try.prog 95 true 2 = true := by kernel_rfl
theorem in95 : (Try.prog.info? 95).map (fun i => (i.zero, i.size, i.bytes)) = some (some (.agg #[.int .i64 0, .int .i64 0]), 2, 16) := by kernel_rfl
theorem st95 : (match Try.prog.underlying 95 with | some (.struct fs) => fs.all (fun f => (Try.prog.info? f.type).isSome) | _ => false) = true := by kernel_rfl
theorem eqS95 (x0 : Int) (x1 : Int) (y0 : Int) (y1 : Int) (w : World) : (binOp .eql 95 (.agg (List.toArray [.int .i64 x0, .int .i64 x1])) (.agg (List.toArray [.int .i64 y0, .int .i64 y1]))).run Try.prog w = .ok (.bool ((decide (x0 = y0) && decide (x1 = y1)))) w := by
  have hs : Try.prog.stoodInHeld 95 = false := by kernel_rfl
  simp [go_sem, hs, Try.underlying95]
  repeat' split
  all_goals simp [*]
theorem neS95 (x0 : Int) (x1 : Int) (y0 : Int) (y1 : Int) (w : World) : (binOp .neq 95 (.agg (List.toArray [.int .i64 x0, .int .i64 x1])) (.agg (List.toArray [.int .i64 y0, .int .i64 y1]))).run Try.prog w = .ok (.bool (!(decide (x0 = y0) && decide (x1 = y1)))) w := by
  have hs : Try.prog.stoodInHeld 95 = false := by kernel_rfl
  simp [go_sem, hs, Try.underlying95]
  repeat' split
  all_goals simp [*]
theorem fl95_0 : fldB Try.prog 95 0 0 = true := by kernel_rfl
theorem fp95_0 : (match Try.prog.underlying 95 with | some (.struct fs) => (match fs[0]? with | some f => Nat.beq f.offset 0 && (match Try.prog.info? f.type with | some i => Nat.beq i.size 1 | none => false) | none => false) | _ => false) = true := by kernel_rfl
theorem fl95_1 : fldB Try.prog 95 1 1 = true := by kernel_rfl
theorem fp95_1 : (match Try.prog.underlying 95 with | some (.struct fs) => (match fs[1]? with | some f => Nat.beq f.offset 1 && (match Try.prog.info? f.type with | some i => Nat.beq i.size 1 | none => false) | none => false) | _ => false) = true := by kernel_rfl
theorem ty96 : tyB Try.prog 96 false 1 = true := by kernel_rfl
theorem in96 : (Try.prog.info? 96).map (fun i => (i.zero, i.size, i.bytes)) = some (some (.slice none 0 0), 1, 24) := by kernel_rfl
theorem ty102 : tyB Try.prog 102 false 1 = true := by kernel_rfl
theorem in102 : (Try.prog.info? 102).map (fun i => (i.zero, i.size, i.bytes)) = some (some (.nilFunc), 1, 8) := by kernel_rfl
theorem ty109 : tyB Try.prog 109 false 1 = true := by kernel_rfl
theorem in109 : (Try.prog.info? 109).map (fun i => (i.zero, i.size, i.bytes)) = some (some (.slice none 0 0), 1, 24) := by kernel_rfl
theorem ty112 : tyB Try.prog 112 true 2 = true := by kernel_rfl
theorem in112 : (Try.prog.info? 112).map (fun i => (i.zero, i.size, i.bytes)) = some (some (.agg #[.int .i64 0, .bool false]), 2, 16) := by kernel_rfl
theorem st112 : (match Try.prog.underlying 112 with | some (.struct fs) => fs.all (fun f => (Try.prog.info? f.type).isSome) | _ => false) = true := by kernel_rfl
theorem eqS112 (x0 : Int) (x1 : Bool) (y0 : Int) (y1 : Bool) (w : World) : (binOp .eql 112 (.agg (List.toArray [.int .i64 x0, .bool x1])) (.agg (List.toArray [.int .i64 y0, .bool y1]))).run Try.prog w = .ok (.bool ((decide (x0 = y0) && decide (x1 = y1)))) w := by
  have hs : Try.prog.stoodInHeld 112 = false := by kernel_rfl
  simp [go_sem, hs, Try.underlying112]
  repeat' split
  all_goals simp [*]
theorem neS112 (x0 : Int) (x1 : Bool) (y0 : Int) (y1 : Bool) (w : World) : (binOp .neq 112 (.agg (List.toArray [.int .i64 x0, .bool x1])) (.agg (List.toArray [.int .i64 y0, .bool y1]))).run Try.prog w = .ok (.bool (!(decide (x0 = y0) && decide (x1 = y1)))) w := by
  have hs : Try.prog.stoodInHeld 112 = false := by kernel_rfl
  simp [go_sem, hs, Try.underlying112]
  repeat' split
  all_goals simp [*]
theorem fl112_0 : fldB Try.prog 112 0 0 = true := by kernel_rfl
theorem fp112_0 : (match Try.prog.underlying 112 with | some (.struct fs) => (match fs[0]? with | some f => Nat.beq f.offset 0 && (match Try.prog.info? f.type with | some i => Nat.beq i.size 1 | none => false) | none => false) | _ => false) = true := by kernel_rfl
theorem fl112_1 : fldB Try.prog 112 1 1 = true := by kernel_rfl
theorem fp112_1 : (match Try.prog.underlying 112 with | some (.struct fs) => (match fs[1]? with | some f => Nat.beq f.offset 1 && (match Try.prog.info? f.type with | some i => Nat.beq i.size 1 | none => false) | none => false) | _ => false) = true := by kernel_rfl
theorem ty114 : tyB Try.prog 114 true 5 = true := by kernel_rfl
theorem in114 : (Try.prog.info? 114).map (fun i => (i.zero, i.size, i.bytes)) = some (some (.agg #[.int .i64 0, .int .i64 0, .int .i64 0, .int .i64 0, .bool false]), 5, 40) := by kernel_rfl
theorem st114 : (match Try.prog.underlying 114 with | some (.struct fs) => fs.all (fun f => (Try.prog.info? f.type).isSome) | _ => false) = true := by kernel_rfl
theorem fl114_0 : fldB Try.prog 114 0 0 = true := by kernel_rfl
theorem fp114_0 : (match Try.prog.underlying 114 with | some (.struct fs) => (match fs[0]? with | some f => Nat.beq f.offset 0 && (match Try.prog.info? f.type with | some i => Nat.beq i.size 1 | none => false) | none => false) | _ => false) = true := by kernel_rfl
theorem fl114_1 : fldB Try.prog 114 1 1 = true := by kernel_rfl
theorem fp114_1 : (match Try.prog.underlying 114 with | some (.struct fs) => (match fs[1]? with | some f => Nat.beq f.offset 1 && (match Try.prog.info? f.type with | some i => Nat.beq i.size 1 | none => false) | none => false) | _ => false) = true := by kernel_rfl
theorem fl114_2 : fldB Try.prog 114 2 2 = true := by kernel_rfl
theorem fp114_2 : (match Try.prog.underlying 114 with | some (.struct fs) => (match fs[2]? with | some f => Nat.beq f.offset 2 && (match Try.prog.info? f.type with | some i => Nat.beq i.size 1 | none => false) | none => false) | _ => false) = true := by kernel_rfl
theorem fl114_3 : fldB Try.prog 114 3 3 = true := by kernel_rfl
theorem fp114_3 : (match Try.prog.underlying 114 with | some (.struct fs) => (match fs[3]? with | some f => Nat.beq f.offset 3 && (match Try.prog.info? f.type with | some i => Nat.beq i.size 2 | none => false) | none => false) | _ => false) = true := by kernel_rfl
theorem ty117 : tyB Try.prog 117 true 2 = true := by kernel_rfl
theorem in117 : (Try.prog.info? 117).map (fun i => (i.zero, i.size, i.bytes)) = some (some (.agg #[.int .i64 0, .int .i64 0]), 2, 16) := by kernel_rfl
theorem st117 : (match Try.prog.underlying 117 with | some (.struct fs) => fs.all (fun f => (Try.prog.info? f.type).isSome) | _ => false) = true := by kernel_rfl
theorem eqS117 (x0 : Int) (x1 : Int) (y0 : Int) (y1 : Int) (w : World) : (binOp .eql 117 (.agg (List.toArray [.int .i64 x0, .int .i64 x1])) (.agg (List.toArray [.int .i64 y0, .int .i64 y1]))).run Try.prog w = .ok (.bool ((decide (x0 = y0) && decide (x1 = y1)))) w := by
  have hs : Try.prog.stoodInHeld 117 = false := by kernel_rfl
  simp [go_sem, hs, Try.underlying117]
  repeat' split
  all_goals simp [*]
theorem neS117 (x0 : Int) (x1 : Int) (y0 : Int) (y1 : Int) (w : World) : (binOp .neq 117 (.agg (List.toArray [.int .i64 x0, .int .i64 x1])) (.agg (List.toArray [.int .i64 y0, .int .i64 y1]))).run Try.prog w = .ok (.bool (!(decide (x0 = y0) && decide (x1 = y1)))) w := by
  have hs : Try.prog.stoodInHeld 117 = false := by kernel_rfl
  simp [go_sem, hs, Try.underlying117]
  repeat' split
  all_goals simp [*]
theorem fl117_0 : fldB Try.prog 117 0 0 = true := by kernel_rfl
theorem fp117_0 : (match Try.prog.underlying 117 with | some (.struct fs) => (match fs[0]? with | some f => Nat.beq f.offset 0 && (match Try.prog.info? f.type with | some i => Nat.beq i.size 1 | none => false) | none => false) | _ => false) = true := by kernel_rfl
theorem fl117_1 : fldB Try.prog 117 1 1 = true := by kernel_rfl
theorem fp117_1 : (match Try.prog.underlying 117 with | some (.struct fs) => (match fs[1]? with | some f => Nat.beq f.offset 1 && (match Try.prog.info? f.type with | some i => Nat.beq i.size 1 | none => false) | none => false) | _ => false) = true := by kernel_rfl
theorem ty118 : tyB Try.prog 118 false 1 = true := by kernel_rfl
theorem in118 : (Try.prog.info? 118).map (fun i => (i.zero, i.size, i.bytes)) = some (some (.slice none 0 0), 1, 24) := by kernel_rfl
theorem ty123 : tyB Try.prog 123 false 1 = true := by kernel_rfl
theorem in123 : (Try.prog.info? 123).map (fun i => (i.zero, i.size, i.bytes)) = some (some (.pointer none), 1, 8) := by kernel_rfl
theorem ty125 : tyB Try.prog 125 false 1 = true := by kernel_rfl
theorem in125 : (Try.prog.info? 125).map (fun i => (i.zero, i.size, i.bytes)) = some (some (.map none), 1, 8) := by kernel_rfl
theorem ty127 : tyB Try.prog 127 true 8 = true := by kernel_rfl
theorem in127 : (Try.prog.info? 127).map (fun i => (i.zero, i.size, i.bytes)) = some (some (.agg #[.slice none 0 0, .slice none 0 0, .int .i64 0, .slice none 0 0, .slice none 0 0, .int .i64 0, .slice none 0 0, .map none]), 8, 144) := by kernel_rfl
theorem st127 : (match Try.prog.underlying 127 with | some (.struct fs) => fs.all (fun f => (Try.prog.info? f.type).isSome) | _ => false) = true := by kernel_rfl
theorem fl127_0 : fldB Try.prog 127 0 0 = true := by kernel_rfl
theorem fp127_0 : (match Try.prog.underlying 127 with | some (.struct fs) => (match fs[0]? with | some f => Nat.beq f.offset 0 && (match Try.prog.info? f.type with | some i => Nat.beq i.size 2 | none => false) | none => false) | _ => false) = true := by kernel_rfl
theorem fl127_1 : fldB Try.prog 127 1 2 = true := by kernel_rfl
theorem fp127_1 : (match Try.prog.underlying 127 with | some (.struct fs) => (match fs[1]? with | some f => Nat.beq f.offset 2 && (match Try.prog.info? f.type with | some i => Nat.beq i.size 3 | none => false) | none => false) | _ => false) = true := by kernel_rfl
theorem fl127_2 : fldB Try.prog 127 2 5 = true := by kernel_rfl
theorem fp127_2 : (match Try.prog.underlying 127 with | some (.struct fs) => (match fs[2]? with | some f => Nat.beq f.offset 5 && (match Try.prog.info? f.type with | some i => Nat.beq i.size 1 | none => false) | none => false) | _ => false) = true := by kernel_rfl
theorem fl127_3 : fldB Try.prog 127 3 6 = true := by kernel_rfl
theorem fp127_3 : (match Try.prog.underlying 127 with | some (.struct fs) => (match fs[3]? with | some f => Nat.beq f.offset 6 && (match Try.prog.info? f.type with | some i => Nat.beq i.size 1 | none => false) | none => false) | _ => false) = true := by kernel_rfl
theorem fl127_4 : fldB Try.prog 127 4 7 = true := by kernel_rfl
theorem fp127_4 : (match Try.prog.underlying 127 with | some (.struct fs) => (match fs[4]? with | some f => Nat.beq f.offset 7 && (match Try.prog.info? f.type with | some i => Nat.beq i.size 1 | none => false) | none => false) | _ => false) = true := by kernel_rfl
theorem ty130 : tyB Try.prog 130 true 3 = true := by kernel_rfl
theorem in130 : (Try.prog.info? 130).map (fun i => (i.zero, i.size, i.bytes)) = some (some (.agg #[.int .i64 0, .int .i64 0, .int .i64 0]), 3, 24) := by kernel_rfl
theorem st130 : (match Try.prog.underlying 130 with | some (.struct fs) => fs.all (fun f => (Try.prog.info? f.type).isSome) | _ => false) = true := by kernel_rfl
theorem eqS130 (x0 : Int) (x1 : Int) (x2 : Int) (y0 : Int) (y1 : Int) (y2 : Int) (w : World) : (binOp .eql 130 (.agg (List.toArray [.int .i64 x0, .int .i64 x1, .int .i64 x2])) (.agg (List.toArray [.int .i64 y0, .int .i64 y1, .int .i64 y2]))).run Try.prog w = .ok (.bool ((decide (x0 = y0) && decide (x1 = y1) && decide (x2 = y2)))) w := by
  have hs : Try.prog.stoodInHeld 130 = false := by kernel_rfl
  simp [go_sem, hs, Try.underlying130]
  repeat' split
  all_goals simp [*]
theorem neS130 (x0 : Int) (x1 : Int) (x2 : Int) (y0 : Int) (y1 : Int) (y2 : Int) (w : World) : (binOp .neq 130 (.agg (List.toArray [.int .i64 x0, .int .i64 x1, .int .i64 x2])) (.agg (List.toArray [.int .i64 y0, .int .i64 y1, .int .i64 y2]))).run Try.prog w = .ok (.bool (!(decide (x0 = y0) && decide (x1 = y1) && decide (x2 = y2)))) w := by
  have hs : Try.prog.stoodInHeld 130 = false := by kernel_rfl
  simp [go_sem, hs, Try.underlying130]
  repeat' split
  all_goals simp [*]
theorem fl130_0 : fldB Try.prog 130 0 0 = true := by kernel_rfl
theorem fp130_0 : (match Try.prog.underlying 130 with | some (.struct fs) => (match fs[0]? with | some f => Nat.beq f.offset 0 && (match Try.prog.info? f.type with | some i => Nat.beq i.size 1 | none => false) | none => false) | _ => false) = true := by kernel_rfl
theorem fl130_1 : fldB Try.prog 130 1 1 = true := by kernel_rfl
theorem fp130_1 : (match Try.prog.underlying 130 with | some (.struct fs) => (match fs[1]? with | some f => Nat.beq f.offset 1 && (match Try.prog.info? f.type with | some i => Nat.beq i.size 1 | none => false) | none => false) | _ => false) = true := by kernel_rfl
theorem fl130_2 : fldB Try.prog 130 2 2 = true := by kernel_rfl
theorem fp130_2 : (match Try.prog.underlying 130 with | some (.struct fs) => (match fs[2]? with | some f => Nat.beq f.offset 2 && (match Try.prog.info? f.type with | some i => Nat.beq i.size 1 | none => false) | none => false) | _ => false) = true := by kernel_rfl
theorem ty139 : tyB Try.prog 139 false 1 = true := by kernel_rfl
theorem in139 : (Try.prog.info? 139).map (fun i => (i.zero, i.size, i.bytes)) = some (some (.slice none 0 0), 1, 24) := by kernel_rfl
theorem ty145 : tyB Try.prog 145 false 1 = true := by kernel_rfl
theorem in145 : (Try.prog.info? 145).map (fun i => (i.zero, i.size, i.bytes)) = some (some (.slice none 0 0), 1, 24) := by kernel_rfl
theorem ty146 : tyB Try.prog 146 false 1 = true := by kernel_rfl
theorem in146 : (Try.prog.info? 146).map (fun i => (i.zero, i.size, i.bytes)) = some (some (.slice none 0 0), 1, 24) := by kernel_rfl
theorem ty149 : tyB Try.prog 149 true 4 = true := by kernel_rfl
theorem in149 : (Try.prog.info? 149).map (fun i => (i.zero, i.size, i.bytes)) = some (some (.agg #[.int .i64 0, .bool false, .int .i64 0, .int .i64 0]), 4, 32) := by kernel_rfl
theorem st149 : (match Try.prog.underlying 149 with | some (.struct fs) => fs.all (fun f => (Try.prog.info? f.type).isSome) | _ => false) = true := by kernel_rfl
theorem fl149_0 : fldB Try.prog 149 0 0 = true := by kernel_rfl
theorem fp149_0 : (match Try.prog.underlying 149 with | some (.struct fs) => (match fs[0]? with | some f => Nat.beq f.offset 0 && (match Try.prog.info? f.type with | some i => Nat.beq i.size 2 | none => false) | none => false) | _ => false) = true := by kernel_rfl
theorem fl149_1 : fldB Try.prog 149 1 2 = true := by kernel_rfl
theorem fp149_1 : (match Try.prog.underlying 149 with | some (.struct fs) => (match fs[1]? with | some f => Nat.beq f.offset 2 && (match Try.prog.info? f.type with | some i => Nat.beq i.size 1 | none => false) | none => false) | _ => false) = true := by kernel_rfl
theorem fl149_2 : fldB Try.prog 149 2 3 = true := by kernel_rfl
theorem fp149_2 : (match Try.prog.underlying 149 with | some (.struct fs) => (match fs[2]? with | some f => Nat.beq f.offset 3 && (match Try.prog.info? f.type with | some i => Nat.beq i.size 1 | none => false) | none => false) | _ => false) = true := by kernel_rfl
theorem ty152 : tyB Try.prog 152 true 4 = true := by kernel_rfl
theorem in152 : (Try.prog.info? 152).map (fun i => (i.zero, i.size, i.bytes)) = some (some (.agg #[.int .i64 0, .int .i64 0, .int .i64 0, .int .i64 0]), 4, 32) := by kernel_rfl
theorem st152 : (match Try.prog.underlying 152 with | some (.struct fs) => fs.all (fun f => (Try.prog.info? f.type).isSome) | _ => false) = true := by kernel_rfl
theorem eqS152 (x0 : Int) (x1 : Int) (x2 : Int) (x3 : Int) (y0 : Int) (y1 : Int) (y2 : Int) (y3 : Int) (w : World) : (binOp .eql 152 (.agg (List.toArray [.int .i64 x0, .int .i64 x1, .int .i64 x2, .int .i64 x3])) (.agg (List.toArray [.int .i64 y0, .int .i64 y1, .int .i64 y2, .int .i64 y3]))).run Try.prog w = .ok (.bool ((decide (x0 = y0) && decide (x1 = y1) && decide (x2 = y2) && decide (x3 = y3)))) w := by
  have hs : Try.prog.stoodInHeld 152 = false := by kernel_rfl
  simp [go_sem, hs, Try.underlying152]
  repeat' split
  all_goals simp [*]
theorem neS152 (x0 : Int) (x1 : Int) (x2 : Int) (x3 : Int) (y0 : Int) (y1 : Int) (y2 : Int) (y3 : Int) (w : World) : (binOp .neq 152 (.agg (List.toArray [.int .i64 x0, .int .i64 x1, .int .i64 x2, .int .i64 x3])) (.agg (List.toArray [.int .i64 y0, .int .i64 y1, .int .i64 y2, .int .i64 y3]))).run Try.prog w = .ok (.bool (!(decide (x0 = y0) && decide (x1 = y1) && decide (x2 = y2) && decide (x3 = y3)))) w := by
  have hs : Try.prog.stoodInHeld 152 = false := by kernel_rfl
  simp [go_sem, hs, Try.underlying152]
  repeat' split
  all_goals simp [*]
theorem fl152_0 : fldB Try.prog 152 0 0 = true := by kernel_rfl
theorem fp152_0 : (match Try.prog.underlying 152 with | some (.struct fs) => (match fs[0]? with | some f => Nat.beq f.offset 0 && (match Try.prog.info? f.type with | some i => Nat.beq i.size 1 | none => false) | none => false) | _ => false) = true := by kernel_rfl
theorem fl152_1 : fldB Try.prog 152 1 1 = true := by kernel_rfl
theorem fp152_1 : (match Try.prog.underlying 152 with | some (.struct fs) => (match fs[1]? with | some f => Nat.beq f.offset 1 && (match Try.prog.info? f.type with | some i => Nat.beq i.size 1 | none => false) | none => false) | _ => false) = true := by kernel_rfl
theorem fl152_2 : fldB Try.prog 152 2 2 = true := by kernel_rfl
theorem fp152_2 : (match Try.prog.underlying 152 with | some (.struct fs) => (match fs[2]? with | some f => Nat.beq f.offset 2 && (match Try.prog.info? f.type with | some i => Nat.beq i.size 1 | none => false) | none => false) | _ => false) = true := by kernel_rfl
theorem fl152_3 : fldB Try.prog 152 3 3 = true := by kernel_rfl
theorem fp152_3 : (match Try.prog.underlying 152 with | some (.struct fs) => (match fs[3]? with | some f => Nat.beq f.offset 3 && (match Try.prog.info? f.type with | some i => Nat.beq i.size 1 | none => false) | none => false) | _ => false) = true := by kernel_rfl
theorem ty154 : tyB Try.prog 154 true 4 = true := by kernel_rfl
theorem in154 : (Try.prog.info? 154).map (fun i => (i.zero, i.size, i.bytes)) = some (some (.agg #[.int .i64 0, .int .i64 0, .int .i64 0, .int .i64 0]), 4, 32) := by kernel_rfl
theorem st154 : (match Try.prog.underlying 154 with | some (.struct fs) => fs.all (fun f => (Try.prog.info? f.type).isSome) | _ => false) = true := by kernel_rfl
theorem eqS154 (x0 : Int) (x1 : Int) (x2 : Int) (x3 : Int) (y0 : Int) (y1 : Int) (y2 : Int) (y3 : Int) (w : World) : (binOp .eql 154 (.agg (List.toArray [.int .i64 x0, .int .i64 x1, .int .i64 x2, .int .i64 x3])) (.agg (List.toArray [.int .i64 y0, .int .i64 y1, .int .i64 y2, .int .i64 y3]))).run Try.prog w = .ok (.bool ((decide (x0 = y0) && decide (x1 = y1) && decide (x2 = y2) && decide (x3 = y3)))) w := by
  have hs : Try.prog.stoodInHeld 154 = false := by kernel_rfl
  simp [go_sem, hs, Try.underlying154]
  repeat' split
  all_goals simp [*]
theorem neS154 (x0 : Int) (x1 : Int) (x2 : Int) (x3 : Int) (y0 : Int) (y1 : Int) (y2 : Int) (y3 : Int) (w : World) : (binOp .neq 154 (.agg (List.toArray [.int .i64 x0, .int .i64 x1, .int .i64 x2, .int .i64 x3])) (.agg (List.toArray [.int .i64 y0, .int .i64 y1, .int .i64 y2, .int .i64 y3]))).run Try.prog w = .ok (.bool (!(decide (x0 = y0) && decide (x1 = y1) && decide (x2 = y2) && decide (x3 = y3)))) w := by
  have hs : Try.prog.stoodInHeld 154 = false := by kernel_rfl
  simp [go_sem, hs, Try.underlying154]
  repeat' split
  all_goals simp [*]
theorem fl154_0 : fldB Try.prog 154 0 0 = true := by kernel_rfl
theorem fp154_0 : (match Try.prog.underlying 154 with | some (.struct fs) => (match fs[0]? with | some f => Nat.beq f.offset 0 && (match Try.prog.info? f.type with | some i => Nat.beq i.size 1 | none => false) | none => false) | _ => false) = true := by kernel_rfl
theorem fl154_1 : fldB Try.prog 154 1 1 = true := by kernel_rfl
theorem fp154_1 : (match Try.prog.underlying 154 with | some (.struct fs) => (match fs[1]? with | some f => Nat.beq f.offset 1 && (match Try.prog.info? f.type with | some i => Nat.beq i.size 1 | none => false) | none => false) | _ => false) = true := by kernel_rfl
theorem fl154_2 : fldB Try.prog 154 2 2 = true := by kernel_rfl
theorem fp154_2 : (match Try.prog.underlying 154 with | some (.struct fs) => (match fs[2]? with | some f => Nat.beq f.offset 2 && (match Try.prog.info? f.type with | some i => Nat.beq i.size 1 | none => false) | none => false) | _ => false) = true := by kernel_rfl
theorem fl154_3 : fldB Try.prog 154 3 3 = true := by kernel_rfl
theorem fp154_3 : (match Try.prog.underlying 154 with | some (.struct fs) => (match fs[3]? with | some f => Nat.beq f.offset 3 && (match Try.prog.info? f.type with | some i => Nat.beq i.size 1 | none => false) | none => false) | _ => false) = true := by kernel_rfl
theorem ty156 : tyB Try.prog 156 false 1 = true := by kernel_rfl
theorem in156 : (Try.prog.info? 156).map (fun i => (i.zero, i.size, i.bytes)) = some (some (.slice none 0 0), 1, 24) := by kernel_rfl
theorem ty158 : tyB Try.prog 158 true 4 = true := by kernel_rfl
theorem in158 : (Try.prog.info? 158).map (fun i => (i.zero, i.size, i.bytes)) = some (some (.agg #[.int .i64 0, .bool false, .int .i64 0, .int .i64 0]), 4, 32) := by kernel_rfl
theorem st158 : (match Try.prog.underlying 158 with | some (.struct fs) => fs.all (fun f => (Try.prog.info? f.type).isSome) | _ => false) = true := by kernel_rfl
theorem fl158_0 : fldB Try.prog 158 0 0 = true := by kernel_rfl
theorem fp158_0 : (match Try.prog.underlying 158 with | some (.struct fs) => (match fs[0]? with | some f => Nat.beq f.offset 0 && (match Try.prog.info? f.type with | some i => Nat.beq i.size 2 | none => false) | none => false) | _ => false) = true := by kernel_rfl
theorem fl158_1 : fldB Try.prog 158 1 2 = true := by kernel_rfl
theorem fp158_1 : (match Try.prog.underlying 158 with | some (.struct fs) => (match fs[1]? with | some f => Nat.beq f.offset 2 && (match Try.prog.info? f.type with | some i => Nat.beq i.size 1 | none => false) | none => false) | _ => false) = true := by kernel_rfl
theorem fl158_2 : fldB Try.prog 158 2 3 = true := by kernel_rfl
theorem fp158_2 : (match Try.prog.underlying 158 with | some (.struct fs) => (match fs[2]? with | some f => Nat.beq f.offset 3 && (match Try.prog.info? f.type with | some i => Nat.beq i.size 1 | none => false) | none => false) | _ => false) = true := by kernel_rfl
theorem ty165 : tyB Try.prog 165 false 1 = true := by kernel_rfl
theorem in165 : (Try.prog.info? 165).map (fun i => (i.zero, i.size, i.bytes)) = some (some (.int .u64 0), 1, 8) := by kernel_rfl
theorem ty171 : tyB Try.prog 171 false 1 = true := by kernel_rfl
theorem in171 : (Try.prog.info? 171).map (fun i => (i.zero, i.size, i.bytes)) = some (some (.nilFunc), 1, 8) := by kernel_rfl
theorem ty193 : tyB Try.prog 193 false 1 = true := by kernel_rfl
theorem in193 : (Try.prog.info? 193).map (fun i => (i.zero, i.size, i.bytes)) = some (some (.int .u32 0), 1, 4) := by kernel_rfl
theorem ty195 : tyB Try.prog 195 false 1 = true := by kernel_rfl
theorem in195 : (Try.prog.info? 195).map (fun i => (i.zero, i.size, i.bytes)) = some (some (.int .u64 0), 1, 8) := by kernel_rfl
theorem ty200 : tyB Try.prog 200 false 1 = true := by kernel_rfl
theorem in200 : (Try.prog.info? 200).map (fun i => (i.zero, i.size, i.bytes)) = some (some (.nilFunc), 1, 8) := by kernel_rfl
theorem ty206 : tyB Try.prog 206 false 1 = true := by kernel_rfl
theorem in206 : (Try.prog.info? 206).map (fun i => (i.zero, i.size, i.bytes)) = some (some (.int .u64 0), 1, 8) := by kernel_rfl
theorem ty210 : tyB Try.prog 210 false 1 = true := by kernel_rfl
theorem in210 : (Try.prog.info? 210).map (fun i => (i.zero, i.size, i.bytes)) = some (some (.pointer none), 1, 8) := by kernel_rfl
end Go.Proofs.Ytocnceglpkobaaa
