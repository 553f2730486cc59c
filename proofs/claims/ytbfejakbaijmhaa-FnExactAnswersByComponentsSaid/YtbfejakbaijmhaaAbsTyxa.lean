/- The facts of the types that the walks in abstract states ask for. -/
import Derived.Test.YtbfejakbaijmhaaDataxa
import Derived.Test.YtbfejakbaijmhaaProg
namespace Go.Proofs.Ytbfejakbaijmhaa
open Go.RowKit Go.Q
theorem ty3 : tyB Try.prog 3 false 1 = true := by kernel_rfl
theorem in3 : (Try.prog.info? 3).map (fun i => (i.zero, i.size, i.bytes)) = some (some (.int .i64 0), 1, 8) := by kernel_rfl
theorem ty4 : tyB Try.prog 4 false 1 = true := by kernel_rfl
theorem in4 : (Try.prog.info? 4).map (fun i => (i.zero, i.size, i.bytes)) = some (some (.bool false), 1, 1) := by kernel_rfl
theorem ty22 : tyB Try.prog 22 false 1 = true := by kernel_rfl
theorem in22 : (Try.prog.info? 22).map (fun i => (i.zero, i.size, i.bytes)) = some (some (.slice none 0 0), 1, 24) := by kernel_rfl
theorem ty23 : tyB Try.prog 23 false 1 = true := by kernel_rfl
theorem ty25 : tyB Try.prog 25 true 2 = true := by kernel_rfl
theorem fl25_0 : fldB Try.prog 25 0 0 = true := by kernel_rfl
theorem fl25_1 : fldB Try.prog 25 1 1 = true := by kernel_rfl
theorem ty26 : tyB Try.prog 26 false 1 = true := by kernel_rfl
theorem in26 : (Try.prog.info? 26).map (fun i => (i.zero, i.size, i.bytes)) = some (some (.slice none 0 0), 1, 24) := by kernel_rfl
theorem ty27 : tyB Try.prog 27 false 1 = true := by kernel_rfl
theorem ty29 : tyB Try.prog 29 true 3 = true := by kernel_rfl
theorem fl29_0 : fldB Try.prog 29 0 0 = true := by kernel_rfl
theorem fl29_1 : fldB Try.prog 29 1 1 = true := by kernel_rfl
theorem fl29_2 : fldB Try.prog 29 2 2 = true := by kernel_rfl
theorem ty33 : tyB Try.prog 33 false 1 = true := by kernel_rfl
theorem ty35 : tyB Try.prog 35 true 2 = true := by kernel_rfl
theorem in35 : (Try.prog.info? 35).map (fun i => (i.zero, i.size, i.bytes)) = some (some (.agg #[.slice none 0 0, .slice none 0 0]), 2, 48) := by kernel_rfl
theorem fl35_0 : fldB Try.prog 35 0 0 = true := by kernel_rfl
theorem fl35_1 : fldB Try.prog 35 1 1 = true := by kernel_rfl
theorem ty37 : tyB Try.prog 37 true 3 = true := by kernel_rfl
theorem in37 : (Try.prog.info? 37).map (fun i => (i.zero, i.size, i.bytes)) = some (some (.agg #[.int .i64 0, .slice none 0 0, .slice none 0 0]), 3, 56) := by kernel_rfl
theorem fl37_0 : fldB Try.prog 37 0 0 = true := by kernel_rfl
theorem fl37_1 : fldB Try.prog 37 1 1 = true := by kernel_rfl
theorem fl37_2 : fldB Try.prog 37 2 2 = true := by kernel_rfl
theorem ty93 : tyB Try.prog 93 true 2 = true := by kernel_rfl
theorem in93 : (Try.prog.info? 93).map (fun i => (i.zero, i.size, i.bytes)) = some (some (.agg #[.int .i64 0, .int .i64 0]), 2, 16) := by kernel_rfl
theorem st93 : (match Try.prog.underlying 93 with | some (.struct fs) => fs.all (fun f => (Try.prog.info? f.type).isSome) | _ => false) = true := by kernel_rfl
theorem eqS93 (x0 : Int) (x1 : Int) (y0 : Int) (y1 : Int) (w : World) : (binOp .eql 93 (.agg (List.toArray [.int .i64 x0, .int .i64 x1])) (.agg (List.toArray [.int .i64 y0, .int .i64 y1]))).run Try.prog w = .ok (.bool ((decide (x0 = y0) && decide (x1 = y1)))) w := by
  have hs : Try.prog.stoodInHeld 93 = false := by kernel_rfl
  simp [go_sem, hs, Try.underlying93]
  repeat' split
  all_goals simp [*]
theorem fl93_0 : fldB Try.prog 93 0 0 = true := by kernel_rfl
theorem fp93_0 : (match Try.prog.underlying 93 with | some (.struct fs) => (match fs[0]? with | some f => Nat.beq f.offset 0 && (match Try.prog.info? f.type with | some i => Nat.beq i.size 1 | none => false) | none => false) | _ => false) = true := by kernel_rfl
theorem fl93_1 : fldB Try.prog 93 1 1 = true := by kernel_rfl
theorem fp93_1 : (match Try.prog.underlying 93 with | some (.struct fs) => (match fs[1]? with | some f => Nat.beq f.offset 1 && (match Try.prog.info? f.type with | some i => Nat.beq i.size 1 | none => false) | none => false) | _ => false) = true := by kernel_rfl
theorem ty96 : tyB Try.prog 96 false 1 = true := by kernel_rfl
theorem in96 : (Try.prog.info? 96).map (fun i => (i.zero, i.size, i.bytes)) = some (some (.slice none 0 0), 1, 24) := by kernel_rfl
theorem ty122 : tyB Try.prog 122 true 2 = true := by kernel_rfl
theorem in122 : (Try.prog.info? 122).map (fun i => (i.zero, i.size, i.bytes)) = some (some (.agg #[.int .i64 0, .bool false]), 2, 16) := by kernel_rfl
theorem st122 : (match Try.prog.underlying 122 with | some (.struct fs) => fs.all (fun f => (Try.prog.info? f.type).isSome) | _ => false) = true := by kernel_rfl
theorem fl122_0 : fldB Try.prog 122 0 0 = true := by kernel_rfl
theorem fp122_0 : (match Try.prog.underlying 122 with | some (.struct fs) => (match fs[0]? with | some f => Nat.beq f.offset 0 && (match Try.prog.info? f.type with | some i => Nat.beq i.size 1 | none => false) | none => false) | _ => false) = true := by kernel_rfl
theorem fl122_1 : fldB Try.prog 122 1 1 = true := by kernel_rfl
theorem fp122_1 : (match Try.prog.underlying 122 with | some (.struct fs) => (match fs[1]? with | some f => Nat.beq f.offset 1 && (match Try.prog.info? f.type with | some i => Nat.beq i.size 1 | none => false) | none => false) | _ => false) = true := by kernel_rfl
theorem ty131 : tyB Try.prog 131 false 1 = true := by kernel_rfl
theorem in131 : (Try.prog.info? 131).map (fun i => (i.zero, i.size, i.bytes)) = some (some (.slice none 0 0), 1, 24) := by kernel_rfl
theorem ty133 : tyB Try.prog 133 true 4 = true := by kernel_rfl
theorem in133 : (Try.prog.info? 133).map (fun i => (i.zero, i.size, i.bytes)) = some (some (.agg #[.int .i64 0, .bool false, .int .i64 0, .int .i64 0]), 4, 32) := by kernel_rfl
theorem st133 : (match Try.prog.underlying 133 with | some (.struct fs) => fs.all (fun f => (Try.prog.info? f.type).isSome) | _ => false) = true := by kernel_rfl
theorem fp133_0 : (match Try.prog.underlying 133 with | some (.struct fs) => (match fs[0]? with | some f => Nat.beq f.offset 0 && (match Try.prog.info? f.type with | some i => Nat.beq i.size 2 | none => false) | none => false) | _ => false) = true := by kernel_rfl
theorem fl133_1 : fldB Try.prog 133 1 2 = true := by kernel_rfl
theorem fp133_1 : (match Try.prog.underlying 133 with | some (.struct fs) => (match fs[1]? with | some f => Nat.beq f.offset 2 && (match Try.prog.info? f.type with | some i => Nat.beq i.size 1 | none => false) | none => false) | _ => false) = true := by kernel_rfl
theorem fl133_2 : fldB Try.prog 133 2 3 = true := by kernel_rfl
theorem fp133_2 : (match Try.prog.underlying 133 with | some (.struct fs) => (match fs[2]? with | some f => Nat.beq f.offset 3 && (match Try.prog.info? f.type with | some i => Nat.beq i.size 1 | none => false) | none => false) | _ => false) = true := by kernel_rfl
theorem ty149 : tyB Try.prog 149 false 1 = true := by kernel_rfl
theorem in149 : (Try.prog.info? 149).map (fun i => (i.zero, i.size, i.bytes)) = some (some (.slice none 0 0), 1, 24) := by kernel_rfl
theorem ty152 : tyB Try.prog 152 true 4 = true := by kernel_rfl
theorem in152 : (Try.prog.info? 152).map (fun i => (i.zero, i.size, i.bytes)) = some (some (.agg #[.int .i64 0, .bool false, .int .i64 0, .int .i64 0]), 4, 32) := by kernel_rfl
theorem st152 : (match Try.prog.underlying 152 with | some (.struct fs) => fs.all (fun f => (Try.prog.info? f.type).isSome) | _ => false) = true := by kernel_rfl
theorem fp152_0 : (match Try.prog.underlying 152 with | some (.struct fs) => (match fs[0]? with | some f => Nat.beq f.offset 0 && (match Try.prog.info? f.type with | some i => Nat.beq i.size 2 | none => false) | none => false) | _ => false) = true := by kernel_rfl
theorem fl152_1 : fldB Try.prog 152 1 2 = true := by kernel_rfl
theorem fp152_1 : (match Try.prog.underlying 152 with | some (.struct fs) => (match fs[1]? with | some f => Nat.beq f.offset 2 && (match Try.prog.info? f.type with | some i => Nat.beq i.size 1 | none => false) | none => false) | _ => false) = true := by kernel_rfl
theorem fl152_2 : fldB Try.prog 152 2 3 = true := by kernel_rfl
theorem fp152_2 : (match Try.prog.underlying 152 with | some (.struct fs) => (match fs[2]? with | some f => Nat.beq f.offset 3 && (match Try.prog.info? f.type with | some i => Nat.beq i.size 1 | none => false) | none => false) | _ => false) = true := by kernel_rfl
theorem ty154 : tyB Try.prog 154 true 4 = true := by kernel_rfl
theorem in154 : (Try.prog.info? 154).map (fun i => (i.zero, i.size, i.bytes)) = some (some (.agg #[.int .i64 0, .int .i64 0, .int .i64 0, .int .i64 0]), 4, 32) := by kernel_rfl
theorem fl154_0 : fldB Try.prog 154 0 0 = true := by kernel_rfl
theorem fl154_1 : fldB Try.prog 154 1 1 = true := by kernel_rfl
theorem fl154_2 : fldB Try.prog 154 2 2 = true := by kernel_rfl
theorem fl154_3 : fldB Try.prog 154 3 3 = true := by kernel_rfl
theorem ty156 : tyB Try.prog 156 true 4 = true := by kernel_rfl
theorem fl156_0 : fldB Try.prog 156 0 0 = true := by kernel_rfl
theorem fl156_1 : fldB Try.prog 156 1 1 = true := by kernel_rfl
theorem fl156_2 : fldB Try.prog 156 2 2 = true := by kernel_rfl
theorem fl156_3 : fldB Try.prog 156 3 3 = true := by kernel_rfl
end Go.Proofs.Ytbfejakbaijmhaa
