/- The facts of the types that the walks in abstract states ask for. -/
import Derived.Test.YtbfejakbaijmhaaGreatDataxf
import Derived.Test.YtbfejakbaijmhaaGreatProg
namespace Go.Proofs.YtbfejakbaijmhaaGreat
open Go.RowKit Go.Q
theorem ty3 : tyB Tryz.prog 3 false 1 = true := by kernel_rfl
theorem in3 : (Tryz.prog.info? 3).map (fun i => (i.zero, i.size, i.bytes)) = some (some (.int .i64 0), 1, 8) := by kernel_rfl
theorem ty4 : tyB Tryz.prog 4 false 1 = true := by kernel_rfl
theorem in4 : (Tryz.prog.info? 4).map (fun i => (i.zero, i.size, i.bytes)) = some (some (.bool false), 1, 1) := by kernel_rfl
theorem ty22 : tyB Tryz.prog 22 false 1 = true := by kernel_rfl
theorem in22 : (Tryz.prog.info? 22).map (fun i => (i.zero, i.size, i.bytes)) = some (some (.slice none 0 0), 1, 24) := by kernel_rfl
theorem ty23 : tyB Tryz.prog 23 false 1 = true := by kernel_rfl
theorem ty25 : tyB Tryz.prog 25 true 2 = true := by kernel_rfl
theorem fl25_0 : fldB Tryz.prog 25 0 0 = true := by kernel_rfl
theorem fl25_1 : fldB Tryz.prog 25 1 1 = true := by kernel_rfl
theorem ty31 : tyB Tryz.prog 31 false 1 = true := by kernel_rfl
theorem ty33 : tyB Tryz.prog 33 true 2 = true := by kernel_rfl
theorem in33 : (Tryz.prog.info? 33).map (fun i => (i.zero, i.size, i.bytes)) = some (some (.agg #[.slice none 0 0, .slice none 0 0]), 2, 48) := by kernel_rfl
theorem fl33_0 : fldB Tryz.prog 33 0 0 = true := by kernel_rfl
theorem fl33_1 : fldB Tryz.prog 33 1 1 = true := by kernel_rfl
theorem ty51 : tyB Tryz.prog 51 false 1 = true := by kernel_rfl
theorem ty52 : tyB Tryz.prog 52 false 1 = true := by kernel_rfl
theorem ty54 : tyB Tryz.prog 54 true 3 = true := by kernel_rfl
theorem fl54_0 : fldB Tryz.prog 54 0 0 = true := by kernel_rfl
theorem fl54_1 : fldB Tryz.prog 54 1 1 = true := by kernel_rfl
theorem fl54_2 : fldB Tryz.prog 54 2 2 = true := by kernel_rfl
theorem ty56 : tyB Tryz.prog 56 true 6 = true := by kernel_rfl
theorem fl56_0 : fldB Tryz.prog 56 0 0 = true := by kernel_rfl
theorem fl56_1 : fldB Tryz.prog 56 1 3 = true := by kernel_rfl
theorem fl56_2 : fldB Tryz.prog 56 2 4 = true := by kernel_rfl
theorem fl56_3 : fldB Tryz.prog 56 3 5 = true := by kernel_rfl
theorem ty59 : tyB Tryz.prog 59 true 3 = true := by kernel_rfl
theorem in59 : (Tryz.prog.info? 59).map (fun i => (i.zero, i.size, i.bytes)) = some (some (.agg #[.int .i64 0, .slice none 0 0, .slice none 0 0]), 3, 56) := by kernel_rfl
theorem st59 : (match Tryz.prog.underlying 59 with | some (.struct fs) => fs.all (fun f => (Tryz.prog.info? f.type).isSome) | _ => false) = true := by kernel_rfl
theorem fl59_0 : fldB Tryz.prog 59 0 0 = true := by kernel_rfl
theorem fp59_0 : (match Tryz.prog.underlying 59 with | some (.struct fs) => (match fs[0]? with | some f => Nat.beq f.offset 0 && (match Tryz.prog.info? f.type with | some i => Nat.beq i.size 1 | none => false) | none => false) | _ => false) = true := by kernel_rfl
theorem fl59_1 : fldB Tryz.prog 59 1 1 = true := by kernel_rfl
theorem fp59_1 : (match Tryz.prog.underlying 59 with | some (.struct fs) => (match fs[1]? with | some f => Nat.beq f.offset 1 && (match Tryz.prog.info? f.type with | some i => Nat.beq i.size 1 | none => false) | none => false) | _ => false) = true := by kernel_rfl
theorem fl59_2 : fldB Tryz.prog 59 2 2 = true := by kernel_rfl
theorem ty61 : tyB Tryz.prog 61 true 6 = true := by kernel_rfl
theorem in61 : (Tryz.prog.info? 61).map (fun i => (i.zero, i.size, i.bytes)) = some (some (.agg #[.int .i64 0, .slice none 0 0, .slice none 0 0, .int .i64 0, .slice none 0 0, .slice none 0 0]), 6, 112) := by kernel_rfl
theorem st61 : (match Tryz.prog.underlying 61 with | some (.struct fs) => fs.all (fun f => (Tryz.prog.info? f.type).isSome) | _ => false) = true := by kernel_rfl
theorem fl61_0 : fldB Tryz.prog 61 0 0 = true := by kernel_rfl
theorem fp61_0 : (match Tryz.prog.underlying 61 with | some (.struct fs) => (match fs[0]? with | some f => Nat.beq f.offset 0 && (match Tryz.prog.info? f.type with | some i => Nat.beq i.size 3 | none => false) | none => false) | _ => false) = true := by kernel_rfl
theorem fl61_1 : fldB Tryz.prog 61 1 3 = true := by kernel_rfl
theorem fp61_1 : (match Tryz.prog.underlying 61 with | some (.struct fs) => (match fs[1]? with | some f => Nat.beq f.offset 3 && (match Tryz.prog.info? f.type with | some i => Nat.beq i.size 1 | none => false) | none => false) | _ => false) = true := by kernel_rfl
theorem fl61_2 : fldB Tryz.prog 61 2 4 = true := by kernel_rfl
theorem fp61_2 : (match Tryz.prog.underlying 61 with | some (.struct fs) => (match fs[2]? with | some f => Nat.beq f.offset 4 && (match Tryz.prog.info? f.type with | some i => Nat.beq i.size 1 | none => false) | none => false) | _ => false) = true := by kernel_rfl
theorem fl61_3 : fldB Tryz.prog 61 3 5 = true := by kernel_rfl
theorem fp61_3 : (match Tryz.prog.underlying 61 with | some (.struct fs) => (match fs[3]? with | some f => Nat.beq f.offset 5 && (match Tryz.prog.info? f.type with | some i => Nat.beq i.size 1 | none => false) | none => false) | _ => false) = true := by kernel_rfl
theorem ty72 : tyB Tryz.prog 72 true 4 = true := by kernel_rfl
theorem in72 : (Tryz.prog.info? 72).map (fun i => (i.zero, i.size, i.bytes)) = some (some (.agg #[.int .i64 0, .int .i64 0, .int .i64 0, .int .i64 0]), 4, 32) := by kernel_rfl
theorem fl72_0 : fldB Tryz.prog 72 0 0 = true := by kernel_rfl
theorem fl72_1 : fldB Tryz.prog 72 1 1 = true := by kernel_rfl
theorem fl72_2 : fldB Tryz.prog 72 2 2 = true := by kernel_rfl
theorem fl72_3 : fldB Tryz.prog 72 3 3 = true := by kernel_rfl
theorem ty97 : tyB Tryz.prog 97 true 4 = true := by kernel_rfl
theorem fl97_0 : fldB Tryz.prog 97 0 0 = true := by kernel_rfl
theorem fl97_1 : fldB Tryz.prog 97 1 1 = true := by kernel_rfl
theorem fl97_2 : fldB Tryz.prog 97 2 2 = true := by kernel_rfl
theorem fl97_3 : fldB Tryz.prog 97 3 3 = true := by kernel_rfl
theorem ty155 : tyB Tryz.prog 155 true 2 = true := by kernel_rfl
theorem in155 : (Tryz.prog.info? 155).map (fun i => (i.zero, i.size, i.bytes)) = some (some (.agg #[.int .i64 0, .bool false]), 2, 16) := by kernel_rfl
theorem st155 : (match Tryz.prog.underlying 155 with | some (.struct fs) => fs.all (fun f => (Tryz.prog.info? f.type).isSome) | _ => false) = true := by kernel_rfl
theorem fl155_0 : fldB Tryz.prog 155 0 0 = true := by kernel_rfl
theorem fp155_0 : (match Tryz.prog.underlying 155 with | some (.struct fs) => (match fs[0]? with | some f => Nat.beq f.offset 0 && (match Tryz.prog.info? f.type with | some i => Nat.beq i.size 1 | none => false) | none => false) | _ => false) = true := by kernel_rfl
theorem fl155_1 : fldB Tryz.prog 155 1 1 = true := by kernel_rfl
theorem fp155_1 : (match Tryz.prog.underlying 155 with | some (.struct fs) => (match fs[1]? with | some f => Nat.beq f.offset 1 && (match Tryz.prog.info? f.type with | some i => Nat.beq i.size 1 | none => false) | none => false) | _ => false) = true := by kernel_rfl
theorem ty157 : tyB Tryz.prog 157 true 4 = true := by kernel_rfl
theorem in157 : (Tryz.prog.info? 157).map (fun i => (i.zero, i.size, i.bytes)) = some (some (.agg #[.int .i64 0, .bool false, .int .i64 0, .int .i64 0]), 4, 32) := by kernel_rfl
theorem st157 : (match Tryz.prog.underlying 157 with | some (.struct fs) => fs.all (fun f => (Tryz.prog.info? f.type).isSome) | _ => false) = true := by kernel_rfl
theorem fp157_0 : (match Tryz.prog.underlying 157 with | some (.struct fs) => (match fs[0]? with | some f => Nat.beq f.offset 0 && (match Tryz.prog.info? f.type with | some i => Nat.beq i.size 2 | none => false) | none => false) | _ => false) = true := by kernel_rfl
theorem fl157_1 : fldB Tryz.prog 157 1 2 = true := by kernel_rfl
theorem fp157_1 : (match Tryz.prog.underlying 157 with | some (.struct fs) => (match fs[1]? with | some f => Nat.beq f.offset 2 && (match Tryz.prog.info? f.type with | some i => Nat.beq i.size 1 | none => false) | none => false) | _ => false) = true := by kernel_rfl
theorem fl157_2 : fldB Tryz.prog 157 2 3 = true := by kernel_rfl
theorem fp157_2 : (match Tryz.prog.underlying 157 with | some (.struct fs) => (match fs[2]? with | some f => Nat.beq f.offset 3 && (match Tryz.prog.info? f.type with | some i => Nat.beq i.size 1 | none => false) | none => false) | _ => false) = true := by kernel_rfl
theorem ty173 : tyB Tryz.prog 173 false 1 = true := by kernel_rfl
theorem in173 : (Tryz.prog.info? 173).map (fun i => (i.zero, i.size, i.bytes)) = some (some (.slice none 0 0), 1, 24) := by kernel_rfl
theorem ty175 : tyB Tryz.prog 175 true 4 = true := by kernel_rfl
theorem in175 : (Tryz.prog.info? 175).map (fun i => (i.zero, i.size, i.bytes)) = some (some (.agg #[.int .i64 0, .bool false, .int .i64 0, .int .i64 0]), 4, 32) := by kernel_rfl
theorem st175 : (match Tryz.prog.underlying 175 with | some (.struct fs) => fs.all (fun f => (Tryz.prog.info? f.type).isSome) | _ => false) = true := by kernel_rfl
theorem fp175_0 : (match Tryz.prog.underlying 175 with | some (.struct fs) => (match fs[0]? with | some f => Nat.beq f.offset 0 && (match Tryz.prog.info? f.type with | some i => Nat.beq i.size 2 | none => false) | none => false) | _ => false) = true := by kernel_rfl
theorem fl175_1 : fldB Tryz.prog 175 1 2 = true := by kernel_rfl
theorem fp175_1 : (match Tryz.prog.underlying 175 with | some (.struct fs) => (match fs[1]? with | some f => Nat.beq f.offset 2 && (match Tryz.prog.info? f.type with | some i => Nat.beq i.size 1 | none => false) | none => false) | _ => false) = true := by kernel_rfl
theorem fl175_2 : fldB Tryz.prog 175 2 3 = true := by kernel_rfl
theorem fp175_2 : (match Tryz.prog.underlying 175 with | some (.struct fs) => (match fs[2]? with | some f => Nat.beq f.offset 3 && (match Tryz.prog.info? f.type with | some i => Nat.beq i.size 1 | none => false) | none => false) | _ => false) = true := by kernel_rfl
end Go.Proofs.YtbfejakbaijmhaaGreat
