/- The facts of the types that the walks in abstract states ask for. -/
import Derived.Test.YtocnceglpkobaaaDataz
import Derived.Test.YtocnceglpkobaaaProg
namespace Go.Proofs.Ytocnceglpkobaaa
open Go.RowKit Go.Q
theorem ty3 : tyB Try.prog 3 false 1 = true := by kernel_rfl
theorem in3 : (Try.prog.info? 3).map (fun i => (i.zero, i.size, i.bytes)) = some (some (.int .i64 0), 1, 8) := by kernel_rfl
theorem ty4 : tyB Try.prog 4 false 1 = true := by kernel_rfl
theorem in4 : (Try.prog.info? 4).map (fun i => (i.zero, i.size, i.bytes)) = some (some (.bool false), 1, 1) := by kernel_rfl
theorem ty22 : tyB Try.prog 22 false 1 = true := by kernel_rfl
theorem in22 : (Try.prog.info? 22).map (fun i => (i.zero, i.size, i.bytes)) = some (some (.slice none 0 0), 1, 24) := by kernel_rfl
theorem ty23 : tyB Try.prog 23 false 1 = true := by kernel_rfl
theorem ty25 : tyB Try.prog 25 true 2 = true := by kernel_rfl
theorem fl25_0 : fldB Try.prog 25 0 0 = true := by kernel_rfl
theorem fl25_1 : fldB Try.prog 25 1 1 = true := by kernel_rfl
theorem ty26 : tyB Try.prog 26 false 1 = true := by kernel_rfl
theorem ty27 : tyB Try.prog 27 false 1 = true := by kernel_rfl
theorem ty29 : tyB Try.prog 29 true 3 = true := by kernel_rfl
theorem fl29_0 : fldB Try.prog 29 0 0 = true := by kernel_rfl
theorem fl29_1 : fldB Try.prog 29 1 1 = true := by kernel_rfl
theorem fl29_2 : fldB Try.prog 29 2 2 = true := by kernel_rfl
theorem ty33 : tyB Try.prog 33 false 1 = true := by kernel_rfl
theorem ty35 : tyB Try.prog 35 true 2 = true := by kernel_rfl
theorem in35 : (Try.prog.info? 35).map (fun i => (i.zero, i.size, i.bytes)) = some (some (.agg #[.slice none 0 0, .slice none 0 0]), 2, 48) := by kernel_rfl
theorem st35 : (match Try.prog.underlying 35 with | some (.struct fs) => fs.all (fun f => (Try.prog.info? f.type).isSome) | _ => false) = true := by kernel_rfl
theorem fl35_0 : fldB Try.prog 35 0 0 = true := by kernel_rfl
theorem fp35_0 : (match Try.prog.underlying 35 with | some (.struct fs) => (match fs[0]? with | some f => Nat.beq f.offset 0 && (match Try.prog.info? f.type with | some i => Nat.beq i.size 1 | none => false) | none => false) | _ => false) = true := by kernel_rfl
theorem fl35_1 : fldB Try.prog 35 1 1 = true := by kernel_rfl
theorem fp35_1 : (match Try.prog.underlying 35 with | some (.struct fs) => (match fs[1]? with | some f => Nat.beq f.offset 1 && (match Try.prog.info? f.type with | some i => Nat.beq i.size 1 | none => false) | none => false) | _ => false) = true := by kernel_rfl
theorem ty37 : tyB Try.prog 37 true 3 = true := by kernel_rfl
theorem in37 : (Try.prog.info? 37).map (fun i => (i.zero, i.size, i.bytes)) = some (some (.agg #[.int .i64 0, .slice none 0 0, .slice none 0 0]), 3, 56) := by kernel_rfl
theorem st37 : (match Try.prog.underlying 37 with | some (.struct fs) => fs.all (fun f => (Try.prog.info? f.type).isSome) | _ => false) = true := by kernel_rfl
theorem fl37_0 : fldB Try.prog 37 0 0 = true := by kernel_rfl
theorem fp37_0 : (match Try.prog.underlying 37 with | some (.struct fs) => (match fs[0]? with | some f => Nat.beq f.offset 0 && (match Try.prog.info? f.type with | some i => Nat.beq i.size 1 | none => false) | none => false) | _ => false) = true := by kernel_rfl
theorem fl37_1 : fldB Try.prog 37 1 1 = true := by kernel_rfl
theorem fp37_1 : (match Try.prog.underlying 37 with | some (.struct fs) => (match fs[1]? with | some f => Nat.beq f.offset 1 && (match Try.prog.info? f.type with | some i => Nat.beq i.size 1 | none => false) | none => false) | _ => false) = true := by kernel_rfl
theorem fl37_2 : fldB Try.prog 37 2 2 = true := by kernel_rfl
theorem ty54 : tyB Try.prog 54 true 6 = true := by kernel_rfl
theorem fl54_0 : fldB Try.prog 54 0 0 = true := by kernel_rfl
theorem fl54_1 : fldB Try.prog 54 1 3 = true := by kernel_rfl
theorem fl54_2 : fldB Try.prog 54 2 4 = true := by kernel_rfl
theorem fl54_3 : fldB Try.prog 54 3 5 = true := by kernel_rfl
theorem ty58 : tyB Try.prog 58 true 6 = true := by kernel_rfl
theorem in58 : (Try.prog.info? 58).map (fun i => (i.zero, i.size, i.bytes)) = some (some (.agg #[.int .i64 0, .slice none 0 0, .slice none 0 0, .int .i64 0, .slice none 0 0, .slice none 0 0]), 6, 112) := by kernel_rfl
theorem st58 : (match Try.prog.underlying 58 with | some (.struct fs) => fs.all (fun f => (Try.prog.info? f.type).isSome) | _ => false) = true := by kernel_rfl
theorem fl58_0 : fldB Try.prog 58 0 0 = true := by kernel_rfl
theorem fp58_0 : (match Try.prog.underlying 58 with | some (.struct fs) => (match fs[0]? with | some f => Nat.beq f.offset 0 && (match Try.prog.info? f.type with | some i => Nat.beq i.size 3 | none => false) | none => false) | _ => false) = true := by kernel_rfl
theorem fl58_1 : fldB Try.prog 58 1 3 = true := by kernel_rfl
theorem fp58_1 : (match Try.prog.underlying 58 with | some (.struct fs) => (match fs[1]? with | some f => Nat.beq f.offset 3 && (match Try.prog.info? f.type with | some i => Nat.beq i.size 1 | none => false) | none => false) | _ => false) = true := by kernel_rfl
theorem fl58_2 : fldB Try.prog 58 2 4 = true := by kernel_rfl
theorem fp58_2 : (match Try.prog.underlying 58 with | some (.struct fs) => (match fs[2]? with | some f => Nat.beq f.offset 4 && (match Try.prog.info? f.type with | some i => Nat.beq i.size 1 | none => false) | none => false) | _ => false) = true := by kernel_rfl
theorem fl58_3 : fldB Try.prog 58 3 5 = true := by kernel_rfl
theorem fp58_3 : (match Try.prog.underlying 58 with | some (.struct fs) => (match fs[3]? with | some f => Nat.beq f.offset 5 && (match Try.prog.info? f.type with | some i => Nat.beq i.size 1 | none => false) | none => false) | _ => false) = true := by kernel_rfl
theorem ty112 : tyB Try.prog 112 true 2 = true := by kernel_rfl
theorem in112 : (Try.prog.info? 112).map (fun i => (i.zero, i.size, i.bytes)) = some (some (.agg #[.int .i64 0, .bool false]), 2, 16) := by kernel_rfl
theorem st112 : (match Try.prog.underlying 112 with | some (.struct fs) => fs.all (fun f => (Try.prog.info? f.type).isSome) | _ => false) = true := by kernel_rfl
theorem fl112_0 : fldB Try.prog 112 0 0 = true := by kernel_rfl
theorem fp112_0 : (match Try.prog.underlying 112 with | some (.struct fs) => (match fs[0]? with | some f => Nat.beq f.offset 0 && (match Try.prog.info? f.type with | some i => Nat.beq i.size 1 | none => false) | none => false) | _ => false) = true := by kernel_rfl
theorem fl112_1 : fldB Try.prog 112 1 1 = true := by kernel_rfl
theorem fp112_1 : (match Try.prog.underlying 112 with | some (.struct fs) => (match fs[1]? with | some f => Nat.beq f.offset 1 && (match Try.prog.info? f.type with | some i => Nat.beq i.size 1 | none => false) | none => false) | _ => false) = true := by kernel_rfl
theorem ty149 : tyB Try.prog 149 true 4 = true := by kernel_rfl
theorem in149 : (Try.prog.info? 149).map (fun i => (i.zero, i.size, i.bytes)) = some (some (.agg #[.int .i64 0, .bool false, .int .i64 0, .int .i64 0]), 4, 32) := by kernel_rfl
theorem st149 : (match Try.prog.underlying 149 with | some (.struct fs) => fs.all (fun f => (Try.prog.info? f.type).isSome) | _ => false) = true := by kernel_rfl
theorem fp149_0 : (match Try.prog.underlying 149 with | some (.struct fs) => (match fs[0]? with | some f => Nat.beq f.offset 0 && (match Try.prog.info? f.type with | some i => Nat.beq i.size 2 | none => false) | none => false) | _ => false) = true := by kernel_rfl
theorem fl149_1 : fldB Try.prog 149 1 2 = true := by kernel_rfl
theorem fp149_1 : (match Try.prog.underlying 149 with | some (.struct fs) => (match fs[1]? with | some f => Nat.beq f.offset 2 && (match Try.prog.info? f.type with | some i => Nat.beq i.size 1 | none => false) | none => false) | _ => false) = true := by kernel_rfl
theorem fl149_2 : fldB Try.prog 149 2 3 = true := by kernel_rfl
theorem fp149_2 : (match Try.prog.underlying 149 with | some (.struct fs) => (match fs[2]? with | some f => Nat.beq f.offset 3 && (match Try.prog.info? f.type with | some i => Nat.beq i.size 1 | none => false) | none => false) | _ => false) = true := by kernel_rfl
theorem ty152 : tyB Try.prog 152 true 4 = true := by kernel_rfl
theorem in152 : (Try.prog.info? 152).map (fun i => (i.zero, i.size, i.bytes)) = some (some (.agg #[.int .i64 0, .int .i64 0, .int .i64 0, .int .i64 0]), 4, 32) := by kernel_rfl
theorem fl152_0 : fldB Try.prog 152 0 0 = true := by kernel_rfl
theorem fl152_1 : fldB Try.prog 152 1 1 = true := by kernel_rfl
theorem fl152_2 : fldB Try.prog 152 2 2 = true := by kernel_rfl
theorem fl152_3 : fldB Try.prog 152 3 3 = true := by kernel_rfl
theorem ty154 : tyB Try.prog 154 true 4 = true := by kernel_rfl
theorem fl154_0 : fldB Try.prog 154 0 0 = true := by kernel_rfl
theorem fl154_1 : fldB Try.prog 154 1 1 = true := by kernel_rfl
theorem fl154_2 : fldB Try.prog 154 2 2 = true := by kernel_rfl
theorem fl154_3 : fldB Try.prog 154 3 3 = true := by kernel_rfl
theorem ty156 : tyB Try.prog 156 false 1 = true := by kernel_rfl
theorem in156 : (Try.prog.info? 156).map (fun i => (i.zero, i.size, i.bytes)) = some (some (.slice none 0 0), 1, 24) := by kernel_rfl
theorem ty158 : tyB Try.prog 158 true 4 = true := by kernel_rfl
theorem in158 : (Try.prog.info? 158).map (fun i => (i.zero, i.size, i.bytes)) = some (some (.agg #[.int .i64 0, .bool false, .int .i64 0, .int .i64 0]), 4, 32) := by kernel_rfl
theorem st158 : (match Try.prog.underlying 158 with | some (.struct fs) => fs.all (fun f => (Try.prog.info? f.type).isSome) | _ => false) = true := by kernel_rfl
theorem fp158_0 : (match Try.prog.underlying 158 with | some (.struct fs) => (match fs[0]? with | some f => Nat.beq f.offset 0 && (match Try.prog.info? f.type with | some i => Nat.beq i.size 2 | none => false) | none => false) | _ => false) = true := by kernel_rfl
theorem fl158_1 : fldB Try.prog 158 1 2 = true := by kernel_rfl
theorem fp158_1 : (match Try.prog.underlying 158 with | some (.struct fs) => (match fs[1]? with | some f => Nat.beq f.offset 2 && (match Try.prog.info? f.type with | some i => Nat.beq i.size 1 | none => false) | none => false) | _ => false) = true := by kernel_rfl
theorem fl158_2 : fldB Try.prog 158 2 3 = true := by kernel_rfl
theorem fp158_2 : (match Try.prog.underlying 158 with | some (.struct fs) => (match fs[2]? with | some f => Nat.beq f.offset 3 && (match Try.prog.info? f.type with | some i => Nat.beq i.size 1 | none => false) | none => false) | _ => false) = true := by kernel_rfl
end Go.Proofs.Ytocnceglpkobaaa
