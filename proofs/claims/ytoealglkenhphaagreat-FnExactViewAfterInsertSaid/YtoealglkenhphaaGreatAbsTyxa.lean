/- The facts of the types that the walks in abstract states ask for. -/
import Derived.Test.YtoealglkenhphaaGreatOpenTxa
import Derived.Test.YtoealglkenhphaaGreatProg
namespace Go.Proofs.YtoealglkenhphaaGreat
open Go.RowKit Go.Q
theorem ty3 : tyB Tryz.prog 3 false 1 = true := by kernel_rfl
theorem in3 : (Tryz.prog.info? 3).map (fun i => (i.zero, i.size, i.bytes)) = some (some (.int .i64 0), 1, 8) := by kernel_rfl
theorem ty4 : tyB Tryz.prog 4 false 1 = true := by kernel_rfl
theorem in4 : (Tryz.prog.info? 4).map (fun i => (i.zero, i.size, i.bytes)) = some (some (.bool false), 1, 1) := by kernel_rfl
theorem ty22 : tyB Tryz.prog 22 false 1 = true := by kernel_rfl
theorem in22 : (Tryz.prog.info? 22).map (fun i => (i.zero, i.size, i.bytes)) = some (some (.slice none 0 0), 1, 24) := by kernel_rfl
theorem ty23 : tyB Tryz.prog 23 false 1 = true := by kernel_rfl
theorem ty25 : tyB Tryz.prog 25 true 2 = true := by kernel_rfl
theorem fl25_0 : fldB Tryz.prog 25 0 0 = true := by kernel_rfl
theorem fl25_1 : fldB Tryz.prog 25 1 1 = true := by kernel_rfl
theorem ty26 : tyB Tryz.prog 26 false 1 = true := by kernel_rfl
theorem ty27 : tyB Tryz.prog 27 false 1 = true := by kernel_rfl
theorem ty29 : tyB Tryz.prog 29 true 3 = true := by kernel_rfl
theorem fl29_0 : fldB Tryz.prog 29 0 0 = true := by kernel_rfl
theorem fl29_1 : fldB Tryz.prog 29 1 1 = true := by kernel_rfl
theorem fl29_2 : fldB Tryz.prog 29 2 2 = true := by kernel_rfl
theorem ty31 : tyB Tryz.prog 31 true 6 = true := by kernel_rfl
theorem fl31_0 : fldB Tryz.prog 31 0 0 = true := by kernel_rfl
theorem fl31_1 : fldB Tryz.prog 31 1 3 = true := by kernel_rfl
theorem fl31_2 : fldB Tryz.prog 31 2 4 = true := by kernel_rfl
theorem fl31_3 : fldB Tryz.prog 31 3 5 = true := by kernel_rfl
theorem ty33 : tyB Tryz.prog 33 true 4 = true := by kernel_rfl
theorem fl33_0 : fldB Tryz.prog 33 0 0 = true := by kernel_rfl
theorem fl33_1 : fldB Tryz.prog 33 1 1 = true := by kernel_rfl
theorem fl33_2 : fldB Tryz.prog 33 2 2 = true := by kernel_rfl
theorem fl33_3 : fldB Tryz.prog 33 3 3 = true := by kernel_rfl
theorem ty36 : tyB Tryz.prog 36 true 3 = true := by kernel_rfl
theorem in36 : (Tryz.prog.info? 36).map (fun i => (i.zero, i.size, i.bytes)) = some (some (.agg #[.int .i64 0, .slice none 0 0, .slice none 0 0]), 3, 56) := by kernel_rfl
theorem st36 : (match Tryz.prog.underlying 36 with | some (.struct fs) => fs.all (fun f => (Tryz.prog.info? f.type).isSome) | _ => false) = true := by kernel_rfl
theorem fl36_0 : fldB Tryz.prog 36 0 0 = true := by kernel_rfl
theorem fp36_0 : (match Tryz.prog.underlying 36 with | some (.struct fs) => (match fs[0]? with | some f => Nat.beq f.offset 0 && (match Tryz.prog.info? f.type with | some i => Nat.beq i.size 1 | none => false) | none => false) | _ => false) = true := by kernel_rfl
theorem fl36_1 : fldB Tryz.prog 36 1 1 = true := by kernel_rfl
theorem fp36_1 : (match Tryz.prog.underlying 36 with | some (.struct fs) => (match fs[1]? with | some f => Nat.beq f.offset 1 && (match Tryz.prog.info? f.type with | some i => Nat.beq i.size 1 | none => false) | none => false) | _ => false) = true := by kernel_rfl
theorem fl36_2 : fldB Tryz.prog 36 2 2 = true := by kernel_rfl
theorem ty38 : tyB Tryz.prog 38 true 6 = true := by kernel_rfl
theorem in38 : (Tryz.prog.info? 38).map (fun i => (i.zero, i.size, i.bytes)) = some (some (.agg #[.int .i64 0, .slice none 0 0, .slice none 0 0, .int .i64 0, .slice none 0 0, .slice none 0 0]), 6, 112) := by kernel_rfl
theorem st38 : (match Tryz.prog.underlying 38 with | some (.struct fs) => fs.all (fun f => (Tryz.prog.info? f.type).isSome) | _ => false) = true := by kernel_rfl
theorem fl38_0 : fldB Tryz.prog 38 0 0 = true := by kernel_rfl
theorem fp38_0 : (match Tryz.prog.underlying 38 with | some (.struct fs) => (match fs[0]? with | some f => Nat.beq f.offset 0 && (match Tryz.prog.info? f.type with | some i => Nat.beq i.size 3 | none => false) | none => false) | _ => false) = true := by kernel_rfl
theorem fl38_1 : fldB Tryz.prog 38 1 3 = true := by kernel_rfl
theorem fp38_1 : (match Tryz.prog.underlying 38 with | some (.struct fs) => (match fs[1]? with | some f => Nat.beq f.offset 3 && (match Tryz.prog.info? f.type with | some i => Nat.beq i.size 1 | none => false) | none => false) | _ => false) = true := by kernel_rfl
theorem fl38_2 : fldB Tryz.prog 38 2 4 = true := by kernel_rfl
theorem fp38_2 : (match Tryz.prog.underlying 38 with | some (.struct fs) => (match fs[2]? with | some f => Nat.beq f.offset 4 && (match Tryz.prog.info? f.type with | some i => Nat.beq i.size 1 | none => false) | none => false) | _ => false) = true := by kernel_rfl
theorem fl38_3 : fldB Tryz.prog 38 3 5 = true := by kernel_rfl
theorem fp38_3 : (match Tryz.prog.underlying 38 with | some (.struct fs) => (match fs[3]? with | some f => Nat.beq f.offset 5 && (match Tryz.prog.info? f.type with | some i => Nat.beq i.size 1 | none => false) | none => false) | _ => false) = true := by kernel_rfl
theorem ty41 : tyB Tryz.prog 41 false 1 = true := by kernel_rfl
theorem ty43 : tyB Tryz.prog 43 true 2 = true := by kernel_rfl
theorem in43 : (Tryz.prog.info? 43).map (fun i => (i.zero, i.size, i.bytes)) = some (some (.agg #[.slice none 0 0, .slice none 0 0]), 2, 48) := by kernel_rfl
theorem st43 : (match Tryz.prog.underlying 43 with | some (.struct fs) => fs.all (fun f => (Tryz.prog.info? f.type).isSome) | _ => false) = true := by kernel_rfl
theorem fl43_0 : fldB Tryz.prog 43 0 0 = true := by kernel_rfl
theorem fp43_0 : (match Tryz.prog.underlying 43 with | some (.struct fs) => (match fs[0]? with | some f => Nat.beq f.offset 0 && (match Tryz.prog.info? f.type with | some i => Nat.beq i.size 1 | none => false) | none => false) | _ => false) = true := by kernel_rfl
theorem fl43_1 : fldB Tryz.prog 43 1 1 = true := by kernel_rfl
theorem fp43_1 : (match Tryz.prog.underlying 43 with | some (.struct fs) => (match fs[1]? with | some f => Nat.beq f.offset 1 && (match Tryz.prog.info? f.type with | some i => Nat.beq i.size 1 | none => false) | none => false) | _ => false) = true := by kernel_rfl
theorem ty46 : tyB Tryz.prog 46 true 4 = true := by kernel_rfl
theorem in46 : (Tryz.prog.info? 46).map (fun i => (i.zero, i.size, i.bytes)) = some (some (.agg #[.int .i64 0, .int .i64 0, .int .i64 0, .int .i64 0]), 4, 32) := by kernel_rfl
theorem fl46_0 : fldB Tryz.prog 46 0 0 = true := by kernel_rfl
theorem fl46_1 : fldB Tryz.prog 46 1 1 = true := by kernel_rfl
theorem fl46_2 : fldB Tryz.prog 46 2 2 = true := by kernel_rfl
theorem fl46_3 : fldB Tryz.prog 46 3 3 = true := by kernel_rfl
theorem ty147 : tyB Tryz.prog 147 true 2 = true := by kernel_rfl
theorem in147 : (Tryz.prog.info? 147).map (fun i => (i.zero, i.size, i.bytes)) = some (some (.agg #[.int .i64 0, .bool false]), 2, 16) := by kernel_rfl
theorem st147 : (match Tryz.prog.underlying 147 with | some (.struct fs) => fs.all (fun f => (Tryz.prog.info? f.type).isSome) | _ => false) = true := by kernel_rfl
theorem fl147_0 : fldB Tryz.prog 147 0 0 = true := by kernel_rfl
theorem fp147_0 : (match Tryz.prog.underlying 147 with | some (.struct fs) => (match fs[0]? with | some f => Nat.beq f.offset 0 && (match Tryz.prog.info? f.type with | some i => Nat.beq i.size 1 | none => false) | none => false) | _ => false) = true := by kernel_rfl
theorem fl147_1 : fldB Tryz.prog 147 1 1 = true := by kernel_rfl
theorem fp147_1 : (match Tryz.prog.underlying 147 with | some (.struct fs) => (match fs[1]? with | some f => Nat.beq f.offset 1 && (match Tryz.prog.info? f.type with | some i => Nat.beq i.size 1 | none => false) | none => false) | _ => false) = true := by kernel_rfl
theorem ty149 : tyB Tryz.prog 149 true 4 = true := by kernel_rfl
theorem in149 : (Tryz.prog.info? 149).map (fun i => (i.zero, i.size, i.bytes)) = some (some (.agg #[.int .i64 0, .bool false, .int .i64 0, .int .i64 0]), 4, 32) := by kernel_rfl
theorem st149 : (match Tryz.prog.underlying 149 with | some (.struct fs) => fs.all (fun f => (Tryz.prog.info? f.type).isSome) | _ => false) = true := by kernel_rfl
theorem fp149_0 : (match Tryz.prog.underlying 149 with | some (.struct fs) => (match fs[0]? with | some f => Nat.beq f.offset 0 && (match Tryz.prog.info? f.type with | some i => Nat.beq i.size 2 | none => false) | none => false) | _ => false) = true := by kernel_rfl
theorem fl149_1 : fldB Tryz.prog 149 1 2 = true := by kernel_rfl
theorem fp149_1 : (match Tryz.prog.underlying 149 with | some (.struct fs) => (match fs[1]? with | some f => Nat.beq f.offset 2 && (match Tryz.prog.info? f.type with | some i => Nat.beq i.size 1 | none => false) | none => false) | _ => false) = true := by kernel_rfl
theorem fl149_2 : fldB Tryz.prog 149 2 3 = true := by kernel_rfl
theorem fp149_2 : (match Tryz.prog.underlying 149 with | some (.struct fs) => (match fs[2]? with | some f => Nat.beq f.offset 3 && (match Tryz.prog.info? f.type with | some i => Nat.beq i.size 1 | none => false) | none => false) | _ => false) = true := by kernel_rfl
theorem ty230 : tyB Tryz.prog 230 false 1 = true := by kernel_rfl
theorem in230 : (Tryz.prog.info? 230).map (fun i => (i.zero, i.size, i.bytes)) = some (some (.slice none 0 0), 1, 24) := by kernel_rfl
theorem ty232 : tyB Tryz.prog 232 true 4 = true := by kernel_rfl
theorem in232 : (Tryz.prog.info? 232).map (fun i => (i.zero, i.size, i.bytes)) = some (some (.agg #[.int .i64 0, .bool false, .int .i64 0, .int .i64 0]), 4, 32) := by kernel_rfl
theorem st232 : (match Tryz.prog.underlying 232 with | some (.struct fs) => fs.all (fun f => (Tryz.prog.info? f.type).isSome) | _ => false) = true := by kernel_rfl
theorem fp232_0 : (match Tryz.prog.underlying 232 with | some (.struct fs) => (match fs[0]? with | some f => Nat.beq f.offset 0 && (match Tryz.prog.info? f.type with | some i => Nat.beq i.size 2 | none => false) | none => false) | _ => false) = true := by kernel_rfl
theorem fl232_1 : fldB Tryz.prog 232 1 2 = true := by kernel_rfl
theorem fp232_1 : (match Tryz.prog.underlying 232 with | some (.struct fs) => (match fs[1]? with | some f => Nat.beq f.offset 2 && (match Tryz.prog.info? f.type with | some i => Nat.beq i.size 1 | none => false) | none => false) | _ => false) = true := by kernel_rfl
theorem fl232_2 : fldB Tryz.prog 232 2 3 = true := by kernel_rfl
theorem fp232_2 : (match Tryz.prog.underlying 232 with | some (.struct fs) => (match fs[2]? with | some f => Nat.beq f.offset 3 && (match Tryz.prog.info? f.type with | some i => Nat.beq i.size 1 | none => false) | none => false) | _ => false) = true := by kernel_rfl
end Go.Proofs.YtoealglkenhphaaGreat
