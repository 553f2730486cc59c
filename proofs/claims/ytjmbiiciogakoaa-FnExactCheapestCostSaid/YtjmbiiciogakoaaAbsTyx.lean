/- The facts of the types that the walks in abstract states ask for. -/
import Derived.Test.YtjmbiiciogakoaaDatax
import Derived.Test.YtjmbiiciogakoaaProg
namespace Go.Proofs.Ytjmbiiciogakoaa
open Go.RowKit Go.Q
theorem ty3 : tyB Try.prog 3 false 1 = true := by kernel_rfl
theorem in3 : (Try.prog.info? 3).map (fun i => (i.zero, i.size, i.bytes)) = some (some (.int .i64 0), 1, 8) := by kernel_rfl
theorem ty4 : tyB Try.prog 4 false 1 = true := by kernel_rfl
theorem in4 : (Try.prog.info? 4).map (fun i => (i.zero, i.size, i.bytes)) = some (some (.bool false), 1, 1) := by kernel_rfl
theorem ty22 : tyB Try.prog 22 false 1 = true := by kernel_rfl
theorem in22 : (Try.prog.info? 22).map (fun i => (i.zero, i.size, i.bytes)) = some (some (.slice none 0 0), 1, 24) := by kernel_rfl
theorem ty23 : tyB Try.prog 23 false 1 = true := by kernel_rfl
theorem ty25 : tyB Try.prog 25 true 2 = true := by kernel_rfl
theorem fl25_0 : fldB Try.prog 25 0 0 = true := by kernel_rfl
theorem fl25_1 : fldB Try.prog 25 1 1 = true := by kernel_rfl
theorem ty26 : tyB Try.prog 26 false 1 = true := by kernel_rfl
theorem ty27 : tyB Try.prog 27 false 1 = true := by kernel_rfl
theorem ty29 : tyB Try.prog 29 true 3 = true := by kernel_rfl
theorem fl29_0 : fldB Try.prog 29 0 0 = true := by kernel_rfl
theorem fl29_1 : fldB Try.prog 29 1 1 = true := by kernel_rfl
theorem fl29_2 : fldB Try.prog 29 2 2 = true := by kernel_rfl
theorem ty33 : tyB Try.prog 33 false 1 = true := by kernel_rfl
theorem ty35 : tyB Try.prog 35 true 2 = true := by kernel_rfl
theorem in35 : (Try.prog.info? 35).map (fun i => (i.zero, i.size, i.bytes)) = some (some (.agg #[.slice none 0 0, .slice none 0 0]), 2, 48) := by kernel_rfl
theorem fl35_0 : fldB Try.prog 35 0 0 = true := by kernel_rfl
theorem fl35_1 : fldB Try.prog 35 1 1 = true := by kernel_rfl
theorem ty37 : tyB Try.prog 37 true 3 = true := by kernel_rfl
theorem in37 : (Try.prog.info? 37).map (fun i => (i.zero, i.size, i.bytes)) = some (some (.agg #[.int .i64 0, .slice none 0 0, .slice none 0 0]), 3, 56) := by kernel_rfl
theorem fl37_0 : fldB Try.prog 37 0 0 = true := by kernel_rfl
theorem fl37_1 : fldB Try.prog 37 1 1 = true := by kernel_rfl
theorem fl37_2 : fldB Try.prog 37 2 2 = true := by kernel_rfl
theorem ty88 : tyB Try.prog 88 true 2 = true := by kernel_rfl
theorem in88 : (Try.prog.info? 88).map (fun i => (i.zero, i.size, i.bytes)) = some (some (.agg #[.int .i64 0, .int .i64 0]), 2, 16) := by kernel_rfl
theorem st88 : (match Try.prog.underlying 88 with | some (.struct fs) => fs.all (fun f => (Try.prog.info? f.type).isSome) | _ => false) = true := by kernel_rfl
theorem fl88_0 : fldB Try.prog 88 0 0 = true := by kernel_rfl
theorem fp88_0 : (match Try.prog.underlying 88 with | some (.struct fs) => (match fs[0]? with | some f => Nat.beq f.offset 0 && (match Try.prog.info? f.type with | some i => Nat.beq i.size 1 | none => false) | none => false) | _ => false) = true := by kernel_rfl
theorem fl88_1 : fldB Try.prog 88 1 1 = true := by kernel_rfl
theorem fp88_1 : (match Try.prog.underlying 88 with | some (.struct fs) => (match fs[1]? with | some f => Nat.beq f.offset 1 && (match Try.prog.info? f.type with | some i => Nat.beq i.size 1 | none => false) | none => false) | _ => false) = true := by kernel_rfl
theorem ty98 : tyB Try.prog 98 true 2 = true := by kernel_rfl
theorem in98 : (Try.prog.info? 98).map (fun i => (i.zero, i.size, i.bytes)) = some (some (.agg #[.int .i64 0, .bool false]), 2, 16) := by kernel_rfl
theorem st98 : (match Try.prog.underlying 98 with | some (.struct fs) => fs.all (fun f => (Try.prog.info? f.type).isSome) | _ => false) = true := by kernel_rfl
theorem fl98_0 : fldB Try.prog 98 0 0 = true := by kernel_rfl
theorem fp98_0 : (match Try.prog.underlying 98 with | some (.struct fs) => (match fs[0]? with | some f => Nat.beq f.offset 0 && (match Try.prog.info? f.type with | some i => Nat.beq i.size 1 | none => false) | none => false) | _ => false) = true := by kernel_rfl
theorem fl98_1 : fldB Try.prog 98 1 1 = true := by kernel_rfl
theorem fp98_1 : (match Try.prog.underlying 98 with | some (.struct fs) => (match fs[1]? with | some f => Nat.beq f.offset 1 && (match Try.prog.info? f.type with | some i => Nat.beq i.size 1 | none => false) | none => false) | _ => false) = true := by kernel_rfl
theorem ty103 : tyB Try.prog 103 false 1 = true := by kernel_rfl
theorem in103 : (Try.prog.info? 103).map (fun i => (i.zero, i.size, i.bytes)) = some (some (.slice none 0 0), 1, 24) := by kernel_rfl
theorem ty105 : tyB Try.prog 105 true 4 = true := by kernel_rfl
theorem in105 : (Try.prog.info? 105).map (fun i => (i.zero, i.size, i.bytes)) = some (some (.agg #[.int .i64 0, .bool false, .int .i64 0, .int .i64 0]), 4, 32) := by kernel_rfl
theorem st105 : (match Try.prog.underlying 105 with | some (.struct fs) => fs.all (fun f => (Try.prog.info? f.type).isSome) | _ => false) = true := by kernel_rfl
theorem fp105_0 : (match Try.prog.underlying 105 with | some (.struct fs) => (match fs[0]? with | some f => Nat.beq f.offset 0 && (match Try.prog.info? f.type with | some i => Nat.beq i.size 2 | none => false) | none => false) | _ => false) = true := by kernel_rfl
theorem fl105_1 : fldB Try.prog 105 1 2 = true := by kernel_rfl
theorem fp105_1 : (match Try.prog.underlying 105 with | some (.struct fs) => (match fs[1]? with | some f => Nat.beq f.offset 2 && (match Try.prog.info? f.type with | some i => Nat.beq i.size 1 | none => false) | none => false) | _ => false) = true := by kernel_rfl
theorem fl105_2 : fldB Try.prog 105 2 3 = true := by kernel_rfl
theorem fp105_2 : (match Try.prog.underlying 105 with | some (.struct fs) => (match fs[2]? with | some f => Nat.beq f.offset 3 && (match Try.prog.info? f.type with | some i => Nat.beq i.size 1 | none => false) | none => false) | _ => false) = true := by kernel_rfl
theorem ty140 : tyB Try.prog 140 false 1 = true := by kernel_rfl
theorem in140 : (Try.prog.info? 140).map (fun i => (i.zero, i.size, i.bytes)) = some (some (.slice none 0 0), 1, 24) := by kernel_rfl
theorem ty143 : tyB Try.prog 143 true 4 = true := by kernel_rfl
theorem in143 : (Try.prog.info? 143).map (fun i => (i.zero, i.size, i.bytes)) = some (some (.agg #[.int .i64 0, .bool false, .int .i64 0, .int .i64 0]), 4, 32) := by kernel_rfl
theorem st143 : (match Try.prog.underlying 143 with | some (.struct fs) => fs.all (fun f => (Try.prog.info? f.type).isSome) | _ => false) = true := by kernel_rfl
theorem fl143_0 : fldB Try.prog 143 0 0 = true := by kernel_rfl
theorem fp143_0 : (match Try.prog.underlying 143 with | some (.struct fs) => (match fs[0]? with | some f => Nat.beq f.offset 0 && (match Try.prog.info? f.type with | some i => Nat.beq i.size 2 | none => false) | none => false) | _ => false) = true := by kernel_rfl
theorem fl143_1 : fldB Try.prog 143 1 2 = true := by kernel_rfl
theorem fp143_1 : (match Try.prog.underlying 143 with | some (.struct fs) => (match fs[1]? with | some f => Nat.beq f.offset 2 && (match Try.prog.info? f.type with | some i => Nat.beq i.size 1 | none => false) | none => false) | _ => false) = true := by kernel_rfl
theorem fl143_2 : fldB Try.prog 143 2 3 = true := by kernel_rfl
theorem fp143_2 : (match Try.prog.underlying 143 with | some (.struct fs) => (match fs[2]? with | some f => Nat.beq f.offset 3 && (match Try.prog.info? f.type with | some i => Nat.beq i.size 1 | none => false) | none => false) | _ => false) = true := by kernel_rfl
theorem ty145 : tyB Try.prog 145 true 4 = true := by kernel_rfl
theorem in145 : (Try.prog.info? 145).map (fun i => (i.zero, i.size, i.bytes)) = some (some (.agg #[.int .i64 0, .int .i64 0, .int .i64 0, .int .i64 0]), 4, 32) := by kernel_rfl
theorem st145 : (match Try.prog.underlying 145 with | some (.struct fs) => fs.all (fun f => (Try.prog.info? f.type).isSome) | _ => false) = true := by kernel_rfl
theorem fl145_0 : fldB Try.prog 145 0 0 = true := by kernel_rfl
theorem fl145_1 : fldB Try.prog 145 1 1 = true := by kernel_rfl
theorem fl145_2 : fldB Try.prog 145 2 2 = true := by kernel_rfl
theorem fl145_3 : fldB Try.prog 145 3 3 = true := by kernel_rfl
theorem ty147 : tyB Try.prog 147 true 4 = true := by kernel_rfl
theorem fl147_0 : fldB Try.prog 147 0 0 = true := by kernel_rfl
theorem fl147_1 : fldB Try.prog 147 1 1 = true := by kernel_rfl
theorem fl147_2 : fldB Try.prog 147 2 2 = true := by kernel_rfl
theorem fl147_3 : fldB Try.prog 147 3 3 = true := by kernel_rfl
end Go.Proofs.Ytjmbiiciogakoaa
