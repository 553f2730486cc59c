/- The facts of the types that the walks in abstract states ask for. -/
import Derived.Test.YtjnekafkdellkaaData
import Derived.Test.YtjnekafkdellkaaProg
namespace Go.Proofs.Ytjnekafkdellkaa
open Go.RowKit Go.Q
theorem ty3 : tyB Try.prog 3 false 1 = true := by kernel_rfl
theorem in3 : (Try.prog.info? 3).map (fun i => (i.zero, i.size, i.bytes)) = some (some (.int .i64 0), 1, 8) := by kernel_rfl
theorem ty4 : tyB Try.prog 4 false 1 = true := by kernel_rfl
theorem in4 : (Try.prog.info? 4).map (fun i => (i.zero, i.size, i.bytes)) = some (some (.bool false), 1, 1) := by kernel_rfl
theorem ty22 : tyB Try.prog 22 false 1 = true := by kernel_rfl
theorem in22 : (Try.prog.info? 22).map (fun i => (i.zero, i.size, i.bytes)) = some (some (.slice none 0 0), 1, 24) := by kernel_rfl
theorem ty23 : tyB Try.prog 23 false 1 = true := by kernel_rfl
theorem in23 : (Try.prog.info? 23).map (fun i => (i.zero, i.size, i.bytes)) = some (some (.slice none 0 0), 1, 24) := by kernel_rfl
theorem ty25 : tyB Try.prog 25 true 2 = true := by kernel_rfl
theorem in25 : (Try.prog.info? 25).map (fun i => (i.zero, i.size, i.bytes)) = some (some (.agg #[.slice none 0 0, .slice none 0 0]), 2, 48) := by kernel_rfl
theorem st25 : (match Try.prog.underlying 25 with | some (.struct fs) => fs.all (fun f => (Try.prog.info? f.type).isSome) | _ => false) = true := by kernel_rfl
theorem fl25_0 : fldB Try.prog 25 0 0 = true := by kernel_rfl
theorem fp25_0 : (match Try.prog.underlying 25 with | some (.struct fs) => (match fs[0]? with | some f => Nat.beq f.offset 0 && (match Try.prog.info? f.type with | some i => Nat.beq i.size 1 | none => false) | none => false) | _ => false) = true := by kernel_rfl
theorem fl25_1 : fldB Try.prog 25 1 1 = true := by kernel_rfl
theorem fp25_1 : (match Try.prog.underlying 25 with | some (.struct fs) => (match fs[1]? with | some f => Nat.beq f.offset 1 && (match Try.prog.info? f.type with | some i => Nat.beq i.size 1 | none => false) | none => false) | _ => false) = true := by kernel_rfl
theorem ty30 : tyB Try.prog 30 false 1 = true := by kernel_rfl
theorem in30 : (Try.prog.info? 30).map (fun i => (i.zero, i.size, i.bytes)) = some (some (.nilFunc), 1, 8) := by kernel_rfl
theorem ty34 : tyB Try.prog 34 false 1 = true := by kernel_rfl
theorem in34 : (Try.prog.info? 34).map (fun i => (i.zero, i.size, i.bytes)) = some (some (.slice none 0 0), 1, 24) := by kernel_rfl
theorem ty36 : tyB Try.prog 36 true 1 = true := by kernel_rfl
theorem in36 : (Try.prog.info? 36).map (fun i => (i.zero, i.size, i.bytes)) = some (some (.agg #[.slice none 0 0]), 1, 24) := by kernel_rfl
theorem st36 : (match Try.prog.underlying 36 with | some (.struct fs) => fs.all (fun f => (Try.prog.info? f.type).isSome) | _ => false) = true := by kernel_rfl
theorem fl36_0 : fldB Try.prog 36 0 0 = true := by kernel_rfl
theorem fp36_0 : (match Try.prog.underlying 36 with | some (.struct fs) => (match fs[0]? with | some f => Nat.beq f.offset 0 && (match Try.prog.info? f.type with | some i => Nat.beq i.size 1 | none => false) | none => false) | _ => false) = true := by kernel_rfl
theorem ty39 : tyB Try.prog 39 false 1 = true := by kernel_rfl
theorem in39 : (Try.prog.info? 39).map (fun i => (i.zero, i.size, i.bytes)) = some (some (.slice none 0 0), 1, 24) := by kernel_rfl
theorem ty41 : tyB Try.prog 41 true 1 = true := by kernel_rfl
theorem in41 : (Try.prog.info? 41).map (fun i => (i.zero, i.size, i.bytes)) = some (some (.agg #[.slice none 0 0]), 1, 24) := by kernel_rfl
theorem st41 : (match Try.prog.underlying 41 with | some (.struct fs) => fs.all (fun f => (Try.prog.info? f.type).isSome) | _ => false) = true := by kernel_rfl
theorem fl41_0 : fldB Try.prog 41 0 0 = true := by kernel_rfl
theorem fp41_0 : (match Try.prog.underlying 41 with | some (.struct fs) => (match fs[0]? with | some f => Nat.beq f.offset 0 && (match Try.prog.info? f.type with | some i => Nat.beq i.size 1 | none => false) | none => false) | _ => false) = true := by kernel_rfl
theorem ty45 : tyB Try.prog 45 false 1 = true := by kernel_rfl
theorem in45 : (Try.prog.info? 45).map (fun i => (i.zero, i.size, i.bytes)) = some (some (.slice none 0 0), 1, 24) := by kernel_rfl
theorem ty46 : tyB Try.prog 46 false 1 = true := by kernel_rfl
theorem in46 : (Try.prog.info? 46).map (fun i => (i.zero, i.size, i.bytes)) = some (some (.slice none 0 0), 1, 24) := by kernel_rfl
theorem ty48 : tyB Try.prog 48 true 3 = true := by kernel_rfl
theorem in48 : (Try.prog.info? 48).map (fun i => (i.zero, i.size, i.bytes)) = some (some (.agg #[.int .i64 0, .slice none 0 0, .slice none 0 0]), 3, 56) := by kernel_rfl
theorem st48 : (match Try.prog.underlying 48 with | some (.struct fs) => fs.all (fun f => (Try.prog.info? f.type).isSome) | _ => false) = true := by kernel_rfl
theorem fl48_0 : fldB Try.prog 48 0 0 = true := by kernel_rfl
theorem fp48_0 : (match Try.prog.underlying 48 with | some (.struct fs) => (match fs[0]? with | some f => Nat.beq f.offset 0 && (match Try.prog.info? f.type with | some i => Nat.beq i.size 1 | none => false) | none => false) | _ => false) = true := by kernel_rfl
theorem fl48_1 : fldB Try.prog 48 1 1 = true := by kernel_rfl
theorem fp48_1 : (match Try.prog.underlying 48 with | some (.struct fs) => (match fs[1]? with | some f => Nat.beq f.offset 1 && (match Try.prog.info? f.type with | some i => Nat.beq i.size 1 | none => false) | none => false) | _ => false) = true := by kernel_rfl
theorem fl48_2 : fldB Try.prog 48 2 2 = true := by kernel_rfl
theorem fp48_2 : (match Try.prog.underlying 48 with | some (.struct fs) => (match fs[2]? with | some f => Nat.beq f.offset 2 && (match Try.prog.info? f.type with | some i => Nat.beq i.size 1 | none => false) | none => false) | _ => false) = true := by kernel_rfl
theorem ty50 : tyB Try.prog 50 true 6 = true := by kernel_rfl
theorem in50 : (Try.prog.info? 50).map (fun i => (i.zero, i.size, i.bytes)) = some (some (.agg #[.int .i64 0, .slice none 0 0, .slice none 0 0, .int .i64 0, .slice none 0 0, .slice none 0 0]), 6, 112) := by kernel_rfl
theorem st50 : (match Try.prog.underlying 50 with | some (.struct fs) => fs.all (fun f => (Try.prog.info? f.type).isSome) | _ => false) = true := by kernel_rfl
theorem fl50_0 : fldB Try.prog 50 0 0 = true := by kernel_rfl
theorem fp50_0 : (match Try.prog.underlying 50 with | some (.struct fs) => (match fs[0]? with | some f => Nat.beq f.offset 0 && (match Try.prog.info? f.type with | some i => Nat.beq i.size 3 | none => false) | none => false) | _ => false) = true := by kernel_rfl
theorem fl50_1 : fldB Try.prog 50 1 3 = true := by kernel_rfl
theorem fp50_1 : (match Try.prog.underlying 50 with | some (.struct fs) => (match fs[1]? with | some f => Nat.beq f.offset 3 && (match Try.prog.info? f.type with | some i => Nat.beq i.size 1 | none => false) | none => false) | _ => false) = true := by kernel_rfl
theorem fl50_2 : fldB Try.prog 50 2 4 = true := by kernel_rfl
theorem fp50_2 : (match Try.prog.underlying 50 with | some (.struct fs) => (match fs[2]? with | some f => Nat.beq f.offset 4 && (match Try.prog.info? f.type with | some i => Nat.beq i.size 1 | none => false) | none => false) | _ => false) = true := by kernel_rfl
theorem fl50_3 : fldB Try.prog 50 3 5 = true := by kernel_rfl
theorem fp50_3 : (match Try.prog.underlying 50 with | some (.struct fs) => (match fs[3]? with | some f => Nat.beq f.offset 5 && (match Try.prog.info? f.type with | some i => Nat.beq i.size 1 | none => false) | none => false) | _ => false) = true := by kernel_rfl
theorem ty53 : tyB Try.prog 53 true 3 = true := by kernel_rfl
theorem in53 : (Try.prog.info? 53).map (fun i => (i.zero, i.size, i.bytes)) = some (some (.agg #[.int .i64 0, .slice none 0 0, .slice none 0 0]), 3, 56) := by kernel_rfl
theorem st53 : (match Try.prog.underlying 53 with | some (.struct fs) => fs.all (fun f => (Try.prog.info? f.type).isSome) | _ => false) = true := by kernel_rfl
theorem fl53_0 : fldB Try.prog 53 0 0 = true := by kernel_rfl
theorem fp53_0 : (match Try.prog.underlying 53 with | some (.struct fs) => (match fs[0]? with | some f => Nat.beq f.offset 0 && (match Try.prog.info? f.type with | some i => Nat.beq i.size 1 | none => false) | none => false) | _ => false) = true := by kernel_rfl
theorem fl53_1 : fldB Try.prog 53 1 1 = true := by kernel_rfl
theorem fp53_1 : (match Try.prog.underlying 53 with | some (.struct fs) => (match fs[1]? with | some f => Nat.beq f.offset 1 && (match Try.prog.info? f.type with | some i => Nat.beq i.size 1 | none => false) | none => false) | _ => false) = true := by kernel_rfl
theorem fl53_2 : fldB Try.prog 53 2 2 = true := by kernel_rfl
theorem fp53_2 : (match Try.prog.underlying 53 with | some (.struct fs) => (match fs[2]? with | some f => Nat.beq f.offset 2 && (match Try.prog.info? f.type with | some i => Nat.beq i.size 1 | none => false) | none => false) | _ => false) = true := by kernel_rfl
theorem ty55 : tyB Try.prog 55 true 6 = true := by kernel_rfl
theorem in55 : (Try.prog.info? 55).map (fun i => (i.zero, i.size, i.bytes)) = some (some (.agg #[.int .i64 0, .slice none 0 0, .slice none 0 0, .int .i64 0, .slice none 0 0, .slice none 0 0]), 6, 112) := by kernel_rfl
theorem st55 : (match Try.prog.underlying 55 with | some (.struct fs) => fs.all (fun f => (Try.prog.info? f.type).isSome) | _ => false) = true := by kernel_rfl
theorem fl55_0 : fldB Try.prog 55 0 0 = true := by kernel_rfl
theorem fp55_0 : (match Try.prog.underlying 55 with | some (.struct fs) => (match fs[0]? with | some f => Nat.beq f.offset 0 && (match Try.prog.info? f.type with | some i => Nat.beq i.size 3 | none => false) | none => false) | _ => false) = true := by kernel_rfl
theorem fl55_1 : fldB Try.prog 55 1 3 = true := by kernel_rfl
theorem fp55_1 : (match Try.prog.underlying 55 with | some (.struct fs) => (match fs[1]? with | some f => Nat.beq f.offset 3 && (match Try.prog.info? f.type with | some i => Nat.beq i.size 1 | none => false) | none => false) | _ => false) = true := by kernel_rfl
theorem fl55_2 : fldB Try.prog 55 2 4 = true := by kernel_rfl
theorem fp55_2 : (match Try.prog.underlying 55 with | some (.struct fs) => (match fs[2]? with | some f => Nat.beq f.offset 4 && (match Try.prog.info? f.type with | some i => Nat.beq i.size 1 | none => false) | none => false) | _ => false) = true := by kernel_rfl
theorem fl55_3 : fldB Try.prog 55 3 5 = true := by kernel_rfl
theorem fp55_3 : (match Try.prog.underlying 55 with | some (.struct fs) => (match fs[3]? with | some f => Nat.beq f.offset 5 && (match Try.prog.info? f.type with | some i => Nat.beq i.size 1 | none => false) | none => false) | _ => false) = true := by kernel_rfl
theorem ty58 : tyB Try.prog 58 false 1 = true := by kernel_rfl
theorem in58 : (Try.prog.info? 58).map (fun i => (i.zero, i.size, i.bytes)) = some (some (.slice none 0 0), 1, 24) := by kernel_rfl
theorem ty60 : tyB Try.prog 60 true 2 = true := by kernel_rfl
theorem in60 : (Try.prog.info? 60).map (fun i => (i.zero, i.size, i.bytes)) = some (some (.agg #[.slice none 0 0, .slice none 0 0]), 2, 48) := by kernel_rfl
theorem st60 : (match Try.prog.underlying 60 with | some (.struct fs) => fs.all (fun f => (Try.prog.info? f.type).isSome) | _ => false) = true := by kernel_rfl
theorem fl60_0 : fldB Try.prog 60 0 0 = true := by kernel_rfl
theorem fp60_0 : (match Try.prog.underlying 60 with | some (.struct fs) => (match fs[0]? with | some f => Nat.beq f.offset 0 && (match Try.prog.info? f.type with | some i => Nat.beq i.size 1 | none => false) | none => false) | _ => false) = true := by kernel_rfl
theorem fl60_1 : fldB Try.prog 60 1 1 = true := by kernel_rfl
theorem fp60_1 : (match Try.prog.underlying 60 with | some (.struct fs) => (match fs[1]? with | some f => Nat.beq f.offset 1 && (match Try.prog.info? f.type with | some i => Nat.beq i.size 1 | none => false) | none => false) | _ => false) = true := by kernel_rfl
theorem ty62 : tyB Try.prog 62 true 2 = true := by kernel_rfl
theorem in62 : (Try.prog.info? 62).map (fun i => (i.zero, i.size, i.bytes)) = some (some (.agg #[.int .i64 0, .bool false]), 2, 16) := by kernel_rfl
theorem st62 : (match Try.prog.underlying 62 with | some (.struct fs) => fs.all (fun f => (Try.prog.info? f.type).isSome) | _ => false) = true := by kernel_rfl
theorem eqS62 (x0 : Int) (x1 : Bool) (y0 : Int) (y1 : Bool) (w : World) : (binOp .eql 62 (.agg (List.toArray [.int .i64 x0, .bool x1])) (.agg (List.toArray [.int .i64 y0, .bool y1]))).run Try.prog w = .ok (.bool ((decide (x0 = y0) && decide (x1 = y1)))) w := by
  have hs : Try.prog.stoodInHeld 62 = false := by kernel_rfl
  simp [go_sem, hs, Try.underlying62]
  repeat' split
  all_goals simp [*]
theorem neS62 (x0 : Int) (x1 : Bool) (y0 : Int) (y1 : Bool) (w : World) : (binOp .neq 62 (.agg (List.toArray [.int .i64 x0, .bool x1])) (.agg (List.toArray [.int .i64 y0, .bool y1]))).run Try.prog w = .ok (.bool (!(decide (x0 = y0) && decide (x1 = y1)))) w := by
  have hs : Try.prog.stoodInHeld 62 = false := by kernel_rfl
  simp [go_sem, hs, Try.underlying62]
  repeat' split
  all_goals simp [*]
theorem fl62_0 : fldB Try.prog 62 0 0 = true := by kernel_rfl
theorem fp62_0 : (match Try.prog.underlying 62 with | some (.struct fs) => (match fs[0]? with | some f => Nat.beq f.offset 0 && (match Try.prog.info? f.type with | some i => Nat.beq i.size 1 | none => false) | none => false) | _ => false) = true := by kernel_rfl
theorem fl62_1 : fldB Try.prog 62 1 1 = true := by kernel_rfl
theorem fp62_1 : (match Try.prog.underlying 62 with | some (.struct fs) => (match fs[1]? with | some f => Nat.beq f.offset 1 && (match Try.prog.info? f.type with | some i => Nat.beq i.size 1 | none => false) | none => false) | _ => false) = true := by kernel_rfl
theorem ty66 : tyB Try.prog 66 true 2 = true := by kernel_rfl
theorem in66 : (Try.prog.info? 66).map (fun i => (i.zero, i.size, i.bytes)) = some (some (.agg #[.int .i64 0, .bool false]), 2, 16) := by kernel_rfl
theorem st66 : (match Try.prog.underlying 66 with | some (.struct fs) => fs.all (fun f => (Try.prog.info? f.type).isSome) | _ => false) = true := by kernel_rfl
theorem eqS66 (x0 : Int) (x1 : Bool) (y0 : Int) (y1 : Bool) (w : World) : (binOp .eql 66 (.agg (List.toArray [.int .i64 x0, .bool x1])) (.agg (List.toArray [.int .i64 y0, .bool y1]))).run Try.prog w = .ok (.bool ((decide (x0 = y0) && decide (x1 = y1)))) w := by
  have hs : Try.prog.stoodInHeld 66 = false := by kernel_rfl
  simp [go_sem, hs, Try.underlying66]
  repeat' split
  all_goals simp [*]
theorem neS66 (x0 : Int) (x1 : Bool) (y0 : Int) (y1 : Bool) (w : World) : (binOp .neq 66 (.agg (List.toArray [.int .i64 x0, .bool x1])) (.agg (List.toArray [.int .i64 y0, .bool y1]))).run Try.prog w = .ok (.bool (!(decide (x0 = y0) && decide (x1 = y1)))) w := by
  have hs : Try.prog.stoodInHeld 66 = false := by kernel_rfl
  simp [go_sem, hs, Try.underlying66]
  repeat' split
  all_goals simp [*]
theorem fl66_0 : fldB Try.prog 66 0 0 = true := by kernel_rfl
theorem fp66_0 : (match Try.prog.underlying 66 with | some (.struct fs) => (match fs[0]? with | some f => Nat.beq f.offset 0 && (match Try.prog.info? f.type with | some i => Nat.beq i.size 1 | none => false) | none => false) | _ => false) = true := by kernel_rfl
theorem fl66_1 : fldB Try.prog 66 1 1 = true := by kernel_rfl
theorem fp66_1 : (match Try.prog.underlying 66 with | some (.struct fs) => (match fs[1]? with | some f => Nat.beq f.offset 1 && (match Try.prog.info? f.type with | some i => Nat.beq i.size 1 | none => false) | none => false) | _ => false) = true := by kernel_rfl
theorem ty69 : tyB Try.prog 69 false 1 = true := by kernel_rfl
theorem in69 : (Try.prog.info? 69).map (fun i => (i.zero, i.size, i.bytes)) = some (some (.slice none 0 0), 1, 24) := by kernel_rfl
theorem ty71 : tyB Try.prog 71 true 2 = true := by kernel_rfl
theorem in71 : (Try.prog.info? 71).map (fun i => (i.zero, i.size, i.bytes)) = some (some (.agg #[.int .i64 0, .slice none 0 0]), 2, 32) := by kernel_rfl
theorem st71 : (match Try.prog.underlying 71 with | some (.struct fs) => fs.all (fun f => (Try.prog.info? f.type).isSome) | _ => false) = true := by kernel_rfl
theorem fl71_0 : fldB Try.prog 71 0 0 = true := by kernel_rfl
theorem fp71_0 : (match Try.prog.underlying 71 with | some (.struct fs) => (match fs[0]? with | some f => Nat.beq f.offset 0 && (match Try.prog.info? f.type with | some i => Nat.beq i.size 1 | none => false) | none => false) | _ => false) = true := by kernel_rfl
theorem fl71_1 : fldB Try.prog 71 1 1 = true := by kernel_rfl
theorem fp71_1 : (match Try.prog.underlying 71 with | some (.struct fs) => (match fs[1]? with | some f => Nat.beq f.offset 1 && (match Try.prog.info? f.type with | some i => Nat.beq i.size 1 | none => false) | none => false) | _ => false) = true := by kernel_rfl
theorem ty74 : tyB Try.prog 74 false 1 = true := by kernel_rfl
theorem in74 : (Try.prog.info? 74).map (fun i => (i.zero, i.size, i.bytes)) = some (some (.slice none 0 0), 1, 24) := by kernel_rfl
theorem ty76 : tyB Try.prog 76 true 2 = true := by kernel_rfl
theorem in76 : (Try.prog.info? 76).map (fun i => (i.zero, i.size, i.bytes)) = some (some (.agg #[.int .i64 0, .slice none 0 0]), 2, 32) := by kernel_rfl
theorem st76 : (match Try.prog.underlying 76 with | some (.struct fs) => fs.all (fun f => (Try.prog.info? f.type).isSome) | _ => false) = true := by kernel_rfl
theorem fl76_0 : fldB Try.prog 76 0 0 = true := by kernel_rfl
theorem fp76_0 : (match Try.prog.underlying 76 with | some (.struct fs) => (match fs[0]? with | some f => Nat.beq f.offset 0 && (match Try.prog.info? f.type with | some i => Nat.beq i.size 1 | none => false) | none => false) | _ => false) = true := by kernel_rfl
theorem fl76_1 : fldB Try.prog 76 1 1 = true := by kernel_rfl
theorem fp76_1 : (match Try.prog.underlying 76 with | some (.struct fs) => (match fs[1]? with | some f => Nat.beq f.offset 1 && (match Try.prog.info? f.type with | some i => Nat.beq i.size 1 | none => false) | none => false) | _ => false) = true := by kernel_rfl
theorem ty80 : tyB Try.prog 80 false 1 = true := by kernel_rfl
theorem in80 : (Try.prog.info? 80).map (fun i => (i.zero, i.size, i.bytes)) = some (some (.slice none 0 0), 1, 24) := by kernel_rfl
theorem ty81 : tyB Try.prog 81 false 1 = true := by kernel_rfl
theorem in81 : (Try.prog.info? 81).map (fun i => (i.zero, i.size, i.bytes)) = some (some (.slice none 0 0), 1, 24) := by kernel_rfl
theorem ty83 : tyB Try.prog 83 true 2 = true := by kernel_rfl
theorem in83 : (Try.prog.info? 83).map (fun i => (i.zero, i.size, i.bytes)) = some (some (.agg #[.slice none 0 0, .slice none 0 0]), 2, 48) := by kernel_rfl
theorem st83 : (match Try.prog.underlying 83 with | some (.struct fs) => fs.all (fun f => (Try.prog.info? f.type).isSome) | _ => false) = true := by kernel_rfl
theorem fl83_0 : fldB Try.prog 83 0 0 = true := by kernel_rfl
theorem fp83_0 : (match Try.prog.underlying 83 with | some (.struct fs) => (match fs[0]? with | some f => Nat.beq f.offset 0 && (match Try.prog.info? f.type with | some i => Nat.beq i.size 1 | none => false) | none => false) | _ => false) = true := by kernel_rfl
theorem fl83_1 : fldB Try.prog 83 1 1 = true := by kernel_rfl
theorem fp83_1 : (match Try.prog.underlying 83 with | some (.struct fs) => (match fs[1]? with | some f => Nat.beq f.offset 1 && (match Try.prog.info? f.type with | some i => Nat.beq i.size 1 | none => false) | none => false) | _ => false) = true := by kernel_rfl
theorem ty86 : tyB Try.prog 86 false 1 = true := by kernel_rfl
theorem in86 : (Try.prog.info? 86).map (fun i => (i.zero, i.size, i.bytes)) = some (some (.slice none 0 0), 1, 24) := by kernel_rfl
theorem ty87 : tyB Try.prog 87 false 1 = true := by kernel_rfl
theorem in87 : (Try.prog.info? 87).map (fun i => (i.zero, i.size, i.bytes)) = some (some (.slice none 0 0), 1, 24) := by kernel_rfl
theorem ty89 : tyB Try.prog 89 true 2 = true := by kernel_rfl
theorem in89 : (Try.prog.info? 89).map (fun i => (i.zero, i.size, i.bytes)) = some (some (.agg #[.slice none 0 0, .slice none 0 0]), 2, 48) := by kernel_rfl
theorem st89 : (match Try.prog.underlying 89 with | some (.struct fs) => fs.all (fun f => (Try.prog.info? f.type).isSome) | _ => false) = true := by kernel_rfl
theorem fl89_0 : fldB Try.prog 89 0 0 = true := by kernel_rfl
theorem fp89_0 : (match Try.prog.underlying 89 with | some (.struct fs) => (match fs[0]? with | some f => Nat.beq f.offset 0 && (match Try.prog.info? f.type with | some i => Nat.beq i.size 1 | none => false) | none => false) | _ => false) = true := by kernel_rfl
theorem fl89_1 : fldB Try.prog 89 1 1 = true := by kernel_rfl
theorem fp89_1 : (match Try.prog.underlying 89 with | some (.struct fs) => (match fs[1]? with | some f => Nat.beq f.offset 1 && (match Try.prog.info? f.type with | some i => Nat.beq i.size 1 | none => false) | none => false) | _ => false) = true := by kernel_rfl
theorem ty93 : tyB Try.prog 93 false 1 = true := by kernel_rfl
theorem in93 : (Try.prog.info? 93).map (fun i => (i.zero, i.size, i.bytes)) = some (some (.slice none 0 0), 1, 24) := by kernel_rfl
theorem ty95 : tyB Try.prog 95 true 2 = true := by kernel_rfl
theorem in95 : (Try.prog.info? 95).map (fun i => (i.zero, i.size, i.bytes)) = some (some (.agg #[.int .i64 0, .slice none 0 0]), 2, 32) := by kernel_rfl
theorem st95 : (match Try.prog.underlying 95 with | some (.struct fs) => fs.all (fun f => (Try.prog.info? f.type).isSome) | _ => false) = true := by kernel_rfl
theorem fl95_0 : fldB Try.prog 95 0 0 = true := by kernel_rfl
theorem fp95_0 : (match Try.prog.underlying 95 with | some (.struct fs) => (match fs[0]? with | some f => Nat.beq f.offset 0 && (match Try.prog.info? f.type with | some i => Nat.beq i.size 1 | none => false) | none => false) | _ => false) = true := by kernel_rfl
theorem fl95_1 : fldB Try.prog 95 1 1 = true := by kernel_rfl
theorem fp95_1 : (match Try.prog.underlying 95 with | some (.struct fs) => (match fs[1]? with | some f => Nat.beq f.offset 1 && (match Try.prog.info? f.type with | some i => Nat.beq i.size 1 | none => false) | none => false) | _ => false) = true := by kernel_rfl
theorem ty98 : tyB Try.prog 98 false 1 = true := by kernel_rfl
theorem in98 : (Try.prog.info? 98).map (fun i => (i.zero, i.size, i.bytes)) = some (some (.slice none 0 0), 1, 24) := by kernel_rfl
theorem ty100 : tyB Try.prog 100 true 2 = true := by kernel_rfl
theorem in100 : (Try.prog.info? 100).map (fun i => (i.zero, i.size, i.bytes)) = some (some (.agg #[.int .i64 0, .slice none 0 0]), 2, 32) := by kernel_rfl
theorem st100 : (match Try.prog.underlying 100 with | some (.struct fs) => fs.all (fun f => (Try.prog.info? f.type).isSome) | _ => false) = true := by kernel_rfl
theorem fl100_0 : fldB Try.prog 100 0 0 = true := by kernel_rfl
theorem fp100_0 : (match Try.prog.underlying 100 with | some (.struct fs) => (match fs[0]? with | some f => Nat.beq f.offset 0 && (match Try.prog.info? f.type with | some i => Nat.beq i.size 1 | none => false) | none => false) | _ => false) = true := by kernel_rfl
theorem fl100_1 : fldB Try.prog 100 1 1 = true := by kernel_rfl
theorem fp100_1 : (match Try.prog.underlying 100 with | some (.struct fs) => (match fs[1]? with | some f => Nat.beq f.offset 1 && (match Try.prog.info? f.type with | some i => Nat.beq i.size 1 | none => false) | none => false) | _ => false) = true := by kernel_rfl
theorem ty108 : tyB Try.prog 108 true 4 = true := by kernel_rfl
theorem in108 : (Try.prog.info? 108).map (fun i => (i.zero, i.size, i.bytes)) = some (some (.agg #[.int .i64 0, .int .i64 0, .int .i64 0, .int .i64 0]), 4, 32) := by kernel_rfl
theorem st108 : (match Try.prog.underlying 108 with | some (.struct fs) => fs.all (fun f => (Try.prog.info? f.type).isSome) | _ => false) = true := by kernel_rfl
theorem eqS108 (x0 : Int) (x1 : Int) (x2 : Int) (x3 : Int) (y0 : Int) (y1 : Int) (y2 : Int) (y3 : Int) (w : World) : (binOp .eql 108 (.agg (List.toArray [.int .i64 x0, .int .i64 x1, .int .i64 x2, .int .i64 x3])) (.agg (List.toArray [.int .i64 y0, .int .i64 y1, .int .i64 y2, .int .i64 y3]))).run Try.prog w = .ok (.bool ((decide (x0 = y0) && decide (x1 = y1) && decide (x2 = y2) && decide (x3 = y3)))) w := by
  have hs : Try.prog.stoodInHeld 108 = false := by kernel_rfl
  simp [go_sem, hs, Try.underlying108]
  repeat' split
  all_goals simp [*]
theorem neS108 (x0 : Int) (x1 : Int) (x2 : Int) (x3 : Int) (y0 : Int) (y1 : Int) (y2 : Int) (y3 : Int) (w : World) : (binOp .neq 108 (.agg (List.toArray [.int .i64 x0, .int .i64 x1, .int .i64 x2, .int .i64 x3])) (.agg (List.toArray [.int .i64 y0, .int .i64 y1, .int .i64 y2, .int .i64 y3]))).run Try.prog w = .ok (.bool (!(decide (x0 = y0) && decide (x1 = y1) && decide (x2 = y2) && decide (x3 = y3)))) w := by
  have hs : Try.prog.stoodInHeld 108 = false := by kernel_rfl
  simp [go_sem, hs, Try.underlying108]
  repeat' split
  all_goals simp [*]
theorem fl108_0 : fldB Try.prog 108 0 0 = true := by kernel_rfl
theorem fp108_0 : (match Try.prog.underlying 108 with | some (.struct fs) => (match fs[0]? with | some f => Nat.beq f.offset 0 && (match Try.prog.info? f.type with | some i => Nat.beq i.size 1 | none => false) | none => false) | _ => false) = true := by kernel_rfl
theorem fl108_1 : fldB Try.prog 108 1 1 = true := by kernel_rfl
theorem fp108_1 : (match Try.prog.underlying 108 with | some (.struct fs) => (match fs[1]? with | some f => Nat.beq f.offset 1 && (match Try.prog.info? f.type with | some i => Nat.beq i.size 1 | none => false) | none => false) | _ => false) = true := by kernel_rfl
theorem fl108_2 : fldB Try.prog 108 2 2 = true := by kernel_rfl
theorem fp108_2 : (match Try.prog.underlying 108 with | some (.struct fs) => (match fs[2]? with | some f => Nat.beq f.offset 2 && (match Try.prog.info? f.type with | some i => Nat.beq i.size 1 | none => false) | none => false) | _ => false) = true := by kernel_rfl
theorem fl108_3 : fldB Try.prog 108 3 3 = true := by kernel_rfl
theorem fp108_3 : (match Try.prog.underlying 108 with | some (.struct fs) => (match fs[3]? with | some f => Nat.beq f.offset 3 && (match Try.prog.info? f.type with | some i => Nat.beq i.size 1 | none => false) | none => false) | _ => false) = true := by kernel_rfl
theorem ty114 : tyB Try.prog 114 false 1 = true := by kernel_rfl
theorem in114 : (Try.prog.info? 114).map (fun i => (i.zero, i.size, i.bytes)) = some (some (.pointer none), 1, 8) := by kernel_rfl
theorem ty119 : tyB Try.prog 119 false 1 = true := by kernel_rfl
theorem in119 : (Try.prog.info? 119).map (fun i => (i.zero, i.size, i.bytes)) = some (some (.nilFunc), 1, 8) := by kernel_rfl
theorem ty128 : tyB Try.prog 128 true 3 = true := by kernel_rfl
theorem in128 : (Try.prog.info? 128).map (fun i => (i.zero, i.size, i.bytes)) = some (some (.agg #[.int .i64 0, .int .i64 0, .slice none 0 0]), 3, 40) := by kernel_rfl
theorem st128 : (match Try.prog.underlying 128 with | some (.struct fs) => fs.all (fun f => (Try.prog.info? f.type).isSome) | _ => false) = true := by kernel_rfl
theorem fl128_0 : fldB Try.prog 128 0 0 = true := by kernel_rfl
theorem fp128_0 : (match Try.prog.underlying 128 with | some (.struct fs) => (match fs[0]? with | some f => Nat.beq f.offset 0 && (match Try.prog.info? f.type with | some i => Nat.beq i.size 1 | none => false) | none => false) | _ => false) = true := by kernel_rfl
theorem fl128_1 : fldB Try.prog 128 1 1 = true := by kernel_rfl
theorem fp128_1 : (match Try.prog.underlying 128 with | some (.struct fs) => (match fs[1]? with | some f => Nat.beq f.offset 1 && (match Try.prog.info? f.type with | some i => Nat.beq i.size 1 | none => false) | none => false) | _ => false) = true := by kernel_rfl
theorem fl128_2 : fldB Try.prog 128 2 2 = true := by kernel_rfl
theorem fp128_2 : (match Try.prog.underlying 128 with | some (.struct fs) => (match fs[2]? with | some f => Nat.beq f.offset 2 && (match Try.prog.info? f.type with | some i => Nat.beq i.size 1 | none => false) | none => false) | _ => false) = true := by kernel_rfl
theorem ty135 : tyB Try.prog 135 true 3 = true := by kernel_rfl
theorem in135 : (Try.prog.info? 135).map (fun i => (i.zero, i.size, i.bytes)) = some (some (.agg #[.int .i64 0, .slice none 0 0, .int .i64 0]), 3, 40) := by kernel_rfl
theorem st135 : (match Try.prog.underlying 135 with | some (.struct fs) => fs.all (fun f => (Try.prog.info? f.type).isSome) | _ => false) = true := by kernel_rfl
theorem fl135_0 : fldB Try.prog 135 0 0 = true := by kernel_rfl
theorem fp135_0 : (match Try.prog.underlying 135 with | some (.struct fs) => (match fs[0]? with | some f => Nat.beq f.offset 0 && (match Try.prog.info? f.type with | some i => Nat.beq i.size 1 | none => false) | none => false) | _ => false) = true := by kernel_rfl
theorem fl135_1 : fldB Try.prog 135 1 1 = true := by kernel_rfl
theorem fp135_1 : (match Try.prog.underlying 135 with | some (.struct fs) => (match fs[1]? with | some f => Nat.beq f.offset 1 && (match Try.prog.info? f.type with | some i => Nat.beq i.size 1 | none => false) | none => false) | _ => false) = true := by kernel_rfl
theorem fl135_2 : fldB Try.prog 135 2 2 = true := by kernel_rfl
theorem fp135_2 : (match Try.prog.underlying 135 with | some (.struct fs) => (match fs[2]? with | some f => Nat.beq f.offset 2 && (match Try.prog.info? f.type with | some i => Nat.beq i.size 1 | none => false) | none => false) | _ => false) = true := by kernel_rfl
theorem ty139 : tyB Try.prog 139 false 1 = true := by kernel_rfl
theorem in139 : (Try.prog.info? 139).map (fun i => (i.zero, i.size, i.bytes)) = some (some (.nilFunc), 1, 8) := by kernel_rfl
theorem ty150 : tyB Try.prog 150 false 1 = true := by kernel_rfl
theorem in150 : (Try.prog.info? 150).map (fun i => (i.zero, i.size, i.bytes)) = some (some (.nilFunc), 1, 8) := by kernel_rfl
theorem ty154 : tyB Try.prog 154 true 4 = true := by kernel_rfl
theorem in154 : (Try.prog.info? 154).map (fun i => (i.zero, i.size, i.bytes)) = some (some (.agg #[.int .i64 0, .int .i64 0, .int .i64 0, .int .i64 0]), 4, 32) := by kernel_rfl
theorem st154 : (match Try.prog.underlying 154 with | some (.struct fs) => fs.all (fun f => (Try.prog.info? f.type).isSome) | _ => false) = true := by kernel_rfl
theorem eqS154 (x0 : Int) (x1 : Int) (x2 : Int) (x3 : Int) (y0 : Int) (y1 : Int) (y2 : Int) (y3 : Int) (w : World) : (binOp .eql 154 (.agg (List.toArray [.int .i64 x0, .int .i64 x1, .int .i64 x2, .int .i64 x3])) (.agg (List.toArray [.int .i64 y0, .int .i64 y1, .int .i64 y2, .int .i64 y3]))).run Try.prog w = .ok (.bool ((decide (x0 = y0) && decide (x1 = y1) && decide (x2 = y2) && decide (x3 = y3)))) w := by
  have hs : Try.prog.stoodInHeld 154 = false := by kernel_rfl
  simp [go_sem, hs, Try.underlying154]
  repeat' split
  all_goals simp [*]
theorem neS154 (x0 : Int) (x1 : Int) (x2 : Int) (x3 : Int) (y0 : Int) (y1 : Int) (y2 : Int) (y3 : Int) (w : World) : (binOp .neq 154 (.agg (List.toArray [.int .i64 x0, .int .i64 x1, .int .i64 x2, .int .i64 x3])) (.agg (List.toArray [.int .i64 y0, .int .i64 y1, .int .i64 y2, .int .i64 y3]))).run Try.prog w = .ok (.bool (!(decide (x0 = y0) && decide (x1 = y1) && decide (x2 = y2) && decide (x3 = y3)))) w := by
  have hs : Try.prog.stoodInHeld 154 = false := by kernel_rfl
  simp [go_sem, hs, Try.underlying154]
  repeat' split
  all_goals simp [*]
theorem fl154_0 : fldB Try.prog 154 0 0 = true := by kernel_rfl
theorem fp154_0 : (match Try.prog.underlying 154 with | some (.struct fs) => (match fs[0]? with | some f => Nat.beq f.offset 0 && (match Try.prog.info? f.type with | some i => Nat.beq i.size 1 | none => false) | none => false) | _ => false) = true := by kernel_rfl
theorem fl154_1 : fldB Try.prog 154 1 1 = true := by kernel_rfl
theorem fp154_1 : (match Try.prog.underlying 154 with | some (.struct fs) => (match fs[1]? with | some f => Nat.beq f.offset 1 && (match Try.prog.info? f.type with | some i => Nat.beq i.size 1 | none => false) | none => false) | _ => false) = true := by kernel_rfl
theorem fl154_2 : fldB Try.prog 154 2 2 = true := by kernel_rfl
theorem fp154_2 : (match Try.prog.underlying 154 with | some (.struct fs) => (match fs[2]? with | some f => Nat.beq f.offset 2 && (match Try.prog.info? f.type with | some i => Nat.beq i.size 1 | none => false) | none => false) | _ => false) = true := by kernel_rfl
theorem fl154_3 : fldB Try.prog 154 3 3 = true := by kernel_rfl
theorem fp154_3 : (match Try.prog.underlying 154 with | some (.struct fs) => (match fs[3]? with | some f => Nat.beq f.offset 3 && (match Try.prog.info? f.type with | some i => Nat.beq i.size 1 | none => false) | none => false) | _ => false) = true := by kernel_rfl
theorem ty156 : tyB Try.prog 156 true 4 = true := by kernel_rfl
theorem in156 : (Try.prog.info? 156).map (fun i => (i.zero, i.size, i.bytes)) = some (some (.agg #[.int .i64 0, .int .i64 0, .int .i64 0, .int .i64 0]), 4, 32) := by kernel_rfl
theorem st156 : (match Try.prog.underlying 156 with | some (.struct fs) => fs.all (fun f => (Try.prog.info? f.type).isSome) | _ => false) = true := by kernel_rfl
theorem eqS156 (x0 : Int) (x1 : Int) (x2 : Int) (x3 : Int) (y0 : Int) (y1 : Int) (y2 : Int) (y3 : Int) (w : World) : (binOp .eql 156 (.agg (List.toArray [.int .i64 x0, .int .i64 x1, .int .i64 x2, .int .i64 x3])) (.agg (List.toArray [.int .i64 y0, .int .i64 y1, .int .i64 y2, .int .i64 y3]))).run Try.prog w = .ok (.bool ((decide (x0 = y0) && decide (x1 = y1) && decide (x2 = y2) && decide (x3 = y3)))) w := by
  have hs : Try.prog.stoodInHeld 156 = false := by kernel_rfl
  simp [go_sem, hs, Try.underlying156]
  repeat' split
  all_goals simp [*]
theorem neS156 (x0 : Int) (x1 : Int) (x2 : Int) (x3 : Int) (y0 : Int) (y1 : Int) (y2 : Int) (y3 : Int) (w : World) : (binOp .neq 156 (.agg (List.toArray [.int .i64 x0, .int .i64 x1, .int .i64 x2, .int .i64 x3])) (.agg (List.toArray [.int .i64 y0, .int .i64 y1, .int .i64 y2, .int .i64 y3]))).run Try.prog w = .ok (.bool (!(decide (x0 = y0) && decide (x1 = y1) && decide (x2 = y2) && decide (x3 = y3)))) w := by
  have hs : Try.prog.stoodInHeld 156 = false := by kernel_rfl
  simp [go_sem, hs, Try.underlying156]
  repeat' split
  all_goals simp [*]
theorem fl156_0 : fldB Try.prog 156 0 0 = true := by kernel_rfl
theorem fp156_0 : (match Try.prog.underlying 156 with | some (.struct fs) => (match fs[0]? with | some f => Nat.beq f.offset 0 && (match Try.prog.info? f.type with | some i => Nat.beq i.size 1 | none => false) | none => false) | _ => false) = true := by kernel_rfl
theorem fl156_1 : fldB Try.prog 156 1 1 = true := by kernel_rfl
theorem fp156_1 : (match Try.prog.underlying 156 with | some (.struct fs) => (match fs[1]? with | some f => Nat.beq f.offset 1 && (match Try.prog.info? f.type with | some i => Nat.beq i.size 1 | none => false) | none => false) | _ => false) = true := by kernel_rfl
theorem fl156_2 : fldB Try.prog 156 2 2 = true := by kernel_rfl
theorem fp156_2 : (match Try.prog.underlying 156 with | some (.struct fs) => (match fs[2]? with | some f => Nat.beq f.offset 2 && (match Try.prog.info? f.type with | some i => Nat.beq i.size 1 | none => false) | none => false) | _ => false) = true := by kernel_rfl
theorem fl156_3 : fldB Try.prog 156 3 3 = true := by kernel_rfl
theorem fp156_3 : (match Try.prog.underlying 156 with | some (.struct fs) => (match fs[3]? with | some f => Nat.beq f.offset 3 && (match Try.prog.info? f.type with | some i => Nat.beq i.size 1 | none => false) | none => false) | _ => false) = true := by kernel_rfl
theorem ty157 : tyB Try.prog 157 false 1 = true := by kernel_rfl
theorem in157 : (Try.prog.info? 157).map (fun i => (i.zero, i.size, i.bytes)) = some (some (.slice none 0 0), 1, 24) := by kernel_rfl
theorem ty161 : tyB Try.prog 161 true 5 = true := by kernel_rfl
theorem in161 : (Try.prog.info? 161).map (fun i => (i.zero, i.size, i.bytes)) = some (some (.agg #[.int .i64 0, .int .i64 0, .int .i64 0, .int .i64 0, .slice none 0 0]), 5, 56) := by kernel_rfl
theorem st161 : (match Try.prog.underlying 161 with | some (.struct fs) => fs.all (fun f => (Try.prog.info? f.type).isSome) | _ => false) = true := by kernel_rfl
theorem fl161_0 : fldB Try.prog 161 0 0 = true := by kernel_rfl
theorem fp161_0 : (match Try.prog.underlying 161 with | some (.struct fs) => (match fs[0]? with | some f => Nat.beq f.offset 0 && (match Try.prog.info? f.type with | some i => Nat.beq i.size 4 | none => false) | none => false) | _ => false) = true := by kernel_rfl
theorem fl161_1 : fldB Try.prog 161 1 4 = true := by kernel_rfl
theorem fp161_1 : (match Try.prog.underlying 161 with | some (.struct fs) => (match fs[1]? with | some f => Nat.beq f.offset 4 && (match Try.prog.info? f.type with | some i => Nat.beq i.size 1 | none => false) | none => false) | _ => false) = true := by kernel_rfl
theorem ty173 : tyB Try.prog 173 true 4 = true := by kernel_rfl
theorem in173 : (Try.prog.info? 173).map (fun i => (i.zero, i.size, i.bytes)) = some (some (.agg #[.int .i64 0, .int .i64 0, .int .i64 0, .int .i64 0]), 4, 32) := by kernel_rfl
theorem st173 : (match Try.prog.underlying 173 with | some (.struct fs) => fs.all (fun f => (Try.prog.info? f.type).isSome) | _ => false) = true := by kernel_rfl
theorem eqS173 (x0 : Int) (x1 : Int) (x2 : Int) (x3 : Int) (y0 : Int) (y1 : Int) (y2 : Int) (y3 : Int) (w : World) : (binOp .eql 173 (.agg (List.toArray [.int .i64 x0, .int .i64 x1, .int .i64 x2, .int .i64 x3])) (.agg (List.toArray [.int .i64 y0, .int .i64 y1, .int .i64 y2, .int .i64 y3]))).run Try.prog w = .ok (.bool ((decide (x0 = y0) && decide (x1 = y1) && decide (x2 = y2) && decide (x3 = y3)))) w := by
  have hs : Try.prog.stoodInHeld 173 = false := by kernel_rfl
  simp [go_sem, hs, Try.underlying173]
  repeat' split
  all_goals simp [*]
theorem neS173 (x0 : Int) (x1 : Int) (x2 : Int) (x3 : Int) (y0 : Int) (y1 : Int) (y2 : Int) (y3 : Int) (w : World) : (binOp .neq 173 (.agg (List.toArray [.int .i64 x0, .int .i64 x1, .int .i64 x2, .int .i64 x3])) (.agg (List.toArray [.int .i64 y0, .int .i64 y1, .int .i64 y2, .int .i64 y3]))).run Try.prog w = .ok (.bool (!(decide (x0 = y0) && decide (x1 = y1) && decide (x2 = y2) && decide (x3 = y3)))) w := by
  have hs : Try.prog.stoodInHeld 173 = false := by kernel_rfl
  simp [go_sem, hs, Try.underlying173]
  repeat' split
  all_goals simp [*]
theorem fl173_0 : fldB Try.prog 173 0 0 = true := by kernel_rfl
theorem fp173_0 : (match Try.prog.underlying 173 with | some (.struct fs) => (match fs[0]? with | some f => Nat.beq f.offset 0 && (match Try.prog.info? f.type with | some i => Nat.beq i.size 1 | none => false) | none => false) | _ => false) = true := by kernel_rfl
theorem fl173_1 : fldB Try.prog 173 1 1 = true := by kernel_rfl
theorem fp173_1 : (match Try.prog.underlying 173 with | some (.struct fs) => (match fs[1]? with | some f => Nat.beq f.offset 1 && (match Try.prog.info? f.type with | some i => Nat.beq i.size 1 | none => false) | none => false) | _ => false) = true := by kernel_rfl
theorem fl173_2 : fldB Try.prog 173 2 2 = true := by kernel_rfl
theorem fp173_2 : (match Try.prog.underlying 173 with | some (.struct fs) => (match fs[2]? with | some f => Nat.beq f.offset 2 && (match Try.prog.info? f.type with | some i => Nat.beq i.size 1 | none => false) | none => false) | _ => false) = true := by kernel_rfl
theorem fl173_3 : fldB Try.prog 173 3 3 = true := by kernel_rfl
theorem fp173_3 : (match Try.prog.underlying 173 with | some (.struct fs) => (match fs[3]? with | some f => Nat.beq f.offset 3 && (match Try.prog.info? f.type with | some i => Nat.beq i.size 1 | none => false) | none => false) | _ => false) = true := by kernel_rfl
theorem ty177 : tyB Try.prog 177 true 3 = true := by kernel_rfl
theorem in177 : (Try.prog.info? 177).map (fun i => (i.zero, i.size, i.bytes)) = some (some (.agg #[.int .i64 0, .int .i64 0, .slice none 0 0]), 3, 40) := by kernel_rfl
theorem st177 : (match Try.prog.underlying 177 with | some (.struct fs) => fs.all (fun f => (Try.prog.info? f.type).isSome) | _ => false) = true := by kernel_rfl
theorem fl177_0 : fldB Try.prog 177 0 0 = true := by kernel_rfl
theorem fp177_0 : (match Try.prog.underlying 177 with | some (.struct fs) => (match fs[0]? with | some f => Nat.beq f.offset 0 && (match Try.prog.info? f.type with | some i => Nat.beq i.size 1 | none => false) | none => false) | _ => false) = true := by kernel_rfl
theorem fl177_1 : fldB Try.prog 177 1 1 = true := by kernel_rfl
theorem fp177_1 : (match Try.prog.underlying 177 with | some (.struct fs) => (match fs[1]? with | some f => Nat.beq f.offset 1 && (match Try.prog.info? f.type with | some i => Nat.beq i.size 1 | none => false) | none => false) | _ => false) = true := by kernel_rfl
theorem fl177_2 : fldB Try.prog 177 2 2 = true := by kernel_rfl
theorem fp177_2 : (match Try.prog.underlying 177 with | some (.struct fs) => (match fs[2]? with | some f => Nat.beq f.offset 2 && (match Try.prog.info? f.type with | some i => Nat.beq i.size 1 | none => false) | none => false) | _ => false) = true := by kernel_rfl
theorem ty183 : tyB Try.prog 183 true 3 = true := by kernel_rfl
theorem in183 : (Try.prog.info? 183).map (fun i => (i.zero, i.size, i.bytes)) = some (some (.agg #[.int .i64 0, .slice none 0 0, .int .i64 0]), 3, 40) := by kernel_rfl
theorem st183 : (match Try.prog.underlying 183 with | some (.struct fs) => fs.all (fun f => (Try.prog.info? f.type).isSome) | _ => false) = true := by kernel_rfl
theorem fl183_0 : fldB Try.prog 183 0 0 = true := by kernel_rfl
theorem fp183_0 : (match Try.prog.underlying 183 with | some (.struct fs) => (match fs[0]? with | some f => Nat.beq f.offset 0 && (match Try.prog.info? f.type with | some i => Nat.beq i.size 1 | none => false) | none => false) | _ => false) = true := by kernel_rfl
theorem fl183_1 : fldB Try.prog 183 1 1 = true := by kernel_rfl
theorem fp183_1 : (match Try.prog.underlying 183 with | some (.struct fs) => (match fs[1]? with | some f => Nat.beq f.offset 1 && (match Try.prog.info? f.type with | some i => Nat.beq i.size 1 | none => false) | none => false) | _ => false) = true := by kernel_rfl
theorem fl183_2 : fldB Try.prog 183 2 2 = true := by kernel_rfl
theorem fp183_2 : (match Try.prog.underlying 183 with | some (.struct fs) => (match fs[2]? with | some f => Nat.beq f.offset 2 && (match Try.prog.info? f.type with | some i => Nat.beq i.size 1 | none => false) | none => false) | _ => false) = true := by kernel_rfl
theorem ty198 : tyB Try.prog 198 false 1 = true := by kernel_rfl
theorem in198 : (Try.prog.info? 198).map (fun i => (i.zero, i.size, i.bytes)) = some (some (.nilFunc), 1, 8) := by kernel_rfl
theorem ty202 : tyB Try.prog 202 false 1 = true := by kernel_rfl
theorem in202 : (Try.prog.info? 202).map (fun i => (i.zero, i.size, i.bytes)) = some (some (.slice none 0 0), 1, 24) := by kernel_rfl
end Go.Proofs.Ytjnekafkdellkaa
