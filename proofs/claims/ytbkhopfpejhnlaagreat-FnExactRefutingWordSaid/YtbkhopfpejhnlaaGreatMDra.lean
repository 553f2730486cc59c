import Derived.Test.YtbkhopfpejhnlaaGreatOpenTra
import Derived.Test.YtbkhopfpejhnlaaGreatProg
namespace Go.Proofs.YtbkhopfpejhnlaaGreat
open Go.RowKit Go.Q
theorem ty3 : tyB Tryz.prog 3 false 1 = true := by kernel_rfl
theorem in3 : (Tryz.prog.info? 3).map (fun i => (i.zero, i.size, i.bytes)) = some (some (.int .i64 0), 1, 8) := by kernel_rfl
theorem ty4 : tyB Tryz.prog 4 false 1 = true := by kernel_rfl
theorem in4 : (Tryz.prog.info? 4).map (fun i => (i.zero, i.size, i.bytes)) = some (some (.bool false), 1, 1) := by kernel_rfl
theorem ty24 : tyB Tryz.prog 24 false 1 = true := by kernel_rfl
theorem in24 : (Tryz.prog.info? 24).map (fun i => (i.zero, i.size, i.bytes)) = some (some (.slice none 0 0), 1, 24) := by kernel_rfl
theorem ty25 : tyB Tryz.prog 25 false 1 = true := by kernel_rfl
theorem ty27 : tyB Tryz.prog 27 true 2 = true := by kernel_rfl
theorem in27 : (Tryz.prog.info? 27).map (fun i => (i.zero, i.size, i.bytes)) = some (some (.agg #[.slice none 0 0, .slice none 0 0]), 2, 48) := by kernel_rfl
theorem st27 : (match Tryz.prog.underlying 27 with | some (.struct fs) => fs.all (fun f => (Tryz.prog.info? f.type).isSome) | _ => false) = true := by kernel_rfl
theorem fl27_0 : fldB Tryz.prog 27 0 0 = true := by kernel_rfl
theorem fp27_0 : (match Tryz.prog.underlying 27 with | some (.struct fs) => (match fs[0]? with | some f => Nat.beq f.offset 0 && (match Tryz.prog.info? f.type with | some i => Nat.beq i.size 1 | none => false) | none => false) | _ => false) = true := by kernel_rfl
theorem fl27_1 : fldB Tryz.prog 27 1 1 = true := by kernel_rfl
theorem ty28 : tyB Tryz.prog 28 false 1 = true := by kernel_rfl
theorem ty30 : tyB Tryz.prog 30 true 1 = true := by kernel_rfl
theorem in30 : (Tryz.prog.info? 30).map (fun i => (i.zero, i.size, i.bytes)) = some (some (.agg #[.slice none 0 0]), 1, 24) := by kernel_rfl
theorem fl30_0 : fldB Tryz.prog 30 0 0 = true := by kernel_rfl
theorem ty39 : tyB Tryz.prog 39 true 4 = true := by kernel_rfl
theorem in39 : (Tryz.prog.info? 39).map (fun i => (i.zero, i.size, i.bytes)) = some (some (.agg #[.int .i64 0, .int .i64 0, .int .i64 0, .int .i64 0]), 4, 32) := by kernel_rfl
theorem st39 : (match Tryz.prog.underlying 39 with | some (.struct fs) => fs.all (fun f => (Tryz.prog.info? f.type).isSome) | _ => false) = true := by kernel_rfl
theorem fl39_0 : fldB Tryz.prog 39 0 0 = true := by kernel_rfl
theorem fp39_0 : (match Tryz.prog.underlying 39 with | some (.struct fs) => (match fs[0]? with | some f => Nat.beq f.offset 0 && (match Tryz.prog.info? f.type with | some i => Nat.beq i.size 1 | none => false) | none => false) | _ => false) = true := by kernel_rfl
theorem fl39_1 : fldB Tryz.prog 39 1 1 = true := by kernel_rfl
theorem fp39_1 : (match Tryz.prog.underlying 39 with | some (.struct fs) => (match fs[1]? with | some f => Nat.beq f.offset 1 && (match Tryz.prog.info? f.type with | some i => Nat.beq i.size 1 | none => false) | none => false) | _ => false) = true := by kernel_rfl
theorem fl39_2 : fldB Tryz.prog 39 2 2 = true := by kernel_rfl
theorem fp39_2 : (match Tryz.prog.underlying 39 with | some (.struct fs) => (match fs[2]? with | some f => Nat.beq f.offset 2 && (match Tryz.prog.info? f.type with | some i => Nat.beq i.size 1 | none => false) | none => false) | _ => false) = true := by kernel_rfl
theorem fl39_3 : fldB Tryz.prog 39 3 3 = true := by kernel_rfl
theorem fp39_3 : (match Tryz.prog.underlying 39 with | some (.struct fs) => (match fs[3]? with | some f => Nat.beq f.offset 3 && (match Tryz.prog.info? f.type with | some i => Nat.beq i.size 1 | none => false) | none => false) | _ => false) = true := by kernel_rfl
theorem ty44 : tyB Tryz.prog 44 false 1 = true := by kernel_rfl
theorem ty46 : tyB Tryz.prog 46 true 1 = true := by kernel_rfl
theorem fl46_0 : fldB Tryz.prog 46 0 0 = true := by kernel_rfl
theorem ty63 : tyB Tryz.prog 63 true 2 = true := by kernel_rfl
theorem in63 : (Tryz.prog.info? 63).map (fun i => (i.zero, i.size, i.bytes)) = some (some (.agg #[.int .i64 0, .int .i64 0]), 2, 16) := by kernel_rfl
theorem st63 : (match Tryz.prog.underlying 63 with | some (.struct fs) => fs.all (fun f => (Tryz.prog.info? f.type).isSome) | _ => false) = true := by kernel_rfl
theorem eqS63 (x0 : Int) (x1 : Int) (y0 : Int) (y1 : Int) (w : World) : (binOp .eql 63 (.agg (List.toArray [.int .i64 x0, .int .i64 x1])) (.agg (List.toArray [.int .i64 y0, .int .i64 y1]))).run Tryz.prog w = .ok (.bool ((decide (x0 = y0) && decide (x1 = y1)))) w := by
 have hs : Tryz.prog.stoodInHeld 63 = false := by kernel_rfl
 simp [go_sem, hs, Tryz.underlying63]
 repeat' split
 all_goals simp [*]
theorem neS63 (x0 : Int) (x1 : Int) (y0 : Int) (y1 : Int) (w : World) : (binOp .neq 63 (.agg (List.toArray [.int .i64 x0, .int .i64 x1])) (.agg (List.toArray [.int .i64 y0, .int .i64 y1]))).run Tryz.prog w = .ok (.bool (!(decide (x0 = y0) && decide (x1 = y1)))) w := by
 have hs : Tryz.prog.stoodInHeld 63 = false := by kernel_rfl
 simp [go_sem, hs, Tryz.underlying63]
 repeat' split
 all_goals simp [*]
theorem fl63_0 : fldB Tryz.prog 63 0 0 = true := by kernel_rfl
theorem fp63_0 : (match Tryz.prog.underlying 63 with | some (.struct fs) => (match fs[0]? with | some f => Nat.beq f.offset 0 && (match Tryz.prog.info? f.type with | some i => Nat.beq i.size 1 | none => false) | none => false) | _ => false) = true := by kernel_rfl
theorem fl63_1 : fldB Tryz.prog 63 1 1 = true := by kernel_rfl
theorem fp63_1 : (match Tryz.prog.underlying 63 with | some (.struct fs) => (match fs[1]? with | some f => Nat.beq f.offset 1 && (match Tryz.prog.info? f.type with | some i => Nat.beq i.size 1 | none => false) | none => false) | _ => false) = true := by kernel_rfl
theorem ty71 : tyB Tryz.prog 71 false 1 = true := by kernel_rfl
theorem in71 : (Tryz.prog.info? 71).map (fun i => (i.zero, i.size, i.bytes)) = some (some (.slice none 0 0), 1, 24) := by kernel_rfl
theorem ty91 : tyB Tryz.prog 91 false 1 = true := by kernel_rfl
theorem ty100 : tyB Tryz.prog 100 true 4 = true := by kernel_rfl
theorem in100 : (Tryz.prog.info? 100).map (fun i => (i.zero, i.size, i.bytes)) = some (some (.agg #[.int .i64 0, .int .i64 0, .int .i64 0, .int .i64 0]), 4, 32) := by kernel_rfl
theorem st100 : (match Tryz.prog.underlying 100 with | some (.struct fs) => fs.all (fun f => (Tryz.prog.info? f.type).isSome) | _ => false) = true := by kernel_rfl
theorem eqS100 (x0 : Int) (x1 : Int) (x2 : Int) (x3 : Int) (y0 : Int) (y1 : Int) (y2 : Int) (y3 : Int) (w : World) : (binOp .eql 100 (.agg (List.toArray [.int .i64 x0, .int .i64 x1, .int .i64 x2, .int .i64 x3])) (.agg (List.toArray [.int .i64 y0, .int .i64 y1, .int .i64 y2, .int .i64 y3]))).run Tryz.prog w = .ok (.bool ((decide (x0 = y0) && decide (x1 = y1) && decide (x2 = y2) && decide (x3 = y3)))) w := by
 have hs : Tryz.prog.stoodInHeld 100 = false := by kernel_rfl
 simp [go_sem, hs, Tryz.underlying100]
 repeat' split
 all_goals simp [*]
theorem fl100_0 : fldB Tryz.prog 100 0 0 = true := by kernel_rfl
theorem fp100_0 : (match Tryz.prog.underlying 100 with | some (.struct fs) => (match fs[0]? with | some f => Nat.beq f.offset 0 && (match Tryz.prog.info? f.type with | some i => Nat.beq i.size 1 | none => false) | none => false) | _ => false) = true := by kernel_rfl
theorem fl100_1 : fldB Tryz.prog 100 1 1 = true := by kernel_rfl
theorem fl100_2 : fldB Tryz.prog 100 2 2 = true := by kernel_rfl
theorem fl100_3 : fldB Tryz.prog 100 3 3 = true := by kernel_rfl
theorem ty109 : tyB Tryz.prog 109 false 1 = true := by kernel_rfl
theorem in109 : (Tryz.prog.info? 109).map (fun i => (i.zero, i.size, i.bytes)) = some (some (.slice none 0 0), 1, 24) := by kernel_rfl
theorem ty114 : tyB Tryz.prog 114 true 4 = true := by kernel_rfl
theorem fl114_0 : fldB Tryz.prog 114 0 0 = true := by kernel_rfl
theorem fl114_1 : fldB Tryz.prog 114 1 1 = true := by kernel_rfl
theorem fl114_2 : fldB Tryz.prog 114 2 2 = true := by kernel_rfl
theorem fl114_3 : fldB Tryz.prog 114 3 3 = true := by kernel_rfl
theorem ty123 : tyB Tryz.prog 123 false 1 = true := by kernel_rfl
theorem fl127_0 : fldB Tryz.prog 127 0 0 = true := by kernel_rfl
theorem fl127_1 : fldB Tryz.prog 127 1 4 = true := by kernel_rfl
theorem ty145 : tyB Tryz.prog 145 false 1 = true := by kernel_rfl
theorem in145 : (Tryz.prog.info? 145).map (fun i => (i.zero, i.size, i.bytes)) = some (some (.slice none 0 0), 1, 24) := by kernel_rfl
theorem in147 : (Tryz.prog.info? 147).map (fun i => (i.zero, i.size, i.bytes)) = some (some (.agg #[.int .i64 0, .bool false]), 2, 16) := by kernel_rfl
theorem st147 : (match Tryz.prog.underlying 147 with | some (.struct fs) => fs.all (fun f => (Tryz.prog.info? f.type).isSome) | _ => false) = true := by kernel_rfl
theorem fp147_0 : (match Tryz.prog.underlying 147 with | some (.struct fs) => (match fs[0]? with | some f => Nat.beq f.offset 0 && (match Tryz.prog.info? f.type with | some i => Nat.beq i.size 1 | none => false) | none => false) | _ => false) = true := by kernel_rfl
theorem fp147_1 : (match Tryz.prog.underlying 147 with | some (.struct fs) => (match fs[1]? with | some f => Nat.beq f.offset 1 && (match Tryz.prog.info? f.type with | some i => Nat.beq i.size 1 | none => false) | none => false) | _ => false) = true := by kernel_rfl
theorem ty149 : tyB Tryz.prog 149 true 4 = true := by kernel_rfl
theorem in149 : (Tryz.prog.info? 149).map (fun i => (i.zero, i.size, i.bytes)) = some (some (.agg #[.int .i64 0, .bool false, .int .i64 0, .int .i64 0]), 4, 32) := by kernel_rfl
theorem st149 : (match Tryz.prog.underlying 149 with | some (.struct fs) => fs.all (fun f => (Tryz.prog.info? f.type).isSome) | _ => false) = true := by kernel_rfl
theorem fp149_0 : (match Tryz.prog.underlying 149 with | some (.struct fs) => (match fs[0]? with | some f => Nat.beq f.offset 0 && (match Tryz.prog.info? f.type with | some i => Nat.beq i.size 2 | none => false) | none => false) | _ => false) = true := by kernel_rfl
theorem fl149_1 : fldB Tryz.prog 149 1 2 = true := by kernel_rfl
theorem fp149_1 : (match Tryz.prog.underlying 149 with | some (.struct fs) => (match fs[1]? with | some f => Nat.beq f.offset 2 && (match Tryz.prog.info? f.type with | some i => Nat.beq i.size 1 | none => false) | none => false) | _ => false) = true := by kernel_rfl
theorem fl149_2 : fldB Tryz.prog 149 2 3 = true := by kernel_rfl
theorem fp149_2 : (match Tryz.prog.underlying 149 with | some (.struct fs) => (match fs[2]? with | some f => Nat.beq f.offset 3 && (match Tryz.prog.info? f.type with | some i => Nat.beq i.size 1 | none => false) | none => false) | _ => false) = true := by kernel_rfl
end Go.Proofs.YtbkhopfpejhnlaaGreat
set_option linter.unusedVariables false
set_option linter.unusedSimpArgs false
namespace Go.D
open Go.Q
def mkInt (_ : Int) (k : Int) : Int := k
def cntInt (_ : Int) : Int := 1
theorem cntInt_nn (x : Int) : 0 ≤ cntInt x := by unfold cntInt; omega
def mkIntS (x : (List Int)) (k : Int) : (List Int) := mkL mkInt cntInt x k
def cntIntS (x : (List Int)) : Int := cntL cntInt x
theorem cntIntS_nn (x : (List Int)) : 0 ≤ cntIntS x := cntL_nonneg cntInt_nn x
def mkToken (x : TToken) (k : Int) : TToken := ⟨k, k + 1, k + 1 + 1, k + 1 + 1 + 1⟩
def cntToken (x : TToken) : Int := 1 + 1 + 1 + 1
theorem cntToken_nn (x : TToken) : 0 ≤ cntToken x := by
 unfold cntToken; omega
def mkTokenS (x : (List TToken)) (k : Int) : (List TToken) := mkL mkToken cntToken x k
def cntTokenS (x : (List TToken)) : Int := cntL cntToken x
theorem cntTokenS_nn (x : (List TToken)) : 0 ≤ cntTokenS x := cntL_nonneg cntToken_nn x
def mpExpr (x : TExpr) (k : Int) : TExpr := ⟨mkTokenS x.Tokens (k)⟩
def cpExpr (x : TExpr) : Int := cntTokenS x.Tokens
theorem cpExpr_nn (x : TExpr) : 0 ≤ cpExpr x := by
 have := cntTokenS_nn x.Tokens
 unfold cpExpr; omega
theorem cntL_bound {α : Type} {c : α → Int} {b : Int} (hb : 0 ≤ b) : ∀ {l : List α}, (∀ y ∈ l, c y ≤ b) → cntL c l ≤ l.length * b
 | [], _ => by simp [cntL]
 | x :: l, h => by
  have h1 := h x (by simp)
  have h2 := cntL_bound (l := l) hb fun y hy => h y (by simp [hy])
  rw [cntL, List.length_cons, Int.natCast_add, Int.add_mul]
  omega
theorem cntL_ok {α : Type} {c : α → Int} {b : Int} {l : List α} (hb : 0 ≤ b) (hl : l.length ≤ 1048576) (h : ∀ y ∈ l, c y ≤ b) : cntL c l ≤ 1048576 * b :=
 Int.le_trans (cntL_bound hb h) (Int.mul_le_mul_of_nonneg_right (by omega) hb)
theorem cntTokenS_ok {x : (List TToken)} (h : okTokenS x) : cntTokenS x ≤ 4194304 := Int.le_trans (cntL_ok (b := 4) (by omega) h fun y _ => by simp [cntToken]) (by omega)
theorem cpExpr_ok {x : TExpr} (h : okExpr x) : cpExpr x ≤ 4194304 := by
 have := cntTokenS_ok h.1
 unfold cpExpr; (try simp only [cntInt] at *); omega
end Go.D
