/- Merged texts. -/
import Derived.Test.YtibjbmjgmfiecaaDoorDataxb
import Derived.Test.YtibjbmjgmfiecaaDoorProg
namespace Go.Proofs.YtibjbmjgmfiecaaDoor
open Go.RowKit Go.Q
theorem ty3 : tyB Tryd.prog 3 false 1 = true := by kernel_rfl
theorem ty9 : tyB Tryd.prog 9 false 1 = true := by kernel_rfl
theorem in9 : (Tryd.prog.info? 9).map (fun i => (i.zero, i.size, i.bytes)) = some (some (.string .empty), 1, 16) := by kernel_rfl
theorem ty33 : tyB Tryd.prog 33 false 1 = true := by kernel_rfl
theorem ty35 : tyB Tryd.prog 35 true 2 = true := by kernel_rfl
theorem in35 : (Tryd.prog.info? 35).map (fun i => (i.zero, i.size, i.bytes)) = some (some (.agg #[.slice none 0 0, .slice none 0 0]), 2, 48) := by kernel_rfl
theorem st35 : (match Tryd.prog.underlying 35 with | some (.struct fs) => fs.all (fun f => (Tryd.prog.info? f.type).isSome) | _ => false) = true := by kernel_rfl
theorem fl35_0 : fldB Tryd.prog 35 0 0 = true := by kernel_rfl
theorem fp35_0 : (match Tryd.prog.underlying 35 with | some (.struct fs) => (match fs[0]? with | some f => Nat.beq f.offset 0 && (match Tryd.prog.info? f.type with | some i => Nat.beq i.size 1 | none => false) | none => false) | _ => false) = true := by kernel_rfl
theorem fl35_1 : fldB Tryd.prog 35 1 1 = true := by kernel_rfl
theorem fp35_1 : (match Tryd.prog.underlying 35 with | some (.struct fs) => (match fs[1]? with | some f => Nat.beq f.offset 1 && (match Tryd.prog.info? f.type with | some i => Nat.beq i.size 1 | none => false) | none => false) | _ => false) = true := by kernel_rfl
theorem ty90 : tyB Tryd.prog 90 true 2 = true := by kernel_rfl
theorem in90 : (Tryd.prog.info? 90).map (fun i => (i.zero, i.size, i.bytes)) = some (some (.agg #[.int .i64 0, .int .i64 0]), 2, 16) := by kernel_rfl
theorem st90 : (match Tryd.prog.underlying 90 with | some (.struct fs) => fs.all (fun f => (Tryd.prog.info? f.type).isSome) | _ => false) = true := by kernel_rfl
theorem eqS90 (x0 : Int) (x1 : Int) (y0 : Int) (y1 : Int) (w : World) : (binOp .eql 90 (.agg (List.toArray [.int .i64 x0, .int .i64 x1])) (.agg (List.toArray [.int .i64 y0, .int .i64 y1]))).run Tryd.prog w = .ok (.bool ((decide (x0 = y0) && decide (x1 = y1)))) w := by
  have hs : Tryd.prog.stoodInHeld 90 = false := by kernel_rfl
  simp [go_sem, hs, Tryd.underlying90]
  repeat' split
  all_goals simp [*]
theorem fl90_0 : fldB Tryd.prog 90 0 0 = true := by kernel_rfl
theorem fp90_0 : (match Tryd.prog.underlying 90 with | some (.struct fs) => (match fs[0]? with | some f => Nat.beq f.offset 0 && (match Tryd.prog.info? f.type with | some i => Nat.beq i.size 1 | none => false) | none => false) | _ => false) = true := by kernel_rfl
theorem fl90_1 : fldB Tryd.prog 90 1 1 = true := by kernel_rfl
theorem fp90_1 : (match Tryd.prog.underlying 90 with | some (.struct fs) => (match fs[1]? with | some f => Nat.beq f.offset 1 && (match Tryd.prog.info? f.type with | some i => Nat.beq i.size 1 | none => false) | none => false) | _ => false) = true := by kernel_rfl
end Go.Proofs.YtibjbmjgmfiecaaDoor
set_option linter.unusedVariables false
set_option linter.unusedSimpArgs false
namespace Go.Proofs.YtibjbmjgmfiecaaDoor
open Go.RowKit Go.Q Go.D
end Go.Proofs.YtibjbmjgmfiecaaDoor
set_option linter.unusedVariables false
set_option linter.unusedSimpArgs false
namespace Go.D
open Go.Q
def cntInt (_ : Int) : Int := 1
/-- All of it is marked. -/
def mkPair (x : TPair) (k : Int) : TPair := ⟨k, k + 1⟩
def cntPair (x : TPair) : Int := 1 + 1
theorem cntPair_nn (x : TPair) : 0 ≤ cntPair x := by
  unfold cntPair; omega
def mkPairS (x : (List TPair)) (k : Int) : (List TPair) := mkL mkPair cntPair x k
def cntPairS (x : (List TPair)) : Int := cntL cntPair x
theorem cntPairS_nn (x : (List TPair)) : 0 ≤ cntPairS x := cntL_nonneg cntPair_nn x
/-- What it holds in slices is marked. -/
def mpDelta (x : TDelta) (k : Int) : TDelta := ⟨mkPairS x.Added (k), mkPairS x.Removed (k + cntPairS x.Added)⟩
def cpDelta (x : TDelta) : Int := cntPairS x.Added + cntPairS x.Removed
theorem cpDelta_nn (x : TDelta) : 0 ≤ cpDelta x := by
  have := cntPairS_nn x.Added
  have := cntPairS_nn x.Removed
  unfold cpDelta; omega
theorem cntL_bound {α : Type} {c : α → Int} {b : Int} (hb : 0 ≤ b) : ∀ {l : List α}, (∀ y ∈ l, c y ≤ b) → cntL c l ≤ l.length * b
  | [], _ => by simp [cntL]
  | x :: l, h => by
    have h1 := h x (by simp)
    have h2 := cntL_bound (l := l) hb fun y hy => h y (by simp [hy])
    rw [cntL, List.length_cons, Int.natCast_add, Int.add_mul]
    omega
theorem cntL_ok {α : Type} {c : α → Int} {b : Int} {l : List α} (hb : 0 ≤ b) (hl : l.length ≤ 1048576) (h : ∀ y ∈ l, c y ≤ b) : cntL c l ≤ 1048576 * b :=
  Int.le_trans (cntL_bound hb h) (Int.mul_le_mul_of_nonneg_right (by omega) hb)
theorem cntPairS_ok {x : (List TPair)} (h : okPairS x) : cntPairS x ≤ 2097152 := Int.le_trans (cntL_ok (b := 2) (by omega) h fun y _ => by simp [cntPair]) (by omega)
theorem cpDelta_ok {x : TDelta} (h : okDelta x) : cpDelta x ≤ 4194304 := by
  have := cntPairS_ok h.1
  have := cntPairS_ok h.2.1
  unfold cpDelta; (try simp only [cntInt] at *); omega
end Go.D
