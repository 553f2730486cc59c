import Derived.Test.YtamnfkfjfelbbaaOpenTxw
import Derived.Test.YtamnfkfjfelbbaaProg
namespace Go.Proofs.Ytamnfkfjfelbbaa
open Go.RowKit Go.Q
theorem ty3 : tyB Try.prog 3 false 1 = true := by kernel_rfl
theorem in3 : (Try.prog.info? 3).map (fun i => (i.zero, i.size, i.bytes)) = some (some (.int .i64 0), 1, 8) := by kernel_rfl
theorem ty4 : tyB Try.prog 4 false 1 = true := by kernel_rfl
theorem in4 : (Try.prog.info? 4).map (fun i => (i.zero, i.size, i.bytes)) = some (some (.bool false), 1, 1) := by kernel_rfl
theorem ty22 : tyB Try.prog 22 false 1 = true := by kernel_rfl
theorem in22 : (Try.prog.info? 22).map (fun i => (i.zero, i.size, i.bytes)) = some (some (.slice none 0 0), 1, 24) := by kernel_rfl
theorem ty23 : tyB Try.prog 23 false 1 = true := by kernel_rfl
theorem ty25 : tyB Try.prog 25 true 2 = true := by kernel_rfl
theorem fl25_0 : fldB Try.prog 25 0 0 = true := by kernel_rfl
theorem fl25_1 : fldB Try.prog 25 1 1 = true := by kernel_rfl
theorem ty26 : tyB Try.prog 26 false 1 = true := by kernel_rfl
theorem ty27 : tyB Try.prog 27 false 1 = true := by kernel_rfl
theorem ty29 : tyB Try.prog 29 true 3 = true := by kernel_rfl
theorem fl29_0 : fldB Try.prog 29 0 0 = true := by kernel_rfl
theorem fl29_1 : fldB Try.prog 29 1 1 = true := by kernel_rfl
theorem fl29_2 : fldB Try.prog 29 2 2 = true := by kernel_rfl
theorem ty32 : tyB Try.prog 32 false 1 = true := by kernel_rfl
theorem ty34 : tyB Try.prog 34 true 2 = true := by kernel_rfl
theorem in34 : (Try.prog.info? 34).map (fun i => (i.zero, i.size, i.bytes)) = some (some (.agg #[.int .i64 0, .slice none 0 0]), 2, 32) := by kernel_rfl
theorem st34 : (match Try.prog.underlying 34 with | some (.struct fs) => fs.all (fun f => (Try.prog.info? f.type).isSome) | _ => false) = true := by kernel_rfl
theorem fl34_0 : fldB Try.prog 34 0 0 = true := by kernel_rfl
theorem fp34_0 : (match Try.prog.underlying 34 with | some (.struct fs) => (match fs[0]? with | some f => Nat.beq f.offset 0 && (match Try.prog.info? f.type with | some i => Nat.beq i.size 1 | none => false) | none => false) | _ => false) = true := by kernel_rfl
theorem fl34_1 : fldB Try.prog 34 1 1 = true := by kernel_rfl
theorem fp34_1 : (match Try.prog.underlying 34 with | some (.struct fs) => (match fs[1]? with | some f => Nat.beq f.offset 1 && (match Try.prog.info? f.type with | some i => Nat.beq i.size 1 | none => false) | none => false) | _ => false) = true := by kernel_rfl
theorem ty37 : tyB Try.prog 37 false 1 = true := by kernel_rfl
theorem ty39 : tyB Try.prog 39 true 2 = true := by kernel_rfl
theorem in39 : (Try.prog.info? 39).map (fun i => (i.zero, i.size, i.bytes)) = some (some (.agg #[.slice none 0 0, .slice none 0 0]), 2, 48) := by kernel_rfl
theorem fl39_0 : fldB Try.prog 39 0 0 = true := by kernel_rfl
theorem fl39_1 : fldB Try.prog 39 1 1 = true := by kernel_rfl
theorem ty41 : tyB Try.prog 41 true 3 = true := by kernel_rfl
theorem in41 : (Try.prog.info? 41).map (fun i => (i.zero, i.size, i.bytes)) = some (some (.agg #[.int .i64 0, .slice none 0 0, .slice none 0 0]), 3, 56) := by kernel_rfl
theorem fl41_0 : fldB Try.prog 41 0 0 = true := by kernel_rfl
theorem fl41_1 : fldB Try.prog 41 1 1 = true := by kernel_rfl
theorem fl41_2 : fldB Try.prog 41 2 2 = true := by kernel_rfl
theorem ty59 : tyB Try.prog 59 true 2 = true := by kernel_rfl
theorem in59 : (Try.prog.info? 59).map (fun i => (i.zero, i.size, i.bytes)) = some (some (.agg #[.int .i64 0, .bool false]), 2, 16) := by kernel_rfl
theorem st59 : (match Try.prog.underlying 59 with | some (.struct fs) => fs.all (fun f => (Try.prog.info? f.type).isSome) | _ => false) = true := by kernel_rfl
theorem fl59_0 : fldB Try.prog 59 0 0 = true := by kernel_rfl
theorem fp59_0 : (match Try.prog.underlying 59 with | some (.struct fs) => (match fs[0]? with | some f => Nat.beq f.offset 0 && (match Try.prog.info? f.type with | some i => Nat.beq i.size 1 | none => false) | none => false) | _ => false) = true := by kernel_rfl
theorem fl59_1 : fldB Try.prog 59 1 1 = true := by kernel_rfl
theorem fp59_1 : (match Try.prog.underlying 59 with | some (.struct fs) => (match fs[1]? with | some f => Nat.beq f.offset 1 && (match Try.prog.info? f.type with | some i => Nat.beq i.size 1 | none => false) | none => false) | _ => false) = true := by kernel_rfl
theorem ty61 : tyB Try.prog 61 true 5 = true := by kernel_rfl
theorem in61 : (Try.prog.info? 61).map (fun i => (i.zero, i.size, i.bytes)) = some (some (.agg #[.int .i64 0, .int .i64 0, .int .i64 0, .int .i64 0, .bool false]), 5, 40) := by kernel_rfl
theorem st61 : (match Try.prog.underlying 61 with | some (.struct fs) => fs.all (fun f => (Try.prog.info? f.type).isSome) | _ => false) = true := by kernel_rfl
theorem fl61_0 : fldB Try.prog 61 0 0 = true := by kernel_rfl
theorem fp61_0 : (match Try.prog.underlying 61 with | some (.struct fs) => (match fs[0]? with | some f => Nat.beq f.offset 0 && (match Try.prog.info? f.type with | some i => Nat.beq i.size 1 | none => false) | none => false) | _ => false) = true := by kernel_rfl
theorem fl61_1 : fldB Try.prog 61 1 1 = true := by kernel_rfl
theorem fp61_1 : (match Try.prog.underlying 61 with | some (.struct fs) => (match fs[1]? with | some f => Nat.beq f.offset 1 && (match Try.prog.info? f.type with | some i => Nat.beq i.size 1 | none => false) | none => false) | _ => false) = true := by kernel_rfl
theorem fl61_2 : fldB Try.prog 61 2 2 = true := by kernel_rfl
theorem fp61_2 : (match Try.prog.underlying 61 with | some (.struct fs) => (match fs[2]? with | some f => Nat.beq f.offset 2 && (match Try.prog.info? f.type with | some i => Nat.beq i.size 1 | none => false) | none => false) | _ => false) = true := by kernel_rfl
theorem fl61_3 : fldB Try.prog 61 3 3 = true := by kernel_rfl
theorem fp61_3 : (match Try.prog.underlying 61 with | some (.struct fs) => (match fs[3]? with | some f => Nat.beq f.offset 3 && (match Try.prog.info? f.type with | some i => Nat.beq i.size 2 | none => false) | none => false) | _ => false) = true := by kernel_rfl
theorem ty68 : tyB Try.prog 68 false 1 = true := by kernel_rfl
theorem ty73 : tyB Try.prog 73 false 1 = true := by kernel_rfl
theorem in75 : (Try.prog.info? 75).map (fun i => (i.zero, i.size, i.bytes)) = some (some (.agg #[.slice none 0 0, .slice none 0 0, .int .i64 0, .slice none 0 0, .slice none 0 0, .int .i64 0, .slice none 0 0, .map none]), 8, 144) := by kernel_rfl
theorem st75 : (match Try.prog.underlying 75 with | some (.struct fs) => fs.all (fun f => (Try.prog.info? f.type).isSome) | _ => false) = true := by kernel_rfl
theorem fl75_0 : fldB Try.prog 75 0 0 = true := by kernel_rfl
theorem fp75_0 : (match Try.prog.underlying 75 with | some (.struct fs) => (match fs[0]? with | some f => Nat.beq f.offset 0 && (match Try.prog.info? f.type with | some i => Nat.beq i.size 2 | none => false) | none => false) | _ => false) = true := by kernel_rfl
theorem fl75_1 : fldB Try.prog 75 1 2 = true := by kernel_rfl
theorem fp75_1 : (match Try.prog.underlying 75 with | some (.struct fs) => (match fs[1]? with | some f => Nat.beq f.offset 2 && (match Try.prog.info? f.type with | some i => Nat.beq i.size 3 | none => false) | none => false) | _ => false) = true := by kernel_rfl
theorem fl75_2 : fldB Try.prog 75 2 5 = true := by kernel_rfl
theorem fp75_2 : (match Try.prog.underlying 75 with | some (.struct fs) => (match fs[2]? with | some f => Nat.beq f.offset 5 && (match Try.prog.info? f.type with | some i => Nat.beq i.size 1 | none => false) | none => false) | _ => false) = true := by kernel_rfl
theorem fl75_3 : fldB Try.prog 75 3 6 = true := by kernel_rfl
theorem fp75_3 : (match Try.prog.underlying 75 with | some (.struct fs) => (match fs[3]? with | some f => Nat.beq f.offset 6 && (match Try.prog.info? f.type with | some i => Nat.beq i.size 1 | none => false) | none => false) | _ => false) = true := by kernel_rfl
theorem fl75_4 : fldB Try.prog 75 4 7 = true := by kernel_rfl
theorem fp75_4 : (match Try.prog.underlying 75 with | some (.struct fs) => (match fs[4]? with | some f => Nat.beq f.offset 7 && (match Try.prog.info? f.type with | some i => Nat.beq i.size 1 | none => false) | none => false) | _ => false) = true := by kernel_rfl
theorem ty78 : tyB Try.prog 78 true 3 = true := by kernel_rfl
theorem in78 : (Try.prog.info? 78).map (fun i => (i.zero, i.size, i.bytes)) = some (some (.agg #[.int .i64 0, .int .i64 0, .int .i64 0]), 3, 24) := by kernel_rfl
theorem st78 : (match Try.prog.underlying 78 with | some (.struct fs) => fs.all (fun f => (Try.prog.info? f.type).isSome) | _ => false) = true := by kernel_rfl
theorem fl78_0 : fldB Try.prog 78 0 0 = true := by kernel_rfl
theorem fp78_0 : (match Try.prog.underlying 78 with | some (.struct fs) => (match fs[0]? with | some f => Nat.beq f.offset 0 && (match Try.prog.info? f.type with | some i => Nat.beq i.size 1 | none => false) | none => false) | _ => false) = true := by kernel_rfl
theorem fl78_1 : fldB Try.prog 78 1 1 = true := by kernel_rfl
theorem fp78_1 : (match Try.prog.underlying 78 with | some (.struct fs) => (match fs[1]? with | some f => Nat.beq f.offset 1 && (match Try.prog.info? f.type with | some i => Nat.beq i.size 1 | none => false) | none => false) | _ => false) = true := by kernel_rfl
theorem fl78_2 : fldB Try.prog 78 2 2 = true := by kernel_rfl
theorem fp78_2 : (match Try.prog.underlying 78 with | some (.struct fs) => (match fs[2]? with | some f => Nat.beq f.offset 2 && (match Try.prog.info? f.type with | some i => Nat.beq i.size 1 | none => false) | none => false) | _ => false) = true := by kernel_rfl
theorem ty93 : tyB Try.prog 93 true 4 = true := by kernel_rfl
theorem in93 : (Try.prog.info? 93).map (fun i => (i.zero, i.size, i.bytes)) = some (some (.agg #[.int .i64 0, .int .i64 0, .int .i64 0, .int .i64 0]), 4, 32) := by kernel_rfl
theorem fl93_0 : fldB Try.prog 93 0 0 = true := by kernel_rfl
theorem fl93_1 : fldB Try.prog 93 1 1 = true := by kernel_rfl
theorem fl93_2 : fldB Try.prog 93 2 2 = true := by kernel_rfl
theorem fl93_3 : fldB Try.prog 93 3 3 = true := by kernel_rfl
theorem ty95 : tyB Try.prog 95 true 4 = true := by kernel_rfl
theorem fl95_0 : fldB Try.prog 95 0 0 = true := by kernel_rfl
theorem fl95_1 : fldB Try.prog 95 1 1 = true := by kernel_rfl
theorem fl95_2 : fldB Try.prog 95 2 2 = true := by kernel_rfl
theorem fl95_3 : fldB Try.prog 95 3 3 = true := by kernel_rfl
theorem ty97 : tyB Try.prog 97 false 1 = true := by kernel_rfl
theorem in97 : (Try.prog.info? 97).map (fun i => (i.zero, i.size, i.bytes)) = some (some (.slice none 0 0), 1, 24) := by kernel_rfl
theorem ty100 : tyB Try.prog 100 true 4 = true := by kernel_rfl
theorem in100 : (Try.prog.info? 100).map (fun i => (i.zero, i.size, i.bytes)) = some (some (.agg #[.int .i64 0, .bool false, .int .i64 0, .int .i64 0]), 4, 32) := by kernel_rfl
theorem st100 : (match Try.prog.underlying 100 with | some (.struct fs) => fs.all (fun f => (Try.prog.info? f.type).isSome) | _ => false) = true := by kernel_rfl
theorem fl100_0 : fldB Try.prog 100 0 0 = true := by kernel_rfl
theorem fp100_0 : (match Try.prog.underlying 100 with | some (.struct fs) => (match fs[0]? with | some f => Nat.beq f.offset 0 && (match Try.prog.info? f.type with | some i => Nat.beq i.size 2 | none => false) | none => false) | _ => false) = true := by kernel_rfl
theorem fl100_1 : fldB Try.prog 100 1 2 = true := by kernel_rfl
theorem fp100_1 : (match Try.prog.underlying 100 with | some (.struct fs) => (match fs[1]? with | some f => Nat.beq f.offset 2 && (match Try.prog.info? f.type with | some i => Nat.beq i.size 1 | none => false) | none => false) | _ => false) = true := by kernel_rfl
theorem fl100_2 : fldB Try.prog 100 2 3 = true := by kernel_rfl
theorem fp100_2 : (match Try.prog.underlying 100 with | some (.struct fs) => (match fs[2]? with | some f => Nat.beq f.offset 3 && (match Try.prog.info? f.type with | some i => Nat.beq i.size 1 | none => false) | none => false) | _ => false) = true := by kernel_rfl
end Go.Proofs.Ytamnfkfjfelbbaa
set_option linter.unusedVariables false
set_option linter.unusedSimpArgs false
namespace Go.D
open Go.Q
def mkInt (_ : Int) (k : Int) : Int := k
def cntInt (_ : Int) : Int := 1
theorem cntInt_nn (x : Int) : 0 ≤ cntInt x := by unfold cntInt; omega
def mkBool (_ : Bool) (k : Int) : Bool := decide (k % 3 = 0)
def cntBool (_ : Bool) : Int := 1
theorem cntBool_nn (x : Bool) : 0 ≤ cntBool x := by unfold cntBool; omega
def mkIntS (x : (List Int)) (k : Int) : (List Int) := mkL mkInt cntInt x k
def cntIntS (x : (List Int)) : Int := cntL cntInt x
theorem cntIntS_nn (x : (List Int)) : 0 ≤ cntIntS x := cntL_nonneg cntInt_nn x
def mkBoolS (x : (List Bool)) (k : Int) : (List Bool) := mkL mkBool cntBool x k
def cntBoolS (x : (List Bool)) : Int := cntL cntBool x
theorem cntBoolS_nn (x : (List Bool)) : 0 ≤ cntBoolS x := cntL_nonneg cntBool_nn x
def mkIntSS (x : (List (List Int))) (k : Int) : (List (List Int)) := mkL mkIntS cntIntS x k
def cntIntSS (x : (List (List Int))) : Int := cntL cntIntS x
theorem cntIntSS_nn (x : (List (List Int))) : 0 ≤ cntIntSS x := cntL_nonneg cntIntS_nn x
def mkEdge (x : TEdge) (k : Int) : TEdge := ⟨k, k + 1, k + 1 + 1, k + 1 + 1 + 1⟩
def cntEdge (x : TEdge) : Int := 1 + 1 + 1 + 1
theorem cntEdge_nn (x : TEdge) : 0 ≤ cntEdge x := by
 unfold cntEdge; omega
def mkEdgeS (x : (List TEdge)) (k : Int) : (List TEdge) := mkL mkEdge cntEdge x k
def cntEdgeS (x : (List TEdge)) : Int := cntL cntEdge x
theorem cntEdgeS_nn (x : (List TEdge)) : 0 ≤ cntEdgeS x := cntL_nonneg cntEdge_nn x
def mpGraph (x : TGraph) (k : Int) : TGraph := ⟨mkIntS x.Values (k), mkEdgeS x.Edges (k + cntIntS x.Values)⟩
def cpGraph (x : TGraph) : Int := cntIntS x.Values + cntEdgeS x.Edges
theorem cpGraph_nn (x : TGraph) : 0 ≤ cpGraph x := by
 have := cntIntS_nn x.Values
 have := cntEdgeS_nn x.Edges
 unfold cpGraph; omega
def mkStep (x : TStep) (k : Int) : TStep := ⟨k, decide ((k + 1) % 3 = 0)⟩
def cntStep (x : TStep) : Int := 1 + 1
theorem cntStep_nn (x : TStep) : 0 ≤ cntStep x := by
 unfold cntStep; omega
def mkStepS (x : (List TStep)) (k : Int) : (List TStep) := mkL mkStep cntStep x k
def cntStepS (x : (List TStep)) : Int := cntL cntStep x
theorem cntStepS_nn (x : (List TStep)) : 0 ≤ cntStepS x := cntL_nonneg cntStep_nn x
def mpWalk (x : TWalk) (k : Int) : TWalk := ⟨x.Start, mkStepS x.Steps (k)⟩
def cpWalk (x : TWalk) : Int := 0 + cntStepS x.Steps
theorem cpWalk_nn (x : TWalk) : 0 ≤ cpWalk x := by
 have := cntStepS_nn x.Steps
 unfold cpWalk; omega
def mpAutomaton (x : TAutomaton) (k : Int) : TAutomaton := ⟨x.Start, mkBoolS x.Accept (k), mkIntSS x.Next (k + cntBoolS x.Accept)⟩
def cpAutomaton (x : TAutomaton) : Int := 0 + cntBoolS x.Accept + cntIntSS x.Next
theorem cpAutomaton_nn (x : TAutomaton) : 0 ≤ cpAutomaton x := by
 have := cntBoolS_nn x.Accept
 have := cntIntSS_nn x.Next
 unfold cpAutomaton; omega
theorem cntL_bound {α : Type} {c : α → Int} {b : Int} (hb : 0 ≤ b) : ∀ {l : List α}, (∀ y ∈ l, c y ≤ b) → cntL c l ≤ l.length * b
 | [], _ => by simp [cntL]
 | x :: l, h => by
  have h1 := h x (by simp)
  have h2 := cntL_bound (l := l) hb fun y hy => h y (by simp [hy])
  rw [cntL, List.length_cons, Int.natCast_add, Int.add_mul]
  omega
theorem cntL_ok {α : Type} {c : α → Int} {b : Int} {l : List α} (hb : 0 ≤ b) (hl : l.length ≤ 1048576) (h : ∀ y ∈ l, c y ≤ b) : cntL c l ≤ 1048576 * b :=
 Int.le_trans (cntL_bound hb h) (Int.mul_le_mul_of_nonneg_right (by omega) hb)
theorem cntIntS_ok {x : (List Int)} (h : okIntS x) : cntIntS x ≤ 1048576 := Int.le_trans (cntL_ok (b := 1) (by omega) h fun y _ => by simp [cntInt]) (by omega)
theorem cntBoolS_ok {x : (List Bool)} (h : okBoolS x) : cntBoolS x ≤ 1048576 := Int.le_trans (cntL_ok (b := 1) (by omega) h fun y _ => by simp [cntBool]) (by omega)
theorem cntIntSS_ok {x : (List (List Int))} (h : okIntSS x) : cntIntSS x ≤ 1099511627776 := Int.le_trans (cntL_ok (b := 1048576) (by omega) h.1 fun y hy => cntIntS_ok (h.2 y hy)) (by omega)
theorem cntEdgeS_ok {x : (List TEdge)} (h : okEdgeS x) : cntEdgeS x ≤ 4194304 := Int.le_trans (cntL_ok (b := 4) (by omega) h fun y _ => by simp [cntEdge]) (by omega)
theorem cpGraph_ok {x : TGraph} (h : okGraph x) : cpGraph x ≤ 5242880 := by
 have := cntIntS_ok h.1
 have := cntEdgeS_ok h.2.1
 unfold cpGraph; (try simp only [cntInt] at *); omega
theorem cntStepS_ok {x : (List TStep)} (h : okStepS x) : cntStepS x ≤ 2097152 := Int.le_trans (cntL_ok (b := 2) (by omega) h fun y _ => by simp [cntStep]) (by omega)
theorem cpWalk_ok {x : TWalk} (h : okWalk x) : cpWalk x ≤ 2097152 := by
 have := cntStepS_ok h.1
 unfold cpWalk; (try simp only [cntInt] at *); omega
theorem cpAutomaton_ok {x : TAutomaton} (h : okAutomaton x) : cpAutomaton x ≤ 1099512676352 := by
 have := cntBoolS_ok h.1
 have := cntIntSS_ok h.2.1
 unfold cpAutomaton; (try simp only [cntInt] at *); omega
end Go.D
