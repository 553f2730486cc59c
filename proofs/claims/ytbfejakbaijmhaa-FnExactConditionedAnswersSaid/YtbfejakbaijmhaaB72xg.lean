/- Merged texts. -/
import Derived.Test.YtbfejakbaijmhaaTrxg
import Derived.Test.YtbfejakbaijmhaaB47xg
import Derived.Test.YtbfejakbaijmhaaB20xg
import Derived.Test.YtbfejakbaijmhaaB71xg
set_option linter.unusedVariables false
set_option linter.unusedSimpArgs false
namespace Go.D
open Go.Q
def mkInt (_ : Int) (k : Int) : Int := k
def cntInt (_ : Int) : Int := 1
theorem cntInt_nn (x : Int) : 0 ≤ cntInt x := by unfold cntInt; omega
def mkBool (_ : Bool) (k : Int) : Bool := decide (k % 3 = 0)
def cntBool (_ : Bool) : Int := 1
theorem cntBool_nn (x : Bool) : 0 ≤ cntBool x := by unfold cntBool; omega
def mkIntS (x : (List Int)) (k : Int) : (List Int) := mkL mkInt cntInt x k
def cntIntS (x : (List Int)) : Int := cntL cntInt x
theorem cntIntS_nn (x : (List Int)) : 0 ≤ cntIntS x := cntL_nonneg cntInt_nn x
def mkBoolS (x : (List Bool)) (k : Int) : (List Bool) := mkL mkBool cntBool x k
def cntBoolS (x : (List Bool)) : Int := cntL cntBool x
theorem cntBoolS_nn (x : (List Bool)) : 0 ≤ cntBoolS x := cntL_nonneg cntBool_nn x
def mkIntSS (x : (List (List Int))) (k : Int) : (List (List Int)) := mkL mkIntS cntIntS x k
def cntIntSS (x : (List (List Int))) : Int := cntL cntIntS x
theorem cntIntSS_nn (x : (List (List Int))) : 0 ≤ cntIntSS x := cntL_nonneg cntIntS_nn x
/-- All of it is marked. -/
def mkPair (x : TPair) (k : Int) : TPair := ⟨k, k + 1⟩
def cntPair (x : TPair) : Int := 1 + 1
theorem cntPair_nn (x : TPair) : 0 ≤ cntPair x := by
  unfold cntPair; omega
def mkPairS (x : (List TPair)) (k : Int) : (List TPair) := mkL mkPair cntPair x k
def cntPairS (x : (List TPair)) : Int := cntL cntPair x
theorem cntPairS_nn (x : (List TPair)) : 0 ≤ cntPairS x := cntL_nonneg cntPair_nn x
/-- All of it is marked. -/
def mkEdge (x : TEdge) (k : Int) : TEdge := ⟨k, k + 1, k + 1 + 1, k + 1 + 1 + 1⟩
def cntEdge (x : TEdge) : Int := 1 + 1 + 1 + 1
theorem cntEdge_nn (x : TEdge) : 0 ≤ cntEdge x := by
  unfold cntEdge; omega
def mkEdgeS (x : (List TEdge)) (k : Int) : (List TEdge) := mkL mkEdge cntEdge x k
def cntEdgeS (x : (List TEdge)) : Int := cntL cntEdge x
theorem cntEdgeS_nn (x : (List TEdge)) : 0 ≤ cntEdgeS x := cntL_nonneg cntEdge_nn x
/-- What it holds in slices is marked. -/
def mpGraph (x : TGraph) (k : Int) : TGraph := ⟨mkIntS x.Values (k), mkEdgeS x.Edges (k + cntIntS x.Values)⟩
def cpGraph (x : TGraph) : Int := cntIntS x.Values + cntEdgeS x.Edges
theorem cpGraph_nn (x : TGraph) : 0 ≤ cpGraph x := by
  have := cntIntS_nn x.Values
  have := cntEdgeS_nn x.Edges
  unfold cpGraph; omega
/-- What it holds in slices is marked. -/
def mpAutomaton (x : TAutomaton) (k : Int) : TAutomaton := ⟨x.Start, mkBoolS x.Accept (k), mkIntSS x.Next (k + cntBoolS x.Accept)⟩
def cpAutomaton (x : TAutomaton) : Int := 0 + cntBoolS x.Accept + cntIntSS x.Next
theorem cpAutomaton_nn (x : TAutomaton) : 0 ≤ cpAutomaton x := by
  have := cntBoolS_nn x.Accept
  have := cntIntSS_nn x.Next
  unfold cpAutomaton; omega
theorem cntL_bound {α : Type} {c : α → Int} {b : Int} (hb : 0 ≤ b) : ∀ {l : List α}, (∀ y ∈ l, c y ≤ b) → cntL c l ≤ l.length * b
  | [], _ => by simp [cntL]
  | x :: l, h => by
    have h1 := h x (by simp)
    have h2 := cntL_bound (l := l) hb fun y hy => h y (by simp [hy])
    rw [cntL, List.length_cons, Int.natCast_add, Int.add_mul]
    omega
theorem cntL_ok {α : Type} {c : α → Int} {b : Int} {l : List α} (hb : 0 ≤ b) (hl : l.length ≤ 1048576) (h : ∀ y ∈ l, c y ≤ b) : cntL c l ≤ 1048576 * b :=
  Int.le_trans (cntL_bound hb h) (Int.mul_le_mul_of_nonneg_right (by omega) hb)
theorem cntIntS_ok {x : (List Int)} (h : okIntS x) : cntIntS x ≤ 1048576 := Int.le_trans (cntL_ok (b := 1) (by omega) h fun y _ => by simp [cntInt]) (by omega)
theorem cntBoolS_ok {x : (List Bool)} (h : okBoolS x) : cntBoolS x ≤ 1048576 := Int.le_trans (cntL_ok (b := 1) (by omega) h fun y _ => by simp [cntBool]) (by omega)
theorem cntIntSS_ok {x : (List (List Int))} (h : okIntSS x) : cntIntSS x ≤ 1099511627776 := Int.le_trans (cntL_ok (b := 1048576) (by omega) h.1 fun y hy => cntIntS_ok (h.2 y hy)) (by omega)
theorem cntEdgeS_ok {x : (List TEdge)} (h : okEdgeS x) : cntEdgeS x ≤ 4194304 := Int.le_trans (cntL_ok (b := 4) (by omega) h fun y _ => by simp [cntEdge]) (by omega)
theorem cpGraph_ok {x : TGraph} (h : okGraph x) : cpGraph x ≤ 5242880 := by
  have := cntIntS_ok h.1
  have := cntEdgeS_ok h.2.1
  unfold cpGraph; (try simp only [cntInt] at *); omega
theorem cpAutomaton_ok {x : TAutomaton} (h : okAutomaton x) : cpAutomaton x ≤ 1099512676352 := by
  have := cntBoolS_ok h.1
  have := cntIntSS_ok h.2.1
  unfold cpAutomaton; (try simp only [cntInt] at *); omega
end Go.D
set_option linter.unusedVariables false
set_option linter.unusedSimpArgs false
set_option maxHeartbeats 1000000
set_option maxRecDepth 100000
namespace Go.Q
open Go.D
theorem cntPairS_len : ∀ l : List TPair, cntPairS l = 2 * l.length
  | [] => rfl
  | x :: l => by
    have ih := cntPairS_len l
    unfold cntPairS at *
    rw [cntL, ih, List.length_cons]
    unfold cntPair
    omega
end Go.Q
namespace Go.Proofs.Ytbfejakbaijmhaa
open Go.RowKit Go.Q Go.D
end Go.Proofs.Ytbfejakbaijmhaa
set_option linter.unusedVariables false
set_option linter.unusedSimpArgs false
set_option maxHeartbeats 1000000
set_option maxRecDepth 100000
namespace Go.Q
open Go.D
theorem condAns_cnt (g : TGraph) (a : TAutomaton) (c : Int) : cntPairS (condAns g a c) ≤ 1048576 := by
  rw [cntPairS_len]
  unfold condAns
  split
  · rename_i h
    simp only [Bool.and_eq_true] at h
    obtain ⟨hg, ha⟩ := good_c2 h.1
    have h1 := condTo_len g a c g.Values.length
    have h2 := validG_len hg
    have h3 : g.Values.length * g.Values.length ≤ 5 * 5 := Nat.mul_le_mul h2.2.1 h2.2.1
    omega
  · simp
end Go.Q
