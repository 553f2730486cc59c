/- What marked data are. -/
import Derived.Test.YtocnceglpkobaaaAbsTy
set_option linter.unusedVariables false
set_option linter.unusedSimpArgs false
namespace Go.D
open Go.Q
def mkInt (_ : Int) (k : Int) : Int := k
def cntInt (_ : Int) : Int := 1
theorem cntInt_nn (x : Int) : 0 ≤ cntInt x := by unfold cntInt; omega
def mkBool (_ : Bool) (k : Int) : Bool := decide (k % 3 = 0)
def cntBool (_ : Bool) : Int := 1
theorem cntBool_nn (x : Bool) : 0 ≤ cntBool x := by unfold cntBool; omega
def mkIntS (x : (List Int)) (k : Int) : (List Int) := mkL mkInt cntInt x k
def cntIntS (x : (List Int)) : Int := cntL cntInt x
theorem cntIntS_nn (x : (List Int)) : 0 ≤ cntIntS x := cntL_nonneg cntInt_nn x
def mkBoolS (x : (List Bool)) (k : Int) : (List Bool) := mkL mkBool cntBool x k
def cntBoolS (x : (List Bool)) : Int := cntL cntBool x
theorem cntBoolS_nn (x : (List Bool)) : 0 ≤ cntBoolS x := cntL_nonneg cntBool_nn x
def mkIntSS (x : (List (List Int))) (k : Int) : (List (List Int)) := mkL mkIntS cntIntS x k
def cntIntSS (x : (List (List Int))) : Int := cntL cntIntS x
theorem cntIntSS_nn (x : (List (List Int))) : 0 ≤ cntIntSS x := cntL_nonneg cntIntS_nn x
/-- All of it is marked. -/
def mkPair (x : TPair) (k : Int) : TPair := ⟨k, k + 1⟩
def cntPair (x : TPair) : Int := 1 + 1
theorem cntPair_nn (x : TPair) : 0 ≤ cntPair x := by
  unfold cntPair; omega
def mkPairS (x : (List TPair)) (k : Int) : (List TPair) := mkL mkPair cntPair x k
def cntPairS (x : (List TPair)) : Int := cntL cntPair x
theorem cntPairS_nn (x : (List TPair)) : 0 ≤ cntPairS x := cntL_nonneg cntPair_nn x
/-- All of it is marked. -/
def mkToken (x : TToken) (k : Int) : TToken := ⟨k, k + 1, k + 1 + 1, k + 1 + 1 + 1⟩
def cntToken (x : TToken) : Int := 1 + 1 + 1 + 1
theorem cntToken_nn (x : TToken) : 0 ≤ cntToken x := by
  unfold cntToken; omega
def mkTokenS (x : (List TToken)) (k : Int) : (List TToken) := mkL mkToken cntToken x k
def cntTokenS (x : (List TToken)) : Int := cntL cntToken x
theorem cntTokenS_nn (x : (List TToken)) : 0 ≤ cntTokenS x := cntL_nonneg cntToken_nn x
/-- All of it is marked. -/
def mkExpr (x : TExpr) (k : Int) : TExpr := ⟨mkTokenS x.Tokens (k)⟩
def cntExpr (x : TExpr) : Int := cntTokenS x.Tokens
theorem cntExpr_nn (x : TExpr) : 0 ≤ cntExpr x := by
  have := cntTokenS_nn x.Tokens
  unfold cntExpr; omega
/-- What it holds in slices is marked. -/
def mpExpr (x : TExpr) (k : Int) : TExpr := ⟨mkTokenS x.Tokens (k)⟩
def cpExpr (x : TExpr) : Int := cntTokenS x.Tokens
theorem cpExpr_nn (x : TExpr) : 0 ≤ cpExpr x := by
  have := cntTokenS_nn x.Tokens
  unfold cpExpr; omega
def mkExprS (x : (List TExpr)) (k : Int) : (List TExpr) := mkL mkExpr cntExpr x k
def cntExprS (x : (List TExpr)) : Int := cntL cntExpr x
theorem cntExprS_nn (x : (List TExpr)) : 0 ≤ cntExprS x := cntL_nonneg cntExpr_nn x
/-- All of it is marked. -/
def mkEdge (x : TEdge) (k : Int) : TEdge := ⟨k, k + 1, k + 1 + 1, k + 1 + 1 + 1⟩
def cntEdge (x : TEdge) : Int := 1 + 1 + 1 + 1
theorem cntEdge_nn (x : TEdge) : 0 ≤ cntEdge x := by
  unfold cntEdge; omega
def mkEdgeS (x : (List TEdge)) (k : Int) : (List TEdge) := mkL mkEdge cntEdge x k
def cntEdgeS (x : (List TEdge)) : Int := cntL cntEdge x
theorem cntEdgeS_nn (x : (List TEdge)) : 0 ≤ cntEdgeS x := cntL_nonneg cntEdge_nn x
/-- All of it is marked. -/
def mkGraph (x : TGraph) (k : Int) : TGraph := ⟨mkIntS x.Values (k), mkEdgeS x.Edges (k + cntIntS x.Values)⟩
def cntGraph (x : TGraph) : Int := cntIntS x.Values + cntEdgeS x.Edges
theorem cntGraph_nn (x : TGraph) : 0 ≤ cntGraph x := by
  have := cntIntS_nn x.Values
  have := cntEdgeS_nn x.Edges
  unfold cntGraph; omega
/-- What it holds in slices is marked. -/
def mpGraph (x : TGraph) (k : Int) : TGraph := ⟨mkIntS x.Values (k), mkEdgeS x.Edges (k + cntIntS x.Values)⟩
def cpGraph (x : TGraph) : Int := cntIntS x.Values + cntEdgeS x.Edges
theorem cpGraph_nn (x : TGraph) : 0 ≤ cpGraph x := by
  have := cntIntS_nn x.Values
  have := cntEdgeS_nn x.Edges
  unfold cpGraph; omega
def mkGraphS (x : (List TGraph)) (k : Int) : (List TGraph) := mkL mkGraph cntGraph x k
def cntGraphS (x : (List TGraph)) : Int := cntL cntGraph x
theorem cntGraphS_nn (x : (List TGraph)) : 0 ≤ cntGraphS x := cntL_nonneg cntGraph_nn x
/-- All of it is marked. -/
def mkStep (x : TStep) (k : Int) : TStep := ⟨k, decide ((k + 1) % 3 = 0)⟩
def cntStep (x : TStep) : Int := 1 + 1
theorem cntStep_nn (x : TStep) : 0 ≤ cntStep x := by
  unfold cntStep; omega
def mkStepS (x : (List TStep)) (k : Int) : (List TStep) := mkL mkStep cntStep x k
def cntStepS (x : (List TStep)) : Int := cntL cntStep x
theorem cntStepS_nn (x : (List TStep)) : 0 ≤ cntStepS x := cntL_nonneg cntStep_nn x
/-- All of it is marked. -/
def mkWalk (x : TWalk) (k : Int) : TWalk := ⟨k, mkStepS x.Steps (k + 1)⟩
def cntWalk (x : TWalk) : Int := 1 + cntStepS x.Steps
theorem cntWalk_nn (x : TWalk) : 0 ≤ cntWalk x := by
  have := cntStepS_nn x.Steps
  unfold cntWalk; omega
/-- What it holds in slices is marked. -/
def mpWalk (x : TWalk) (k : Int) : TWalk := ⟨x.Start, mkStepS x.Steps (k)⟩
def cpWalk (x : TWalk) : Int := 0 + cntStepS x.Steps
theorem cpWalk_nn (x : TWalk) : 0 ≤ cpWalk x := by
  have := cntStepS_nn x.Steps
  unfold cpWalk; omega
def mkWalkS (x : (List TWalk)) (k : Int) : (List TWalk) := mkL mkWalk cntWalk x k
def cntWalkS (x : (List TWalk)) : Int := cntL cntWalk x
theorem cntWalkS_nn (x : (List TWalk)) : 0 ≤ cntWalkS x := cntL_nonneg cntWalk_nn x
/-- All of it is marked. -/
def mkChange (x : TChange) (k : Int) : TChange := ⟨decide ((k) % 3 = 0), ⟨k + 1, k + 1 + 1, k + 1 + 1 + 1, k + 1 + 1 + 1 + 1⟩⟩
def cntChange (x : TChange) : Int := 1 + 1 + 1 + 1 + 1
theorem cntChange_nn (x : TChange) : 0 ≤ cntChange x := by
  unfold cntChange; omega
def mkChangeS (x : (List TChange)) (k : Int) : (List TChange) := mkL mkChange cntChange x k
def cntChangeS (x : (List TChange)) : Int := cntL cntChange x
theorem cntChangeS_nn (x : (List TChange)) : 0 ≤ cntChangeS x := cntL_nonneg cntChange_nn x
/-- All of it is marked. -/
def mkBatch (x : TBatch) (k : Int) : TBatch := ⟨mkChangeS x.Changes (k)⟩
def cntBatch (x : TBatch) : Int := cntChangeS x.Changes
theorem cntBatch_nn (x : TBatch) : 0 ≤ cntBatch x := by
  have := cntChangeS_nn x.Changes
  unfold cntBatch; omega
/-- What it holds in slices is marked. -/
def mpBatch (x : TBatch) (k : Int) : TBatch := ⟨mkChangeS x.Changes (k)⟩
def cpBatch (x : TBatch) : Int := cntChangeS x.Changes
theorem cpBatch_nn (x : TBatch) : 0 ≤ cpBatch x := by
  have := cntChangeS_nn x.Changes
  unfold cpBatch; omega
def mkBatchS (x : (List TBatch)) (k : Int) : (List TBatch) := mkL mkBatch cntBatch x k
def cntBatchS (x : (List TBatch)) : Int := cntL cntBatch x
theorem cntBatchS_nn (x : (List TBatch)) : 0 ≤ cntBatchS x := cntL_nonneg cntBatch_nn x
/-- All of it is marked. -/
def mkHistory (x : THistory) (k : Int) : THistory := ⟨k, mkGraphS x.Graphs (k + 1)⟩
def cntHistory (x : THistory) : Int := 1 + cntGraphS x.Graphs
theorem cntHistory_nn (x : THistory) : 0 ≤ cntHistory x := by
  have := cntGraphS_nn x.Graphs
  unfold cntHistory; omega
/-- What it holds in slices is marked. -/
def mpHistory (x : THistory) (k : Int) : THistory := ⟨x.First, mkGraphS x.Graphs (k)⟩
def cpHistory (x : THistory) : Int := 0 + cntGraphS x.Graphs
theorem cpHistory_nn (x : THistory) : 0 ≤ cpHistory x := by
  have := cntGraphS_nn x.Graphs
  unfold cpHistory; omega
def mkHistoryS (x : (List THistory)) (k : Int) : (List THistory) := mkL mkHistory cntHistory x k
def cntHistoryS (x : (List THistory)) : Int := cntL cntHistory x
theorem cntHistoryS_nn (x : (List THistory)) : 0 ≤ cntHistoryS x := cntL_nonneg cntHistory_nn x
/-- All of it is marked. -/
def mkPositions (x : TPositions) (k : Int) : TPositions := ⟨mkIntS x.Letters (k), k + cntIntS x.Letters, k + cntIntS x.Letters + 1, mkIntS x.Follow (k + cntIntS x.Letters + 1 + 1), decide ((k + cntIntS x.Letters + 1 + 1 + cntIntS x.Follow) % 3 = 0)⟩
def cntPositions (x : TPositions) : Int := cntIntS x.Letters + 1 + 1 + cntIntS x.Follow + 1
theorem cntPositions_nn (x : TPositions) : 0 ≤ cntPositions x := by
  have := cntIntS_nn x.Letters
  have := cntIntS_nn x.Follow
  unfold cntPositions; omega
/-- What it holds in slices is marked. -/
def mpPositions (x : TPositions) (k : Int) : TPositions := ⟨mkIntS x.Letters (k), x.First, x.Last, mkIntS x.Follow (k + cntIntS x.Letters), x.Nullable⟩
def cpPositions (x : TPositions) : Int := cntIntS x.Letters + 0 + 0 + cntIntS x.Follow + 0
theorem cpPositions_nn (x : TPositions) : 0 ≤ cpPositions x := by
  have := cntIntS_nn x.Letters
  have := cntIntS_nn x.Follow
  unfold cpPositions; omega
def mkPositionsS (x : (List TPositions)) (k : Int) : (List TPositions) := mkL mkPositions cntPositions x k
def cntPositionsS (x : (List TPositions)) : Int := cntL cntPositions x
theorem cntPositionsS_nn (x : (List TPositions)) : 0 ≤ cntPositionsS x := cntL_nonneg cntPositions_nn x
/-- All of it is marked. -/
def mkAutomaton (x : TAutomaton) (k : Int) : TAutomaton := ⟨k, mkBoolS x.Accept (k + 1), mkIntSS x.Next (k + 1 + cntBoolS x.Accept)⟩
def cntAutomaton (x : TAutomaton) : Int := 1 + cntBoolS x.Accept + cntIntSS x.Next
theorem cntAutomaton_nn (x : TAutomaton) : 0 ≤ cntAutomaton x := by
  have := cntBoolS_nn x.Accept
  have := cntIntSS_nn x.Next
  unfold cntAutomaton; omega
/-- What it holds in slices is marked. -/
def mpAutomaton (x : TAutomaton) (k : Int) : TAutomaton := ⟨x.Start, mkBoolS x.Accept (k), mkIntSS x.Next (k + cntBoolS x.Accept)⟩
def cpAutomaton (x : TAutomaton) : Int := 0 + cntBoolS x.Accept + cntIntSS x.Next
theorem cpAutomaton_nn (x : TAutomaton) : 0 ≤ cpAutomaton x := by
  have := cntBoolS_nn x.Accept
  have := cntIntSS_nn x.Next
  unfold cpAutomaton; omega
def mkAutomatonS (x : (List TAutomaton)) (k : Int) : (List TAutomaton) := mkL mkAutomaton cntAutomaton x k
def cntAutomatonS (x : (List TAutomaton)) : Int := cntL cntAutomaton x
theorem cntAutomatonS_nn (x : (List TAutomaton)) : 0 ≤ cntAutomatonS x := cntL_nonneg cntAutomaton_nn x
/-- All of it is marked. -/
def mkProductStep (x : TProductStep) (k : Int) : TProductStep := ⟨⟨k, decide ((k + 1) % 3 = 0)⟩, k + 1 + 1, k + 1 + 1 + 1⟩
def cntProductStep (x : TProductStep) : Int := 1 + 1 + 1 + 1
theorem cntProductStep_nn (x : TProductStep) : 0 ≤ cntProductStep x := by
  unfold cntProductStep; omega
def mkProductStepS (x : (List TProductStep)) (k : Int) : (List TProductStep) := mkL mkProductStep cntProductStep x k
def cntProductStepS (x : (List TProductStep)) : Int := cntL cntProductStep x
theorem cntProductStepS_nn (x : (List TProductStep)) : 0 ≤ cntProductStepS x := cntL_nonneg cntProductStep_nn x
/-- All of it is marked. -/
def mkPathAtom (x : TPathAtom) (k : Int) : TPathAtom := ⟨k, k + 1, ⟨mkTokenS x.Expr.Tokens (k + 1 + 1)⟩⟩
def cntPathAtom (x : TPathAtom) : Int := 1 + 1 + cntTokenS x.Expr.Tokens
theorem cntPathAtom_nn (x : TPathAtom) : 0 ≤ cntPathAtom x := by
  have := cntTokenS_nn x.Expr.Tokens
  unfold cntPathAtom; omega
/-- What it holds in slices is marked. -/
def mpPathAtom (x : TPathAtom) (k : Int) : TPathAtom := ⟨x.From, x.To, mpExpr x.Expr (k)⟩
def cpPathAtom (x : TPathAtom) : Int := 0 + 0 + cpExpr x.Expr
theorem cpPathAtom_nn (x : TPathAtom) : 0 ≤ cpPathAtom x := by
  have := cntTokenS_nn x.Expr.Tokens
  have := cpExpr_nn x.Expr
  unfold cpPathAtom; omega
def mkPathAtomS (x : (List TPathAtom)) (k : Int) : (List TPathAtom) := mkL mkPathAtom cntPathAtom x k
def cntPathAtomS (x : (List TPathAtom)) : Int := cntL cntPathAtom x
theorem cntPathAtomS_nn (x : (List TPathAtom)) : 0 ≤ cntPathAtomS x := cntL_nonneg cntPathAtom_nn x
/-- All of it is marked. -/
def mkConjunction (x : TConjunction) (k : Int) : TConjunction := ⟨k, mkPathAtomS x.Atoms (k + 1)⟩
def cntConjunction (x : TConjunction) : Int := 1 + cntPathAtomS x.Atoms
theorem cntConjunction_nn (x : TConjunction) : 0 ≤ cntConjunction x := by
  have := cntPathAtomS_nn x.Atoms
  unfold cntConjunction; omega
/-- What it holds in slices is marked. -/
def mpConjunction (x : TConjunction) (k : Int) : TConjunction := ⟨x.VariableCount, mkPathAtomS x.Atoms (k)⟩
def cpConjunction (x : TConjunction) : Int := 0 + cntPathAtomS x.Atoms
theorem cpConjunction_nn (x : TConjunction) : 0 ≤ cpConjunction x := by
  have := cntPathAtomS_nn x.Atoms
  unfold cpConjunction; omega
def mkConjunctionS (x : (List TConjunction)) (k : Int) : (List TConjunction) := mkL mkConjunction cntConjunction x k
def cntConjunctionS (x : (List TConjunction)) : Int := cntL cntConjunction x
theorem cntConjunctionS_nn (x : (List TConjunction)) : 0 ≤ cntConjunctionS x := cntL_nonneg cntConjunction_nn x
/-- All of it is marked. -/
def mkView (x : TView) (k : Int) : TView := ⟨⟨k, mkBoolS x.Automaton.Accept (k + 1), mkIntSS x.Automaton.Next (k + 1 + cntBoolS x.Automaton.Accept)⟩, k + 1 + cntBoolS x.Automaton.Accept + cntIntSS x.Automaton.Next, mkIntS x.Ranks (k + 1 + cntBoolS x.Automaton.Accept + cntIntSS x.Automaton.Next + 1), mkIntS x.Supports (k + 1 + cntBoolS x.Automaton.Accept + cntIntSS x.Automaton.Next + 1 + cntIntS x.Ranks)⟩
def cntView (x : TView) : Int := 1 + cntBoolS x.Automaton.Accept + cntIntSS x.Automaton.Next + 1 + cntIntS x.Ranks + cntIntS x.Supports
theorem cntView_nn (x : TView) : 0 ≤ cntView x := by
  have := cntBoolS_nn x.Automaton.Accept
  have := cntIntSS_nn x.Automaton.Next
  have := cntIntS_nn x.Ranks
  have := cntIntS_nn x.Supports
  unfold cntView; omega
/-- What it holds in slices is marked. -/
def mpView (x : TView) (k : Int) : TView := ⟨mpAutomaton x.Automaton (k), x.Source, mkIntS x.Ranks (k + cpAutomaton x.Automaton), mkIntS x.Supports (k + cpAutomaton x.Automaton + cntIntS x.Ranks)⟩
def cpView (x : TView) : Int := cpAutomaton x.Automaton + 0 + cntIntS x.Ranks + cntIntS x.Supports
theorem cpView_nn (x : TView) : 0 ≤ cpView x := by
  have := cntBoolS_nn x.Automaton.Accept
  have := cntIntSS_nn x.Automaton.Next
  have := cntIntS_nn x.Ranks
  have := cntIntS_nn x.Supports
  have := cpAutomaton_nn x.Automaton
  unfold cpView; omega
def mkViewS (x : (List TView)) (k : Int) : (List TView) := mkL mkView cntView x k
def cntViewS (x : (List TView)) : Int := cntL cntView x
theorem cntViewS_nn (x : (List TView)) : 0 ≤ cntViewS x := cntL_nonneg cntView_nn x
/-- All of it is marked. -/
def mkDelta (x : TDelta) (k : Int) : TDelta := ⟨mkPairS x.Added (k), mkPairS x.Removed (k + cntPairS x.Added)⟩
def cntDelta (x : TDelta) : Int := cntPairS x.Added + cntPairS x.Removed
theorem cntDelta_nn (x : TDelta) : 0 ≤ cntDelta x := by
  have := cntPairS_nn x.Added
  have := cntPairS_nn x.Removed
  unfold cntDelta; omega
/-- What it holds in slices is marked. -/
def mpDelta (x : TDelta) (k : Int) : TDelta := ⟨mkPairS x.Added (k), mkPairS x.Removed (k + cntPairS x.Added)⟩
def cpDelta (x : TDelta) : Int := cntPairS x.Added + cntPairS x.Removed
theorem cpDelta_nn (x : TDelta) : 0 ≤ cpDelta x := by
  have := cntPairS_nn x.Added
  have := cntPairS_nn x.Removed
  unfold cpDelta; omega
def mkDeltaS (x : (List TDelta)) (k : Int) : (List TDelta) := mkL mkDelta cntDelta x k
def cntDeltaS (x : (List TDelta)) : Int := cntL cntDelta x
theorem cntDeltaS_nn (x : (List TDelta)) : 0 ≤ cntDeltaS x := cntL_nonneg cntDelta_nn x
/-- All of it is marked. -/
def mkRegistered (x : TRegistered) (k : Int) : TRegistered := ⟨k, ⟨mkTokenS x.Expr.Tokens (k + 1)⟩, k + 1 + cntTokenS x.Expr.Tokens⟩
def cntRegistered (x : TRegistered) : Int := 1 + cntTokenS x.Expr.Tokens + 1
theorem cntRegistered_nn (x : TRegistered) : 0 ≤ cntRegistered x := by
  have := cntTokenS_nn x.Expr.Tokens
  unfold cntRegistered; omega
/-- What it holds in slices is marked. -/
def mpRegistered (x : TRegistered) (k : Int) : TRegistered := ⟨x.ID, mpExpr x.Expr (k), x.Shared⟩
def cpRegistered (x : TRegistered) : Int := 0 + cpExpr x.Expr + 0
theorem cpRegistered_nn (x : TRegistered) : 0 ≤ cpRegistered x := by
  have := cntTokenS_nn x.Expr.Tokens
  have := cpExpr_nn x.Expr
  unfold cpRegistered; omega
def mkRegisteredS (x : (List TRegistered)) (k : Int) : (List TRegistered) := mkL mkRegistered cntRegistered x k
def cntRegisteredS (x : (List TRegistered)) : Int := cntL cntRegistered x
theorem cntRegisteredS_nn (x : (List TRegistered)) : 0 ≤ cntRegisteredS x := cntL_nonneg cntRegistered_nn x
/-- All of it is marked. -/
def mkRegistry (x : TRegistry) (k : Int) : TRegistry := ⟨mkAutomatonS x.Automata (k), mkRegisteredS x.Queries (k + cntAutomatonS x.Automata)⟩
def cntRegistry (x : TRegistry) : Int := cntAutomatonS x.Automata + cntRegisteredS x.Queries
theorem cntRegistry_nn (x : TRegistry) : 0 ≤ cntRegistry x := by
  have := cntAutomatonS_nn x.Automata
  have := cntRegisteredS_nn x.Queries
  unfold cntRegistry; omega
/-- What it holds in slices is marked. -/
def mpRegistry (x : TRegistry) (k : Int) : TRegistry := ⟨mkAutomatonS x.Automata (k), mkRegisteredS x.Queries (k + cntAutomatonS x.Automata)⟩
def cpRegistry (x : TRegistry) : Int := cntAutomatonS x.Automata + cntRegisteredS x.Queries
theorem cpRegistry_nn (x : TRegistry) : 0 ≤ cpRegistry x := by
  have := cntAutomatonS_nn x.Automata
  have := cntRegisteredS_nn x.Queries
  unfold cpRegistry; omega
def mkRegistryS (x : (List TRegistry)) (k : Int) : (List TRegistry) := mkL mkRegistry cntRegistry x k
def cntRegistryS (x : (List TRegistry)) : Int := cntL cntRegistry x
theorem cntRegistryS_nn (x : (List TRegistry)) : 0 ≤ cntRegistryS x := cntL_nonneg cntRegistry_nn x
theorem cntL_bound {α : Type} {c : α → Int} {b : Int} (hb : 0 ≤ b) : ∀ {l : List α}, (∀ y ∈ l, c y ≤ b) → cntL c l ≤ l.length * b
  | [], _ => by simp [cntL]
  | x :: l, h => by
    have h1 := h x (by simp)
    have h2 := cntL_bound (l := l) hb fun y hy => h y (by simp [hy])
    rw [cntL, List.length_cons, Int.natCast_add, Int.add_mul]
    omega
theorem cntL_ok {α : Type} {c : α → Int} {b : Int} {l : List α} (hb : 0 ≤ b) (hl : l.length ≤ 1048576) (h : ∀ y ∈ l, c y ≤ b) : cntL c l ≤ 1048576 * b :=
  Int.le_trans (cntL_bound hb h) (Int.mul_le_mul_of_nonneg_right (by omega) hb)
theorem cntIntS_ok {x : (List Int)} (h : okIntS x) : cntIntS x ≤ 1048576 := Int.le_trans (cntL_ok (b := 1) (by omega) h fun y _ => by simp [cntInt]) (by omega)
theorem cntBoolS_ok {x : (List Bool)} (h : okBoolS x) : cntBoolS x ≤ 1048576 := Int.le_trans (cntL_ok (b := 1) (by omega) h fun y _ => by simp [cntBool]) (by omega)
theorem cntIntSS_ok {x : (List (List Int))} (h : okIntSS x) : cntIntSS x ≤ 1099511627776 := Int.le_trans (cntL_ok (b := 1048576) (by omega) h.1 fun y hy => cntIntS_ok (h.2 y hy)) (by omega)
theorem cntPairS_ok {x : (List TPair)} (h : okPairS x) : cntPairS x ≤ 2097152 := Int.le_trans (cntL_ok (b := 2) (by omega) h fun y _ => by simp [cntPair]) (by omega)
theorem cntTokenS_ok {x : (List TToken)} (h : okTokenS x) : cntTokenS x ≤ 4194304 := Int.le_trans (cntL_ok (b := 4) (by omega) h fun y _ => by simp [cntToken]) (by omega)
theorem cntExpr_ok {x : TExpr} (h : okExpr x) : cntExpr x ≤ 4194304 := by
  have := cntTokenS_ok h.1
  unfold cntExpr; (try simp only [cntInt] at *); omega
theorem cpExpr_ok {x : TExpr} (h : okExpr x) : cpExpr x ≤ 4194304 := by
  have := cntTokenS_ok h.1
  unfold cpExpr; (try simp only [cntInt] at *); omega
theorem cntExprS_ok {x : (List TExpr)} (h : okExprS x) : cntExprS x ≤ 4398046511104 := Int.le_trans (cntL_ok (b := 4194304) (by omega) h.1 fun y hy => cntExpr_ok (h.2 y hy)) (by omega)
theorem cntEdgeS_ok {x : (List TEdge)} (h : okEdgeS x) : cntEdgeS x ≤ 4194304 := Int.le_trans (cntL_ok (b := 4) (by omega) h fun y _ => by simp [cntEdge]) (by omega)
theorem cntGraph_ok {x : TGraph} (h : okGraph x) : cntGraph x ≤ 5242880 := by
  have := cntIntS_ok h.1
  have := cntEdgeS_ok h.2.1
  unfold cntGraph; (try simp only [cntInt] at *); omega
theorem cpGraph_ok {x : TGraph} (h : okGraph x) : cpGraph x ≤ 5242880 := by
  have := cntIntS_ok h.1
  have := cntEdgeS_ok h.2.1
  unfold cpGraph; (try simp only [cntInt] at *); omega
theorem cntGraphS_ok {x : (List TGraph)} (h : okGraphS x) : cntGraphS x ≤ 5497558138880 := Int.le_trans (cntL_ok (b := 5242880) (by omega) h.1 fun y hy => cntGraph_ok (h.2 y hy)) (by omega)
theorem cntStepS_ok {x : (List TStep)} (h : okStepS x) : cntStepS x ≤ 2097152 := Int.le_trans (cntL_ok (b := 2) (by omega) h fun y _ => by simp [cntStep]) (by omega)
theorem cntWalk_ok {x : TWalk} (h : okWalk x) : cntWalk x ≤ 2097153 := by
  have := cntStepS_ok h.1
  unfold cntWalk; (try simp only [cntInt] at *); omega
theorem cpWalk_ok {x : TWalk} (h : okWalk x) : cpWalk x ≤ 2097152 := by
  have := cntStepS_ok h.1
  unfold cpWalk; (try simp only [cntInt] at *); omega
theorem cntWalkS_ok {x : (List TWalk)} (h : okWalkS x) : cntWalkS x ≤ 2199024304128 := Int.le_trans (cntL_ok (b := 2097153) (by omega) h.1 fun y hy => cntWalk_ok (h.2 y hy)) (by omega)
theorem cntChangeS_ok {x : (List TChange)} (h : okChangeS x) : cntChangeS x ≤ 5242880 := Int.le_trans (cntL_ok (b := 5) (by omega) h fun y _ => by simp [cntChange, cntEdge]) (by omega)
theorem cntBatch_ok {x : TBatch} (h : okBatch x) : cntBatch x ≤ 5242880 := by
  have := cntChangeS_ok h.1
  unfold cntBatch; (try simp only [cntInt] at *); omega
theorem cpBatch_ok {x : TBatch} (h : okBatch x) : cpBatch x ≤ 5242880 := by
  have := cntChangeS_ok h.1
  unfold cpBatch; (try simp only [cntInt] at *); omega
theorem cntBatchS_ok {x : (List TBatch)} (h : okBatchS x) : cntBatchS x ≤ 5497558138880 := Int.le_trans (cntL_ok (b := 5242880) (by omega) h.1 fun y hy => cntBatch_ok (h.2 y hy)) (by omega)
theorem cntHistory_ok {x : THistory} (h : okHistory x) : cntHistory x ≤ 5497558138881 := by
  have := cntGraphS_ok h.1
  unfold cntHistory; (try simp only [cntInt] at *); omega
theorem cpHistory_ok {x : THistory} (h : okHistory x) : cpHistory x ≤ 5497558138880 := by
  have := cntGraphS_ok h.1
  unfold cpHistory; (try simp only [cntInt] at *); omega
theorem cntHistoryS_ok {x : (List THistory)} (h : okHistoryS x) : cntHistoryS x ≤ 5764607523035283456 := Int.le_trans (cntL_ok (b := 5497558138881) (by omega) h.1 fun y hy => cntHistory_ok (h.2 y hy)) (by omega)
theorem cntPositions_ok {x : TPositions} (h : okPositions x) : cntPositions x ≤ 2097155 := by
  have := cntIntS_ok h.1
  have := cntIntS_ok h.2.1
  unfold cntPositions; (try simp only [cntInt] at *); omega
theorem cpPositions_ok {x : TPositions} (h : okPositions x) : cpPositions x ≤ 2097152 := by
  have := cntIntS_ok h.1
  have := cntIntS_ok h.2.1
  unfold cpPositions; (try simp only [cntInt] at *); omega
theorem cntPositionsS_ok {x : (List TPositions)} (h : okPositionsS x) : cntPositionsS x ≤ 2199026401280 := Int.le_trans (cntL_ok (b := 2097155) (by omega) h.1 fun y hy => cntPositions_ok (h.2 y hy)) (by omega)
theorem cntAutomaton_ok {x : TAutomaton} (h : okAutomaton x) : cntAutomaton x ≤ 1099512676353 := by
  have := cntBoolS_ok h.1
  have := cntIntSS_ok h.2.1
  unfold cntAutomaton; (try simp only [cntInt] at *); omega
theorem cpAutomaton_ok {x : TAutomaton} (h : okAutomaton x) : cpAutomaton x ≤ 1099512676352 := by
  have := cntBoolS_ok h.1
  have := cntIntSS_ok h.2.1
  unfold cpAutomaton; (try simp only [cntInt] at *); omega
theorem cntAutomatonS_ok {x : (List TAutomaton)} (h : okAutomatonS x) : cntAutomatonS x ≤ 1152922604119523328 := Int.le_trans (cntL_ok (b := 1099512676353) (by omega) h.1 fun y hy => cntAutomaton_ok (h.2 y hy)) (by omega)
theorem cntProductStepS_ok {x : (List TProductStep)} (h : okProductStepS x) : cntProductStepS x ≤ 4194304 := Int.le_trans (cntL_ok (b := 4) (by omega) h fun y _ => by simp [cntProductStep, cntStep]) (by omega)
theorem cntPathAtom_ok {x : TPathAtom} (h : okPathAtom x) : cntPathAtom x ≤ 4194306 := by
  have := cntExpr_ok h.1
  unfold cntPathAtom; (try simp only [cntInt, cntExpr] at *); omega
theorem cpPathAtom_ok {x : TPathAtom} (h : okPathAtom x) : cpPathAtom x ≤ 4194304 := by
  have := cpExpr_ok h.1
  unfold cpPathAtom; (try simp only [cntInt, cpExpr] at *); omega
theorem cntPathAtomS_ok {x : (List TPathAtom)} (h : okPathAtomS x) : cntPathAtomS x ≤ 4398048608256 := Int.le_trans (cntL_ok (b := 4194306) (by omega) h.1 fun y hy => cntPathAtom_ok (h.2 y hy)) (by omega)
theorem cntConjunction_ok {x : TConjunction} (h : okConjunction x) : cntConjunction x ≤ 4398048608257 := by
  have := cntPathAtomS_ok h.1
  unfold cntConjunction; (try simp only [cntInt] at *); omega
theorem cpConjunction_ok {x : TConjunction} (h : okConjunction x) : cpConjunction x ≤ 4398048608256 := by
  have := cntPathAtomS_ok h.1
  unfold cpConjunction; (try simp only [cntInt] at *); omega
theorem cntConjunctionS_ok {x : (List TConjunction)} (h : okConjunctionS x) : cntConjunctionS x ≤ 4611688217451692032 := Int.le_trans (cntL_ok (b := 4398048608257) (by omega) h.1 fun y hy => cntConjunction_ok (h.2 y hy)) (by omega)
theorem cntView_ok {x : TView} (h : okView x) : cntView x ≤ 1099514773506 := by
  have := cntAutomaton_ok h.1
  have := cntIntS_ok h.2.1
  have := cntIntS_ok h.2.2.1
  unfold cntView; (try simp only [cntInt, cntAutomaton] at *); omega
theorem cpView_ok {x : TView} (h : okView x) : cpView x ≤ 1099514773504 := by
  have := cpAutomaton_ok h.1
  have := cntIntS_ok h.2.1
  have := cntIntS_ok h.2.2.1
  unfold cpView; (try simp only [cntInt, cpAutomaton] at *); omega
theorem cntViewS_ok {x : (List TView)} (h : okViewS x) : cntViewS x ≤ 1152924803143827456 := Int.le_trans (cntL_ok (b := 1099514773506) (by omega) h.1 fun y hy => cntView_ok (h.2 y hy)) (by omega)
theorem cntDelta_ok {x : TDelta} (h : okDelta x) : cntDelta x ≤ 4194304 := by
  have := cntPairS_ok h.1
  have := cntPairS_ok h.2.1
  unfold cntDelta; (try simp only [cntInt] at *); omega
theorem cpDelta_ok {x : TDelta} (h : okDelta x) : cpDelta x ≤ 4194304 := by
  have := cntPairS_ok h.1
  have := cntPairS_ok h.2.1
  unfold cpDelta; (try simp only [cntInt] at *); omega
theorem cntDeltaS_ok {x : (List TDelta)} (h : okDeltaS x) : cntDeltaS x ≤ 4398046511104 := Int.le_trans (cntL_ok (b := 4194304) (by omega) h.1 fun y hy => cntDelta_ok (h.2 y hy)) (by omega)
theorem cntRegistered_ok {x : TRegistered} (h : okRegistered x) : cntRegistered x ≤ 4194306 := by
  have := cntExpr_ok h.1
  unfold cntRegistered; (try simp only [cntInt, cntExpr] at *); omega
theorem cpRegistered_ok {x : TRegistered} (h : okRegistered x) : cpRegistered x ≤ 4194304 := by
  have := cpExpr_ok h.1
  unfold cpRegistered; (try simp only [cntInt, cpExpr] at *); omega
theorem cntRegisteredS_ok {x : (List TRegistered)} (h : okRegisteredS x) : cntRegisteredS x ≤ 4398048608256 := Int.le_trans (cntL_ok (b := 4194306) (by omega) h.1 fun y hy => cntRegistered_ok (h.2 y hy)) (by omega)
theorem cntRegistry_ok {x : TRegistry} (h : okRegistry x) : cntRegistry x ≤ 1152927002168131584 := by
  have := cntAutomatonS_ok h.1
  have := cntRegisteredS_ok h.2.1
  unfold cntRegistry; (try simp only [cntInt] at *); omega
theorem cpRegistry_ok {x : TRegistry} (h : okRegistry x) : cpRegistry x ≤ 1152927002168131584 := by
  have := cntAutomatonS_ok h.1
  have := cntRegisteredS_ok h.2.1
  unfold cpRegistry; (try simp only [cntInt] at *); omega
theorem cntRegistryS_ok {x : (List TRegistry)} (h : okRegistryS x) : cntRegistryS x ≤ 1208931584225450743824384 := Int.le_trans (cntL_ok (b := 1152927002168131584) (by omega) h.1 fun y hy => cntRegistry_ok (h.2 y hy)) (by omega)
end Go.D
