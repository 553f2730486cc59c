/- Deltas: both texts. -/
import Derived.Test.YtjmefmdeghggeaaB16
import Derived.Test.YtjmefmdeghggeaaMD
set_option linter.unusedVariables false
set_option linter.unusedSimpArgs false
set_option maxHeartbeats 1000000
set_option maxRecDepth 100000
namespace Go.Q
open Go.D
def deltaB (a b : List TPair) : TDelta := ⟨psub b a, psub a b⟩
theorem cntPairS_len : ∀ l : List TPair, cntPairS l = 2 * l.length
  | [] => rfl
  | x :: l => by
    have ih := cntPairS_len l
    unfold cntPairS at *
    rw [cntL, ih, List.length_cons]
    unfold cntPair
    omega
theorem psub_len (a b : List TPair) : (psub a b).length ≤ a.length := Nat.le_trans (setG_len _) (List.length_filter_le _ _)
theorem deltaB_cnt {a b : List TPair} (ha : a.length ≤ 1073741824) (hb : b.length ≤ 1073741824) : cpDelta (deltaB a b) ≤ 4294967296 := by
  unfold cpDelta deltaB
  rw [cntPairS_len, cntPairS_len]
  have := psub_len a b
  have := psub_len b a
  dsimp only
  omega
end Go.Q
namespace Go.Proofs.Ytjmefmdeghggeaa
open Go.RowKit Go.Q Go.D
theorem specDeltaBetween (a b : List TPair) (ha : a.length ≤ 1073741824) (hb : b.length ≤ 1073741824) : FnT Try.prog 23 [.one (.sl 2 (a.map cPair)), .one (.sl 2 (b.map cPair))] (.a (.agg (cDelta (deltaB a b)))) := by
  refine FnT.walk Try.func23 rfl (by kernel_rfl) Try.ntmps23 rfl fun hlen w0 => ?_
  try simp [cPair, cToken, cExpr, cEdge, cGraph, cStep, cWalk, cChange, cBatch, cHistory, cPositions, cAutomaton, cProductStep, cPathAtom, cConjunction, cView, cDelta, cRegistered, cRegistry] at hlen
  refine AW.seq ?_
  -- region 0
  refine AW.region ?_
  refine AWl.add (R_alloc 4 rfl rfl rfl in39 rfl rfl rfl) rfl ?_
  refine AWl.nil ?_
  refine AW.seq ?_
  -- region 1
  refine AW.region ?_
  refine AWl.put (R_move rfl (.no rfl) rfl (.tmp rfl fun _ => rfl)) rfl ?_
  refine AWl.put (R_move rfl (.no rfl) rfl (.tmp rfl fun _ => rfl)) rfl ?_
  refine AWl.adds (R_call 700 (specSubtractPairs _ _ (by assumption)) rfl rfl rfl (.cons (.tmp rfl fun _ => rfl) rfl (.cons (.tmp rfl fun _ => rfl) rfl .nil)) rfl rfl) rfl ?_
  refine AWl.put (R_move rfl (.no rfl) rfl (.tmp rfl fun _ => rfl)) rfl ?_
  refine AWl.put (R_move rfl (.no rfl) rfl (.tmp rfl fun _ => rfl)) rfl ?_
  refine AWl.adds (R_call 1000 (specSubtractPairs _ _ (by assumption)) rfl rfl rfl (.cons (.tmp rfl fun _ => rfl) rfl (.cons (.tmp rfl fun _ => rfl) rfl .nil)) rfl rfl) rfl ?_
  refine AWl.put (R_build (ps := [(0, .tmp 7), (1, .tmp 10)]) rfl rfl rfl in39 rfl rfl st39 (.cons (.tmp rfl fun _ => rfl) rfl rfl fp39_0 (.cons (.tmp rfl fun _ => rfl) rfl rfl fp39_1 .nil)) rfl) rfl ?_
  refine AWl.chgb (R_store_pb rfl rfl rfl (.tmp rfl fun _ => rfl) (.tmp rfl fun _ => rfl) rfl ty39 rfl rfl rfl (by kernel_rfl) rfl) ?_
  refine AWl.nil ?_
  refine AW.ret ?_
  refine Res.one rfl (.cell rfl rfl ty39 rfl rfl .nil) rfl ?_
  rfl
theorem implDeltaBetween (a b : List TPair) (ha : a.length ≤ 1073741824) (hb : b.length ≤ 1073741824) : FnT Try.prog 25 [.one (.sl 2 (a.map cPair)), .one (.sl 2 (b.map cPair))] (.a (.agg (cDelta (deltaB a b)))) := by
  refine FnT.walk Try.func25 rfl (by kernel_rfl) Try.ntmps25 rfl fun hlen w0 => ?_
  try simp [cPair, cToken, cExpr, cEdge, cGraph, cStep, cWalk, cChange, cBatch, cHistory, cPositions, cAutomaton, cProductStep, cPathAtom, cConjunction, cView, cDelta, cRegistered, cRegistry] at hlen
  refine AW.seq ?_
  -- region 0
  refine AW.region ?_
  refine AWl.add (R_alloc 4 rfl rfl rfl in39 rfl rfl rfl) rfl ?_
  refine AWl.nil ?_
  refine AW.seq ?_
  -- region 1
  refine AW.region ?_
  refine AWl.put (R_move rfl (.no rfl) rfl (.tmp rfl fun _ => rfl)) rfl ?_
  refine AWl.put (R_move rfl (.no rfl) rfl (.tmp rfl fun _ => rfl)) rfl ?_
  refine AWl.adds (R_call 700 (implSubtractPairs _ _ (by assumption)) rfl rfl rfl (.cons (.tmp rfl fun _ => rfl) rfl (.cons (.tmp rfl fun _ => rfl) rfl .nil)) rfl rfl) rfl ?_
  refine AWl.put (R_move rfl (.no rfl) rfl (.tmp rfl fun _ => rfl)) rfl ?_
  refine AWl.put (R_move rfl (.no rfl) rfl (.tmp rfl fun _ => rfl)) rfl ?_
  refine AWl.adds (R_call 1000 (implSubtractPairs _ _ (by assumption)) rfl rfl rfl (.cons (.tmp rfl fun _ => rfl) rfl (.cons (.tmp rfl fun _ => rfl) rfl .nil)) rfl rfl) rfl ?_
  refine AWl.put (R_build (ps := [(0, .tmp 7), (1, .tmp 10)]) rfl rfl rfl in39 rfl rfl st39 (.cons (.tmp rfl fun _ => rfl) rfl rfl fp39_0 (.cons (.tmp rfl fun _ => rfl) rfl rfl fp39_1 .nil)) rfl) rfl ?_
  refine AWl.chgb (R_store_pb rfl rfl rfl (.tmp rfl fun _ => rfl) (.tmp rfl fun _ => rfl) rfl ty39 rfl rfl rfl (by kernel_rfl) rfl) ?_
  refine AWl.nil ?_
  refine AW.ret ?_
  refine Res.one rfl (.cell rfl rfl ty39 rfl rfl .nil) rfl ?_
  rfl
end Go.Proofs.Ytjmefmdeghggeaa
