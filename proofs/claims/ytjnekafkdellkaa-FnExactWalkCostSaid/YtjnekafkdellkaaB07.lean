/- Walks: both texts. -/
import Derived.Test.YtjnekafkdellkaaB04
import Derived.Test.YtjnekafkdellkaaNil
set_option linter.unusedVariables false
set_option linter.unusedSimpArgs false
set_option maxHeartbeats 2000000
set_option maxRecDepth 100000
namespace Go.Q
open Go.D
def stepFrom (g : TGraph) (s : TStep) : Int := if (stepEdge g s).2 then (if s.Inverse then (stepEdge g s).1.To else (stepEdge g s).1.From) else -1
def stepTo (g : TGraph) (s : TStep) : Int := stepFrom g ⟨s.Edge, !s.Inverse⟩
def lastI (l : List Int) : Int := l[l.length - 1]?.getD 0
def nodesGo (g : TGraph) : List TStep → List Int → List Int × Bool
  | [], acc => (acc, true)
  | s :: r, acc => if stepFrom g s = lastI acc then nodesGo g r (acc ++ [stepTo g s]) else ([], false)
def walkOk (g : TGraph) (w : TWalk) : Bool := validG g && inB w.Start 0 (g.Values.length - 1) && decide (w.Steps.length ≤ 60)
def walkNodes (g : TGraph) (w : TWalk) : List Int × Bool := if walkOk g w then nodesGo g w.Steps [w.Start] else ([], false)
theorem nodesGo_drop {g : TGraph} {l : List TStep} {k : Nat} {s : TStep} {acc : List Int} (h : l[k]? = some s) : nodesGo g (l.drop k) acc = if stepFrom g s = lastI acc then nodesGo g (l.drop (k + 1)) (acc ++ [stepTo g s]) else ([], false) := by
  rw [drop_at h, nodesGo]
theorem lastI_snoc (l : List Int) (x : Int) : lastI (l ++ [x]) = x := by unfold lastI; simp
theorem lastI_at {l : List Int} (h : 0 < l.length) : l[((l.length : Int) - 1).toNat]? = some (lastI l) := by
  have e : ((l.length : Int) - 1).toNat = l.length - 1 := by omega
  rw [e]; exact getD_at (by omega)
theorem stepEdge_range {g : TGraph} {s : TStep} (h : (stepEdge g s).2 = true) : 0 ≤ (stepEdge g s).1.From ∧ 0 ≤ (stepEdge g s).1.To := by
  have := stepEdge_ok h
  unfold edgeOk inB at this
  simp only [Bool.and_eq_true, decide_eq_true_eq] at this
  omega
theorem stepFrom_nn {g : TGraph} {s : TStep} (h : (stepEdge g s).2 = true) : 0 ≤ stepFrom g s := by
  have := stepEdge_range h
  unfold stepFrom
  rw [if_pos h]
  split <;> omega
theorem stepEdge_inv (g : TGraph) (e : Int) (a b : Bool) : stepEdge g ⟨e, a⟩ = stepEdge g ⟨e, b⟩ := rfl
theorem stepFrom_yes {g : TGraph} {s : TStep} {k : Nat} {x : TEdge} (hv : validG g = true) (hx : g.Edges[k]? = some x) (hk : edgeIndex g s.Edge = (k : Int)) : stepFrom g s = (if s.Inverse then x.To else x.From) ∧ stepTo g s = (if s.Inverse then x.From else x.To) := by
  have h := stepEdge_yes hv hx hk
  have h2 : stepEdge g ⟨s.Edge, !s.Inverse⟩ = (x, true) := h
  unfold stepTo stepFrom
  rw [h, h2]
  cases s.Inverse <;> simp
theorem stepFrom_no {g : TGraph} {s : TStep} (hk : edgeIndex g s.Edge < 0) : stepFrom g s = -1 := by
  unfold stepFrom
  rw [stepEdge_no (.inr hk)]
  simp
theorem walkNodes_len {g : TGraph} {w : TWalk} (h : (walkNodes g w).2 = true) : w.Steps.length ≤ 60 := by
  unfold walkNodes at h
  split at h
  · rename_i h1
    unfold walkOk at h1
    simp only [Bool.and_eq_true, decide_eq_true_eq] at h1
    exact h1.2
  · cases h
def costsGo (g : TGraph) (l : List Int) : List TStep → Int → Int
  | [], n => n
  | s :: r, n => costsGo g l r (n + stepCost g l s)
def walkCost (g : TGraph) (l : List Int) (w : TWalk) : Int := if areCosts l && (walkNodes g w).2 then costsGo g l w.Steps 0 else -1
theorem costsGo_drop {g : TGraph} {c : List Int} {l : List TStep} {k : Nat} {s : TStep} {n : Int} (h : l[k]? = some s) : costsGo g c (l.drop k) n = costsGo g c (l.drop (k + 1)) (n + stepCost g c s) := by
  rw [drop_at h, costsGo]
theorem stepCost_range (g : TGraph) (l : List Int) (s : TStep) : -1 ≤ stepCost g l s ∧ stepCost g l s ≤ 9 := by
  unfold stepCost
  split
  · omega
  · rename_i h
    have hc : areCosts l = true := by simp at h; exact h.2
    unfold areCosts at hc
    simp only [Bool.and_eq_true, List.all_eq_true] at hc
    rcases Nat.lt_or_ge (stepLetter g s).toNat l.length with hl | hl
    · rw [List.getElem?_eq_getElem hl]
      have := hc.1 _ (List.getElem_mem hl)
      unfold inB at this
      simp only [Bool.and_eq_true, decide_eq_true_eq] at this
      simp only [Option.getD_some]
      omega
    · rw [List.getElem?_eq_none hl]; simp
end Go.Q
namespace Go.Proofs.Ytjnekafkdellkaa
open Go.RowKit Go.Q Go.D
theorem implStepFrom (g : TGraph) (s : TStep) : FnT Try.prog 156 [.agg (cGraph g), .agg (cStep s)] (.a (.one (.v (.int .i64 (stepFrom g s))))) := by
  refine FnT.walk Try.func156 rfl (by kernel_rfl) Try.ntmps156 rfl fun hlen w0 => ?_
  try simp [cPair, cToken, cExpr, cEdge, cGraph, cStep, cWalk, cChange, cBatch, cHistory, cPositions, cAutomaton, cProductStep, cPathAtom, cConjunction, cView, cDelta, cRegistered, cRegistry] at hlen
  refine AW.seq ?_
  -- region 0
  refine AW.region ?_
  refine AWl.put (R_boxz rfl rfl rfl (.tmp rfl fun _ => rfl) (ts := _) (by first | rfl | exact cells_t1 _ | exact cells_t2 _)) rfl ?_
  refine AWl.put (R_boxz rfl rfl rfl (.tmp rfl fun _ => rfl) (ts := _) (by first | rfl | exact cells_t1 _ | exact cells_t2 _)) rfl ?_
  refine AWl.put (R_assign rfl (.no rfl) rfl (.const rfl)) rfl ?_
  refine AWl.nil ?_
  refine AW.seq ?_
  -- region 1
  refine AW.region ?_
  refine AWl.put ((by first | exact R_load rfl (.no rfl) rfl (.tmp rfl fun _ => rfl) ty25 rfl rfl | exact R_load_pp rfl (.no rfl) rfl (.tmp rfl fun _ => rfl) rfl ty25 rfl rfl | exact R_load_vw rfl (.no rfl) rfl (.tmp rfl fun _ => rfl) ty25 rfl rfl | exact R_load_pr rfl (.no rfl) rfl (.tmp rfl fun _ => rfl) rfl (by first | assumption | exact map_get (by assumption)) ty25 rfl rfl)) rfl ?_
  refine AWl.put ((by first | exact R_load rfl (.no rfl) rfl (.tmp rfl fun _ => rfl) ty66 rfl rfl | exact R_load_pp rfl (.no rfl) rfl (.tmp rfl fun _ => rfl) rfl ty66 rfl rfl | exact R_load_vw rfl (.no rfl) rfl (.tmp rfl fun _ => rfl) ty66 rfl rfl | exact R_load_pr rfl (.no rfl) rfl (.tmp rfl fun _ => rfl) rfl (by first | assumption | exact map_get (by assumption)) ty66 rfl rfl)) rfl ?_
  refine AWl.adds (R_call 1000 (implstepEdge _ _) rfl rfl rfl (.cons (.tmp rfl fun _ => rfl) rfl (.cons (.tmp rfl fun _ => rfl) rfl .nil)) rfl rfl) rfl ?_
  refine AWl.put (R_movet rfl (.no rfl) rfl rfl fun _ => rfl) rfl ?_
  refine AWl.put (R_extract rfl (.no rfl) rfl rfl (fun _ => rfl) rfl) rfl ?_
  refine AWl.put (R_extract rfl (.no rfl) rfl rfl (fun _ => rfl) rfl) rfl ?_
  refine AWl.add (R_alloc 5 rfl rfl rfl in108 rfl rfl rfl) rfl ?_
  refine AWl.chgb (R_store_pb rfl rfl rfl (.tmp rfl fun _ => rfl) (.tmp rfl fun _ => rfl) rfl ty108 rfl rfl rfl rfl rfl) ?_
  refine AWl.put (R_assign rfl (.no rfl) rfl (.tmp rfl fun _ => rfl)) rfl ?_
  refine AWl.nil ?_
  refine AW.seq ?_
  refine AW.block ?_
  refine AW.seq ?_
  -- region 2
  refine AW.region ?_
  refine AWl.put (R_move rfl (.no rfl) rfl (.tmp rfl fun _ => rfl)) rfl ?_
  refine AWl.put (R_not rfl (.no rfl) rfl (.tmp rfl fun _ => rfl)) rfl ?_
  refine AWl.put (R_assign rfl (.no rfl) rfl (.tmp rfl fun _ => rfl)) rfl ?_
  refine AWl.nil ?_
  refine AW.cond (.tmp rfl fun _ => rfl) (fun h13 => ?_) (fun h13 => ?_)
  · skip
    try simp at h13
    refine AW.seq ?_
    -- region 3
    refine AW.region ?_
    refine AWl.put (R_assign rfl (.no rfl) rfl (.const rfl)) rfl ?_
    refine AWl.nil ?_
    refine AW.ret ?_
    refine Res.v rfl rfl ?_
    simp [stepFrom, h13]
  · skip
    try simp at h13
    refine AW.seq ?_
    -- region 4
    refine AW.region ?_
    refine AWl.put ((by first | exact R_fieldAddr rfl (.no rfl) rfl (.tmp rfl fun _ => rfl) fl66_1 | exact R_fieldAddr_pp rfl (.no rfl) rfl (.tmp rfl fun _ => rfl) fl66_1 | exact R_fieldAddr_vw rfl (.no rfl) rfl (.tmp rfl fun _ => rfl) fl66_1 | exact R_fieldAddr_pr rfl (.no rfl) rfl (.tmp rfl fun _ => rfl) fl66_1)) rfl ?_
    refine AWl.put ((by first | exact R_load rfl (.no rfl) rfl (.tmp rfl fun _ => rfl) ty4 rfl rfl | exact R_load_pp rfl (.no rfl) rfl (.tmp rfl fun _ => rfl) rfl ty4 rfl rfl | exact R_load_vw rfl (.no rfl) rfl (.tmp rfl fun _ => rfl) ty4 rfl rfl | exact R_load_pr rfl (.no rfl) rfl (.tmp rfl fun _ => rfl) rfl (by first | assumption | exact map_get (by assumption)) ty4 rfl rfl)) rfl ?_
    refine AWl.put (R_assign rfl (.no rfl) rfl (.tmp rfl fun _ => rfl)) rfl ?_
    refine AWl.nil ?_
    refine AW.cond (.tmp rfl fun _ => rfl) (fun h16 => ?_) (fun h16 => ?_)
    · skip
      try simp at h16
      refine AW.seq ?_
      -- region 5
      refine AW.region ?_
      refine AWl.put ((by first | exact R_fieldAddr rfl (.no rfl) rfl (.tmp rfl fun _ => rfl) fl108_2 | exact R_fieldAddr_pp rfl (.no rfl) rfl (.tmp rfl fun _ => rfl) fl108_2 | exact R_fieldAddr_vw rfl (.no rfl) rfl (.tmp rfl fun _ => rfl) fl108_2 | exact R_fieldAddr_pr rfl (.no rfl) rfl (.tmp rfl fun _ => rfl) fl108_2)) rfl ?_
      refine AWl.put ((by first | exact R_load rfl (.no rfl) rfl (.tmp rfl fun _ => rfl) ty3 rfl rfl | exact R_load_pp rfl (.no rfl) rfl (.tmp rfl fun _ => rfl) rfl ty3 rfl rfl | exact R_load_vw rfl (.no rfl) rfl (.tmp rfl fun _ => rfl) ty3 rfl rfl | exact R_load_pr rfl (.no rfl) rfl (.tmp rfl fun _ => rfl) rfl (by first | assumption | exact map_get (by assumption)) ty3 rfl rfl)) rfl ?_
      refine AWl.put (R_assign rfl (.no rfl) rfl (.tmp rfl fun _ => rfl)) rfl ?_
      refine AWl.nil ?_
      refine AW.ret ?_
      refine Res.v rfl rfl ?_
      simp [stepFrom, h13, h16]
    · skip
      try simp at h16
      refine AW.skip ?_
      refine AW.seq ?_
      -- region 6
      refine AW.region ?_
      refine AWl.put ((by first | exact R_fieldAddr rfl (.no rfl) rfl (.tmp rfl fun _ => rfl) fl108_1 | exact R_fieldAddr_pp rfl (.no rfl) rfl (.tmp rfl fun _ => rfl) fl108_1 | exact R_fieldAddr_vw rfl (.no rfl) rfl (.tmp rfl fun _ => rfl) fl108_1 | exact R_fieldAddr_pr rfl (.no rfl) rfl (.tmp rfl fun _ => rfl) fl108_1)) rfl ?_
      refine AWl.put ((by first | exact R_load rfl (.no rfl) rfl (.tmp rfl fun _ => rfl) ty3 rfl rfl | exact R_load_pp rfl (.no rfl) rfl (.tmp rfl fun _ => rfl) rfl ty3 rfl rfl | exact R_load_vw rfl (.no rfl) rfl (.tmp rfl fun _ => rfl) ty3 rfl rfl | exact R_load_pr rfl (.no rfl) rfl (.tmp rfl fun _ => rfl) rfl (by first | assumption | exact map_get (by assumption)) ty3 rfl rfl)) rfl ?_
      refine AWl.put (R_assign rfl (.no rfl) rfl (.tmp rfl fun _ => rfl)) rfl ?_
      refine AWl.nil ?_
      refine AW.ret ?_
      refine Res.v rfl rfl ?_
      simp [stepFrom, h13, h16]
theorem implStepTo (g : TGraph) (s : TStep) : FnT Try.prog 157 [.agg (cGraph g), .agg (cStep s)] (.a (.one (.v (.int .i64 (stepTo g s))))) := by
  refine FnT.walk Try.func157 rfl (by kernel_rfl) Try.ntmps157 rfl fun hlen w0 => ?_
  try simp [cPair, cToken, cExpr, cEdge, cGraph, cStep, cWalk, cChange, cBatch, cHistory, cPositions, cAutomaton, cProductStep, cPathAtom, cConjunction, cView, cDelta, cRegistered, cRegistry] at hlen
  refine AW.seq ?_
  -- region 0
  refine AW.region ?_
  refine AWl.put (R_boxz rfl rfl rfl (.tmp rfl fun _ => rfl) (ts := _) (by first | rfl | exact cells_t1 _ | exact cells_t2 _)) rfl ?_
  refine AWl.put (R_boxz rfl rfl rfl (.tmp rfl fun _ => rfl) (ts := _) (by first | rfl | exact cells_t1 _ | exact cells_t2 _)) rfl ?_
  refine AWl.put (R_assign rfl (.no rfl) rfl (.const rfl)) rfl ?_
  refine AWl.nil ?_
  refine AW.seq ?_
  -- region 1
  refine AW.region ?_
  refine AWl.put ((by first | exact R_load rfl (.no rfl) rfl (.tmp rfl fun _ => rfl) ty25 rfl rfl | exact R_load_pp rfl (.no rfl) rfl (.tmp rfl fun _ => rfl) rfl ty25 rfl rfl | exact R_load_vw rfl (.no rfl) rfl (.tmp rfl fun _ => rfl) ty25 rfl rfl | exact R_load_pr rfl (.no rfl) rfl (.tmp rfl fun _ => rfl) rfl (by first | assumption | exact map_get (by assumption)) ty25 rfl rfl)) rfl ?_
  refine AWl.put ((by first | exact R_fieldAddr rfl (.no rfl) rfl (.tmp rfl fun _ => rfl) fl66_0 | exact R_fieldAddr_pp rfl (.no rfl) rfl (.tmp rfl fun _ => rfl) fl66_0 | exact R_fieldAddr_vw rfl (.no rfl) rfl (.tmp rfl fun _ => rfl) fl66_0 | exact R_fieldAddr_pr rfl (.no rfl) rfl (.tmp rfl fun _ => rfl) fl66_0)) rfl ?_
  refine AWl.put ((by first | exact R_load rfl (.no rfl) rfl (.tmp rfl fun _ => rfl) ty3 rfl rfl | exact R_load_pp rfl (.no rfl) rfl (.tmp rfl fun _ => rfl) rfl ty3 rfl rfl | exact R_load_vw rfl (.no rfl) rfl (.tmp rfl fun _ => rfl) ty3 rfl rfl | exact R_load_pr rfl (.no rfl) rfl (.tmp rfl fun _ => rfl) rfl (by first | assumption | exact map_get (by assumption)) ty3 rfl rfl)) rfl ?_
  refine AWl.put ((by first | exact R_fieldAddr rfl (.no rfl) rfl (.tmp rfl fun _ => rfl) fl66_1 | exact R_fieldAddr_pp rfl (.no rfl) rfl (.tmp rfl fun _ => rfl) fl66_1 | exact R_fieldAddr_vw rfl (.no rfl) rfl (.tmp rfl fun _ => rfl) fl66_1 | exact R_fieldAddr_pr rfl (.no rfl) rfl (.tmp rfl fun _ => rfl) fl66_1)) rfl ?_
  refine AWl.put ((by first | exact R_load rfl (.no rfl) rfl (.tmp rfl fun _ => rfl) ty4 rfl rfl | exact R_load_pp rfl (.no rfl) rfl (.tmp rfl fun _ => rfl) rfl ty4 rfl rfl | exact R_load_vw rfl (.no rfl) rfl (.tmp rfl fun _ => rfl) ty4 rfl rfl | exact R_load_pr rfl (.no rfl) rfl (.tmp rfl fun _ => rfl) rfl (by first | assumption | exact map_get (by assumption)) ty4 rfl rfl)) rfl ?_
  refine AWl.put (R_not rfl (.no rfl) rfl (.tmp rfl fun _ => rfl)) rfl ?_
  refine AWl.put (R_build (ps := [(0, .tmp 7), (1, .tmp 10)]) rfl rfl rfl in66 rfl rfl st66 (.cons (.tmp rfl fun _ => rfl) rfl rfl fp66_0 (.cons (.tmp rfl fun _ => rfl) rfl rfl fp66_1 .nil)) rfl) rfl ?_
  refine AWl.put (R_callz (FnT.fr (implStepFrom g ⟨s.Edge, !s.Inverse⟩)) rfl (.no rfl) rfl (.cons (.tmp rfl fun _ => rfl) rfl (.cons (.tmp rfl fun _ => rfl) rfl .nil))) rfl ?_
  refine AWl.put (R_assign rfl (.no rfl) rfl (.tmp rfl fun _ => rfl)) rfl ?_
  refine AWl.nil ?_
  refine AW.ret ?_
  refine Res.v rfl rfl ?_
  rfl
theorem implnodesOf (g : TGraph) (w : TWalk) : FnT Try.prog 147 [.agg (cGraph g), .agg (cWalk w)] (.tup [.one (.sl 1 ((walkNodes g w).1.map cInt)), .one (.v (.bool (walkNodes g w).2))]) := by
  refine FnT.walk Try.func147 rfl (by kernel_rfl) Try.ntmps147 rfl fun hlen w0 => ?_
  try simp [cPair, cToken, cExpr, cEdge, cGraph, cStep, cWalk, cChange, cBatch, cHistory, cPositions, cAutomaton, cProductStep, cPathAtom, cConjunction, cView, cDelta, cRegistered, cRegistry] at hlen
  refine AW.seq ?_
  -- region 0
  refine AW.region ?_
  refine AWl.put (R_boxz rfl rfl rfl (.tmp rfl fun _ => rfl) (ts := _) (by first | rfl | exact cells_t1 _ | exact cells_t2 _)) rfl ?_
  refine AWl.put (R_boxz rfl rfl rfl (.tmp rfl fun _ => rfl) (ts := _) (by first | rfl | exact cells_t1 _ | exact cells_t2 _)) rfl ?_
  refine AWl.put (R_assign rfl (.no rfl) rfl (.const rfl)) rfl ?_
  refine AWl.nilS (i := 4) 20001 1 rfl rfl ?_
  refine AWl.put (R_assign rfl (.no rfl) rfl (.const rfl)) rfl ?_
  refine AWl.nil ?_
  refine AW.seq ?_
  refine AW.seq ?_
  -- region 1
  refine AW.region ?_
  refine AWl.put ((by first | exact R_load rfl (.no rfl) rfl (.tmp rfl fun _ => rfl) ty25 rfl rfl | exact R_load_pp rfl (.no rfl) rfl (.tmp rfl fun _ => rfl) rfl ty25 rfl rfl | exact R_load_vw rfl (.no rfl) rfl (.tmp rfl fun _ => rfl) ty25 rfl rfl | exact R_load_pr rfl (.no rfl) rfl (.tmp rfl fun _ => rfl) rfl (by first | assumption | exact map_get (by assumption)) ty25 rfl rfl)) rfl ?_
  refine AWl.put (R_callz (FnT.fr (implIsValidGraph _)) rfl (.no rfl) rfl (.cons (.tmp rfl fun _ => rfl) rfl .nil)) rfl ?_
  refine AWl.put (R_not rfl (.no rfl) rfl (.tmp rfl fun _ => rfl)) rfl ?_
  refine AWl.put (R_move rfl (.no rfl) rfl (.tmp rfl fun _ => rfl)) rfl ?_
  refine AWl.put ((by first | exact R_fieldAddr rfl (by first | exact .not1 rfl rfl rfl rfl | exact .not rfl rfl rfl rfl) rfl (.tmp rfl (by first | exact fun _ => rfl | exact id | simp)) fl100_0 | exact R_fieldAddr_pp rfl (by first | exact .not1 rfl rfl rfl rfl | exact .not rfl rfl rfl rfl) rfl (.tmp rfl (by first | exact fun _ => rfl | exact id | simp)) fl100_0 | exact R_fieldAddr_vw rfl (by first | exact .not1 rfl rfl rfl rfl | exact .not rfl rfl rfl rfl) rfl (.tmp rfl (by first | exact fun _ => rfl | exact id | simp)) fl100_0 | exact R_fieldAddr_pr rfl (by first | exact .not1 rfl rfl rfl rfl | exact .not rfl rfl rfl rfl) rfl (.tmp rfl (by first | exact fun _ => rfl | exact id | simp)) fl100_0)) rfl ?_
  refine AWl.put ((by first | exact R_load rfl (by first | exact .not1 rfl rfl rfl rfl | exact .not rfl rfl rfl rfl) rfl (.tmp rfl (by first | exact fun _ => rfl | exact id | simp)) ty3 rfl rfl | exact R_load_pp rfl (by first | exact .not1 rfl rfl rfl rfl | exact .not rfl rfl rfl rfl) rfl (.tmp rfl (by first | exact fun _ => rfl | exact id | simp)) rfl ty3 rfl rfl | exact R_load_vw rfl (by first | exact .not1 rfl rfl rfl rfl | exact .not rfl rfl rfl rfl) rfl (.tmp rfl (by first | exact fun _ => rfl | exact id | simp)) ty3 rfl rfl | exact R_load_pr rfl (by first | exact .not1 rfl rfl rfl rfl | exact .not rfl rfl rfl rfl) rfl (.tmp rfl (by first | exact fun _ => rfl | exact id | simp)) rfl (by first | assumption | exact map_get (by assumption)) ty3 rfl rfl)) rfl ?_
  refine AWl.put ((by first | exact R_fieldAddr rfl (by first | exact .not1 rfl rfl rfl rfl | exact .not rfl rfl rfl rfl) rfl (.tmp rfl (by first | exact fun _ => rfl | exact id | simp)) fl25_0 | exact R_fieldAddr_pp rfl (by first | exact .not1 rfl rfl rfl rfl | exact .not rfl rfl rfl rfl) rfl (.tmp rfl (by first | exact fun _ => rfl | exact id | simp)) fl25_0 | exact R_fieldAddr_vw rfl (by first | exact .not1 rfl rfl rfl rfl | exact .not rfl rfl rfl rfl) rfl (.tmp rfl (by first | exact fun _ => rfl | exact id | simp)) fl25_0 | exact R_fieldAddr_pr rfl (by first | exact .not1 rfl rfl rfl rfl | exact .not rfl rfl rfl rfl) rfl (.tmp rfl (by first | exact fun _ => rfl | exact id | simp)) fl25_0)) rfl ?_
  refine AWl.put ((by first | exact R_load rfl (by first | exact .not1 rfl rfl rfl rfl | exact .not rfl rfl rfl rfl) rfl (.tmp rfl (by first | exact fun _ => rfl | exact id | simp)) ty22 rfl rfl | exact R_load_pp rfl (by first | exact .not1 rfl rfl rfl rfl | exact .not rfl rfl rfl rfl) rfl (.tmp rfl (by first | exact fun _ => rfl | exact id | simp)) rfl ty22 rfl rfl | exact R_load_vw rfl (by first | exact .not1 rfl rfl rfl rfl | exact .not rfl rfl rfl rfl) rfl (.tmp rfl (by first | exact fun _ => rfl | exact id | simp)) ty22 rfl rfl | exact R_load_pr rfl (by first | exact .not1 rfl rfl rfl rfl | exact .not rfl rfl rfl rfl) rfl (.tmp rfl (by first | exact fun _ => rfl | exact id | simp)) rfl (by first | assumption | exact map_get (by assumption)) ty22 rfl rfl)) rfl ?_
  refine AWl.put ((by first | exact R_lenm rfl (by first | exact .not1 rfl rfl rfl rfl | exact .not rfl rfl rfl rfl) rfl (.tmp rfl (by first | exact fun _ => rfl | exact id | simp)) (by first | exact .t | exact .rf rfl | exact .vw | exact .nil) Try.underlying22 | exact R_len rfl (by first | exact .not1 rfl rfl rfl rfl | exact .not rfl rfl rfl rfl) rfl (.tmp rfl (by first | exact fun _ => rfl | exact id | simp)) (by first | exact .t | exact .rf rfl | exact .vw | exact .nil) Try.underlying22)) rfl ?_
  refine AWl.put (R_sub rfl (by first | exact .not1 rfl rfl rfl rfl | exact .not rfl rfl rfl rfl) rfl (.tmp rfl (by first | exact fun _ => rfl | exact id | simp)) (.const rfl) (fun hq => by first | omega | (simp at hq; omega))) rfl ?_
  refine AWl.put (R_callz (FnT.fr (implwithin _ _ _)) rfl (by first | exact .not1 rfl rfl rfl rfl | exact .not rfl rfl rfl rfl) rfl (.cons (.tmp rfl (by first | exact fun _ => rfl | exact id | simp)) rfl (.cons (.const rfl) rfl (.cons (.tmp rfl (by first | exact fun _ => rfl | exact id | simp)) rfl .nil)))) rfl ?_
  refine AWl.put (R_not rfl (by first | exact .not1 rfl rfl rfl rfl | exact .not rfl rfl rfl rfl) rfl (.tmp rfl (by first | exact fun _ => rfl | exact id | simp))) rfl ?_
  refine AWl.put (R_or rfl (.no rfl) rfl (.tmp rfl fun _ => rfl) (.tmp rfl (by first | exact fun _ => rfl | exact id | simp))) rfl ?_
  refine AWl.put (R_move rfl (.no rfl) rfl (.tmp rfl fun _ => rfl)) rfl ?_
  refine AWl.put ((by first | exact R_fieldAddr rfl (by first | exact .not1 rfl rfl rfl rfl | exact .not rfl rfl rfl rfl) rfl (.tmp rfl (by first | exact fun _ => rfl | exact id | simp)) fl100_1 | exact R_fieldAddr_pp rfl (by first | exact .not1 rfl rfl rfl rfl | exact .not rfl rfl rfl rfl) rfl (.tmp rfl (by first | exact fun _ => rfl | exact id | simp)) fl100_1 | exact R_fieldAddr_vw rfl (by first | exact .not1 rfl rfl rfl rfl | exact .not rfl rfl rfl rfl) rfl (.tmp rfl (by first | exact fun _ => rfl | exact id | simp)) fl100_1 | exact R_fieldAddr_pr rfl (by first | exact .not1 rfl rfl rfl rfl | exact .not rfl rfl rfl rfl) rfl (.tmp rfl (by first | exact fun _ => rfl | exact id | simp)) fl100_1)) rfl ?_
  refine AWl.put ((by first | exact R_load rfl (by first | exact .not1 rfl rfl rfl rfl | exact .not rfl rfl rfl rfl) rfl (.tmp rfl (by first | exact fun _ => rfl | exact id | simp)) ty98 rfl rfl | exact R_load_pp rfl (by first | exact .not1 rfl rfl rfl rfl | exact .not rfl rfl rfl rfl) rfl (.tmp rfl (by first | exact fun _ => rfl | exact id | simp)) rfl ty98 rfl rfl | exact R_load_vw rfl (by first | exact .not1 rfl rfl rfl rfl | exact .not rfl rfl rfl rfl) rfl (.tmp rfl (by first | exact fun _ => rfl | exact id | simp)) ty98 rfl rfl | exact R_load_pr rfl (by first | exact .not1 rfl rfl rfl rfl | exact .not rfl rfl rfl rfl) rfl (.tmp rfl (by first | exact fun _ => rfl | exact id | simp)) rfl (by first | assumption | exact map_get (by assumption)) ty98 rfl rfl)) rfl ?_
  refine AWl.put ((by first | exact R_lenm rfl (by first | exact .not1 rfl rfl rfl rfl | exact .not rfl rfl rfl rfl) rfl (.tmp rfl (by first | exact fun _ => rfl | exact id | simp)) (by first | exact .t | exact .rf rfl | exact .vw | exact .nil) Try.underlying98 | exact R_len rfl (by first | exact .not1 rfl rfl rfl rfl | exact .not rfl rfl rfl rfl) rfl (.tmp rfl (by first | exact fun _ => rfl | exact id | simp)) (by first | exact .t | exact .rf rfl | exact .vw | exact .nil) Try.underlying98)) rfl ?_
  refine AWl.put (R_gt rfl (by first | exact .not1 rfl rfl rfl rfl | exact .not rfl rfl rfl rfl) rfl (.tmp rfl (by first | exact fun _ => rfl | exact id | simp)) (.const rfl)) rfl ?_
  refine AWl.put (R_or rfl (.no rfl) rfl (.tmp rfl fun _ => rfl) (.tmp rfl (by first | exact fun _ => rfl | exact id | simp))) rfl ?_
  refine AWl.nil ?_
  refine AW.cond (.tmp rfl fun _ => rfl) (fun h27 => ?_) (fun h27 => ?_)
  · skip
    try simp at h27
    have hw : walkOk g w = false := by unfold walkOk; grind
    refine AW.seq ?_
    -- region 2
    refine AW.region ?_
    refine AWl.put (R_assign rfl (.no rfl) rfl (.const rfl)) rfl ?_
    refine AWl.nilS (i := 4) 20002 1 rfl rfl ?_
    refine AWl.put (R_assign rfl (.no rfl) rfl (.const rfl)) rfl ?_
    refine AWl.nil ?_
    refine AW.ret ?_
    refine Res.many rfl (.tmp rfl (.tmp rfl .nil)) rfl ?_ (by simp)
    unfold walkNodes; rw [hw]; rfl
  · skip
    try simp at h27
    have hw : walkOk g w = true := by unfold walkOk; grind
    refine AW.skip ?_
    refine AW.seq ?_
    -- region 3
    refine AW.region ?_
    refine AWl.put ((by first | exact R_fieldAddr rfl (.no rfl) rfl (.tmp rfl fun _ => rfl) fl100_0 | exact R_fieldAddr_pp rfl (.no rfl) rfl (.tmp rfl fun _ => rfl) fl100_0 | exact R_fieldAddr_vw rfl (.no rfl) rfl (.tmp rfl fun _ => rfl) fl100_0 | exact R_fieldAddr_pr rfl (.no rfl) rfl (.tmp rfl fun _ => rfl) fl100_0)) rfl ?_
    refine AWl.put ((by first | exact R_load rfl (.no rfl) rfl (.tmp rfl fun _ => rfl) ty3 rfl rfl | exact R_load_pp rfl (.no rfl) rfl (.tmp rfl fun _ => rfl) rfl ty3 rfl rfl | exact R_load_vw rfl (.no rfl) rfl (.tmp rfl fun _ => rfl) ty3 rfl rfl | exact R_load_pr rfl (.no rfl) rfl (.tmp rfl fun _ => rfl) rfl (by first | assumption | exact map_get (by assumption)) ty3 rfl rfl)) rfl ?_
    refine AWl.absadd (R_list (xs := [.tmp 29]) 30 rfl rfl rfl (.cons (.tmp rfl fun _ => rfl) rfl rfl .nil) Try.underlying22 in3 rfl rfl rfl rfl) rfl ?_
    refine AWl.put (R_assign rfl (.no rfl) rfl (.tmp rfl fun _ => rfl)) rfl ?_
    refine AWl.nil ?_
    refine AW.seq ?_
    refine AW.seq ?_
    -- region 4
    refine AW.region ?_
    refine AWl.put ((by first | exact R_fieldAddr rfl (.no rfl) rfl (.tmp rfl fun _ => rfl) fl100_1 | exact R_fieldAddr_pp rfl (.no rfl) rfl (.tmp rfl fun _ => rfl) fl100_1 | exact R_fieldAddr_vw rfl (.no rfl) rfl (.tmp rfl fun _ => rfl) fl100_1 | exact R_fieldAddr_pr rfl (.no rfl) rfl (.tmp rfl fun _ => rfl) fl100_1)) rfl ?_
    refine AWl.put ((by first | exact R_load rfl (.no rfl) rfl (.tmp rfl fun _ => rfl) ty98 rfl rfl | exact R_load_pp rfl (.no rfl) rfl (.tmp rfl fun _ => rfl) rfl ty98 rfl rfl | exact R_load_vw rfl (.no rfl) rfl (.tmp rfl fun _ => rfl) ty98 rfl rfl | exact R_load_pr rfl (.no rfl) rfl (.tmp rfl fun _ => rfl) rfl (by first | assumption | exact map_get (by assumption)) ty98 rfl rfl)) rfl ?_
    refine AWl.put ((by first | exact R_lenm rfl (.no rfl) rfl (.tmp rfl fun _ => rfl) (by first | exact .t | exact .rf rfl | exact .vw | exact .nil) Try.underlying98 | exact R_len rfl (.no rfl) rfl (.tmp rfl fun _ => rfl) (by first | exact .t | exact .rf rfl | exact .vw | exact .nil) Try.underlying98)) rfl ?_
    refine AWl.put (R_move rfl (.no rfl) rfl (.const rfl)) rfl ?_
    refine AWl.nil ?_
    refine AW.block ?_
    refine AW.loop2 (fun (k : Nat) (acc : List Int) => (k ≤ w.Steps.length ∧ 0 < acc.length ∧ acc.length ≤ k + 1) ∧ nodesGo g w.Steps [w.Start] = nodesGo g (w.Steps.drop k) acc) (fun (k : Nat) (acc : List Int) => ⟨_, [(34, (true, .a (.one (.t (.v (.int .i64 (k : Nat))))))), (6, (true, .a (.one (.rf 30)))), (2, _), (32, _), (33, _)], [(30, .row 1 (acc.map cInt))]⟩) (fun (k : Nat) (acc : List Int) => w.Steps.length - k) (0) ([w.Start]) ⟨by simp, rfl⟩ (Le.sub0 rfl ⟨rfl, rfl, rfl, rfl, rfl, trivial⟩ ⟨rfl, trivial⟩) ?_
    rintro k acc ⟨hk, he⟩
    refine AW.seq ?_
    -- region 5
    refine AW.region ?_
    refine AWl.put (R_lt rfl (.no rfl) rfl (.tmp rfl fun _ => rfl) (.tmp rfl fun _ => rfl)) rfl ?_
    refine AWl.nil ?_
    refine AW.seq ?_
    refine AW.cond (.tmp rfl fun _ => rfl) (fun hlt => ?_) (fun hlt => ?_)
    · skip
      try simp at hlt
      obtain ⟨s, hst1⟩ : ∃ s, w.Steps[k]? = some s := ⟨_, List.getElem?_eq_getElem hlt⟩
      rw [nodesGo_drop hst1] at he
      have hrow := map_get (f := cInt) (lastI_at (l := acc) (by omega))
      refine AW.skip ?_
      refine AW.seq ?_
      refine AW.block ?_
      refine AW.seq ?_
      -- region 6
      refine AW.region ?_
      refine AWl.put ((by first | exact R_indexAddr rfl (.no rfl) rfl (.tmp rfl fun _ => rfl) (.tmp rfl fun _ => rfl) Try.underlying98 ty66 (fun _ => ⟨by omega, (by first | assumption | exact map_get (by assumption))⟩) | exact R_indexAddr_vw rfl (.no rfl) rfl (.tmp rfl fun _ => rfl) (.tmp rfl fun _ => rfl) Try.underlying98 ty66 (fun _ => ⟨by omega, (by first | assumption | exact map_get (by assumption))⟩) | exact R_indexAddr_rf rfl (.no rfl) rfl (.tmp rfl fun _ => rfl) rfl (.tmp rfl fun _ => rfl) Try.underlying98 ty66 (fun _ => ⟨by omega, (by first | assumption | exact map_get (by assumption))⟩))) rfl ?_
      refine AWl.put ((by first | exact R_load rfl (.no rfl) rfl (.tmp rfl fun _ => rfl) ty66 rfl rfl | exact R_load_pp rfl (.no rfl) rfl (.tmp rfl fun _ => rfl) rfl ty66 rfl rfl | exact R_load_vw rfl (.no rfl) rfl (.tmp rfl fun _ => rfl) ty66 rfl rfl | exact R_load_pr rfl (.no rfl) rfl (.tmp rfl fun _ => rfl) rfl (by first | assumption | exact map_get (by assumption)) ty66 rfl rfl)) rfl ?_
      refine AWl.add (R_alloc 8 rfl rfl rfl in66 rfl rfl rfl) rfl ?_
      refine AWl.chgb (R_store_pb rfl rfl rfl (.tmp rfl fun _ => rfl) (.tmp rfl fun _ => rfl) rfl ty66 rfl rfl rfl rfl rfl) ?_
      refine AWl.nil ?_
      refine AW.seq ?_
      refine AW.seq ?_
      -- region 7
      refine AW.drawn 10 (nthB [[], [], [0, 1], [], [], [4], [4, 5], [3, 4, 5, 6], [3, 4, 5, 6, 7], [0, 1, 2, 3, 4, 5, 6, 7, 8]]) (by kernel_rfl) (by kernel_rfl) (by kernel_rfl) ?_
      refine DrawC.step rfl rfl rfl (Loc.of rfl fun σ' hs => (by first | exact R_load rfl (.no rfl) (hd_sup hs rfl) (.tmp (hs.slots _ _ rfl) fun _ => rfl) ty25 rfl rfl | exact R_load_pp rfl (.no rfl) (hd_sup hs rfl) (.tmp (hs.slots _ _ rfl) fun _ => rfl) (hs.res _ _ rfl) ty25 rfl rfl | exact R_load_vw rfl (.no rfl) (hd_sup hs rfl) (.tmp (hs.slots _ _ rfl) fun _ => rfl) ty25 rfl rfl | exact R_load_pr rfl (.no rfl) (hd_sup hs rfl) (.tmp (hs.slots _ _ rfl) fun _ => rfl) (hs.res _ _ rfl) (by first | assumption | exact map_get (by assumption)) ty25 rfl rfl)) ?_
      refine DrawC.step rfl rfl rfl (Loc.of rfl fun σ' hs => (by first | exact R_load rfl (.no rfl) (hd_sup hs rfl) (.tmp (hs.slots _ _ rfl) fun _ => rfl) ty66 rfl rfl | exact R_load_pp rfl (.no rfl) (hd_sup hs rfl) (.tmp (hs.slots _ _ rfl) fun _ => rfl) (hs.res _ _ rfl) ty66 rfl rfl | exact R_load_vw rfl (.no rfl) (hd_sup hs rfl) (.tmp (hs.slots _ _ rfl) fun _ => rfl) ty66 rfl rfl | exact R_load_pr rfl (.no rfl) (hd_sup hs rfl) (.tmp (hs.slots _ _ rfl) fun _ => rfl) (hs.res _ _ rfl) (by first | assumption | exact map_get (by assumption)) ty66 rfl rfl)) ?_
      refine DrawC.step rfl rfl rfl (Loc.of rfl fun σ' hs => R_callz (FnT.fr (implStepFrom _ _)) rfl (.no rfl) (hd_sup hs rfl) (.cons (.tmp (hs.slots _ _ rfl) fun _ => rfl) (readA_sup hs rfl) (.cons (.tmp (hs.slots _ _ rfl) fun _ => rfl) (readA_sup hs rfl) .nil))) ?_
      refine DrawC.step rfl rfl rfl (Loc.of rfl fun σ' hs => R_move rfl (.no rfl) (hd_sup hs rfl) (.tmp (hs.slots _ _ rfl) fun _ => rfl)) ?_
      refine DrawC.step rfl rfl rfl (Loc.of rfl fun σ' hs => R_move rfl (.no rfl) (hd_sup hs rfl) (.tmp (hs.slots _ _ rfl) fun _ => rfl)) ?_
      refine DrawC.step rfl rfl rfl (Loc.of rfl fun σ' hs => (by first | exact R_lenm rfl (.no rfl) (hd_sup hs rfl) (.tmp (hs.slots _ _ rfl) fun _ => rfl) (by first | exact .t | exact .rf (hs.res _ _ rfl) | exact .vw | exact .nil) Try.underlying22 | exact R_len rfl (.no rfl) (hd_sup hs rfl) (.tmp (hs.slots _ _ rfl) fun _ => rfl) (by first | exact .t | exact .rf (hs.res _ _ rfl) | exact .vw | exact .nil) Try.underlying22)) ?_
      refine DrawC.step rfl rfl rfl (Loc.of rfl fun σ' hs => R_sub rfl (.no rfl) (hd_sup hs rfl) (.tmp (hs.slots _ _ rfl) fun _ => rfl) (.const rfl) (fun _ => by omega)) ?_
      refine DrawC.step rfl rfl rfl (Loc.of rfl fun σ' hs => (by first | exact R_indexAddr rfl (.no rfl) (hd_sup hs rfl) (.tmp (hs.slots _ _ rfl) fun _ => rfl) (.tmp (hs.slots _ _ rfl) fun _ => rfl) Try.underlying22 ty3 (fun _ => ⟨by omega, (by first | assumption | exact map_get (by assumption))⟩) | exact R_indexAddr_vw rfl (.no rfl) (hd_sup hs rfl) (.tmp (hs.slots _ _ rfl) fun _ => rfl) (.tmp (hs.slots _ _ rfl) fun _ => rfl) Try.underlying22 ty3 (fun _ => ⟨by omega, (by first | assumption | exact map_get (by assumption))⟩) | exact R_indexAddr_rf rfl (.no rfl) (hd_sup hs rfl) (.tmp (hs.slots _ _ rfl) fun _ => rfl) (hs.res _ _ rfl) (.tmp (hs.slots _ _ rfl) fun _ => rfl) Try.underlying22 ty3 (fun _ => ⟨by omega, (by first | assumption | exact map_get (by assumption))⟩))) ?_
      refine DrawC.step rfl rfl rfl (Loc.of rfl fun σ' hs => (by first | exact R_load rfl (.no rfl) (hd_sup hs rfl) (.tmp (hs.slots _ _ rfl) fun _ => rfl) ty3 rfl rfl | exact R_load_pp rfl (.no rfl) (hd_sup hs rfl) (.tmp (hs.slots _ _ rfl) fun _ => rfl) (hs.res _ _ rfl) ty3 rfl rfl | exact R_load_vw rfl (.no rfl) (hd_sup hs rfl) (.tmp (hs.slots _ _ rfl) fun _ => rfl) ty3 rfl rfl | exact R_load_pr rfl (.no rfl) (hd_sup hs rfl) (.tmp (hs.slots _ _ rfl) fun _ => rfl) (hs.res _ _ rfl) (by first | assumption | exact map_get (by assumption)) ty3 rfl rfl)) ?_
      refine DrawC.step rfl rfl rfl (Loc.of rfl fun σ' hs => R_ne rfl (.no rfl) (hd_sup hs rfl) (.tmp (hs.slots _ _ rfl) fun _ => rfl) (.tmp (hs.slots _ _ rfl) fun _ => rfl)) ?_
      refine DrawC.fin rfl rfl ?_
      refine AWl.nil ?_
      refine AW.cond (.tmp rfl fun _ => rfl) (fun h47 => ?_) (fun h47 => ?_)
      · skip
        try simp at h47
        refine AW.seq ?_
        -- region 8
        refine AW.region ?_
        refine AWl.put (R_assign rfl (.no rfl) rfl (.const rfl)) rfl ?_
        refine AWl.nilS (i := 4) 20003 1 rfl rfl ?_
        refine AWl.put (R_assign rfl (.no rfl) rfl (.const rfl)) rfl ?_
        refine AWl.nil ?_
        refine AW.ret ?_
        refine Res.many rfl (.tmp rfl (.tmp rfl .nil)) rfl ?_ (by simp)
        unfold walkNodes; rw [hw, if_pos rfl, he, if_neg h47]; rfl
      · skip
        try simp at h47
        refine AW.skip ?_
        -- region 9
        refine AW.region ?_
        refine AWl.put (R_move rfl (.no rfl) rfl (.tmp rfl fun _ => rfl)) rfl ?_
        refine AWl.put ((by first | exact R_load rfl (.no rfl) rfl (.tmp rfl fun _ => rfl) ty25 rfl rfl | exact R_load_pp rfl (.no rfl) rfl (.tmp rfl fun _ => rfl) rfl ty25 rfl rfl | exact R_load_vw rfl (.no rfl) rfl (.tmp rfl fun _ => rfl) ty25 rfl rfl | exact R_load_pr rfl (.no rfl) rfl (.tmp rfl fun _ => rfl) rfl (by first | assumption | exact map_get (by assumption)) ty25 rfl rfl)) rfl ?_
        refine AWl.put ((by first | exact R_load rfl (.no rfl) rfl (.tmp rfl fun _ => rfl) ty66 rfl rfl | exact R_load_pp rfl (.no rfl) rfl (.tmp rfl fun _ => rfl) rfl ty66 rfl rfl | exact R_load_vw rfl (.no rfl) rfl (.tmp rfl fun _ => rfl) ty66 rfl rfl | exact R_load_pr rfl (.no rfl) rfl (.tmp rfl fun _ => rfl) rfl (by first | assumption | exact map_get (by assumption)) ty66 rfl rfl)) rfl ?_
        refine AWl.put (R_callz (FnT.fr (implStepTo _ _)) rfl (.no rfl) rfl (.cons (.tmp rfl fun _ => rfl) rfl (.cons (.tmp rfl fun _ => rfl) rfl .nil))) rfl ?_
        refine AWl.absadd (R_list (xs := [.tmp 51]) 52 rfl rfl rfl (.cons (.tmp rfl fun _ => rfl) rfl rfl .nil) Try.underlying22 in3 rfl rfl rfl rfl) rfl ?_
        refine AWl.abschgput (R_append_own rfl rfl rfl (.tmp rfl fun _ => rfl) rfl (.tmp rfl fun _ => rfl) rfl rfl Try.underlying22 in3 rfl (by first | omega | (simp [chunk]; omega)) (by first | omega | (unfold maxLen; omega) | (unfold maxLen; simp [chunk]; omega))) rfl ?_
        refine AWl.put (R_assign rfl (.no rfl) rfl (.tmp rfl fun _ => rfl)) rfl ?_
        refine AWl.nil ?_
        -- region 10
        refine AW.region ?_
        refine AWl.put (R_add rfl (.no rfl) rfl (.tmp rfl fun _ => rfl) (.const rfl) (fun _ => by omega)) rfl ?_
        refine AWl.put (R_move rfl (.no rfl) rfl (.tmp rfl fun _ => rfl)) rfl ?_
        refine AWl.nil ?_
        refine Round2.next (k + 1) (acc ++ [stepTo g s]) ⟨by simp; omega, by rw [he, if_pos (by simpa using h47)]⟩ (by omega) (Le.sub0 rfl ⟨rfl, rfl, rfl, rfl, rfl, trivial⟩ ⟨congrArg (fun r => some (R.row 1 r)) (by simp [cInt, chunk]), trivial⟩)
    · skip
      try simp at hlt
      refine AW.exit ?_
      refine AW.seq ?_
      -- region 11
      refine AW.region ?_
      refine AWl.put (R_move rfl (.no rfl) rfl (.tmp rfl fun _ => rfl)) rfl ?_
      refine AWl.put (R_assign rfl (.no rfl) rfl (.tmp rfl fun _ => rfl)) rfl ?_
      refine AWl.put (R_assign rfl (.no rfl) rfl (.const rfl)) rfl ?_
      refine AWl.nil ?_
      refine AW.ret ?_
      refine Res.many rfl (.tmp rfl (.tmp rfl .nil)) rfl ?_ (by simp)
      unfold walkNodes; rw [hw, if_pos rfl, he, List.drop_eq_nil_of_le (by omega)]; rfl
theorem implIsValidWalk (g : TGraph) (w : TWalk) : FnT Try.prog 106 [.agg (cGraph g), .agg (cWalk w)] (.a (.one (.v (.bool (walkNodes g w).2)))) := by
  refine FnT.walk Try.func106 rfl (by kernel_rfl) Try.ntmps106 rfl fun hlen w0 => ?_
  try simp [cPair, cToken, cExpr, cEdge, cGraph, cStep, cWalk, cChange, cBatch, cHistory, cPositions, cAutomaton, cProductStep, cPathAtom, cConjunction, cView, cDelta, cRegistered, cRegistry] at hlen
  refine AW.seq ?_
  -- region 0
  refine AW.region ?_
  refine AWl.put (R_boxz rfl rfl rfl (.tmp rfl fun _ => rfl) (ts := _) (by first | rfl | exact cells_t1 _ | exact cells_t2 _)) rfl ?_
  refine AWl.put (R_boxz rfl rfl rfl (.tmp rfl fun _ => rfl) (ts := _) (by first | rfl | exact cells_t1 _ | exact cells_t2 _)) rfl ?_
  refine AWl.put (R_assign rfl (.no rfl) rfl (.const rfl)) rfl ?_
  refine AWl.nil ?_
  refine AW.seq ?_
  -- region 1
  refine AW.region ?_
  refine AWl.put ((by first | exact R_load rfl (.no rfl) rfl (.tmp rfl fun _ => rfl) ty25 rfl rfl | exact R_load_pp rfl (.no rfl) rfl (.tmp rfl fun _ => rfl) rfl ty25 rfl rfl | exact R_load_vw rfl (.no rfl) rfl (.tmp rfl fun _ => rfl) ty25 rfl rfl | exact R_load_pr rfl (.no rfl) rfl (.tmp rfl fun _ => rfl) rfl (by first | assumption | exact map_get (by assumption)) ty25 rfl rfl)) rfl ?_
  refine AWl.put ((by first | exact R_load rfl (.no rfl) rfl (.tmp rfl fun _ => rfl) ty100 rfl rfl | exact R_load_pp rfl (.no rfl) rfl (.tmp rfl fun _ => rfl) rfl ty100 rfl rfl | exact R_load_vw rfl (.no rfl) rfl (.tmp rfl fun _ => rfl) ty100 rfl rfl | exact R_load_pr rfl (.no rfl) rfl (.tmp rfl fun _ => rfl) rfl (by first | assumption | exact map_get (by assumption)) ty100 rfl rfl)) rfl ?_
  refine AWl.put (R_callz (FnT.fr (implnodesOf _ _)) rfl (.no rfl) rfl (.cons (.tmp rfl fun _ => rfl) rfl (.cons (.tmp rfl fun _ => rfl) rfl .nil))) rfl ?_
  refine AWl.put (R_movet rfl (.no rfl) rfl rfl fun _ => rfl) rfl ?_
  refine AWl.put (R_extract rfl (.no rfl) rfl rfl (fun _ => rfl) rfl) rfl ?_
  refine AWl.put (R_extract rfl (.no rfl) rfl rfl (fun _ => rfl) rfl) rfl ?_
  refine AWl.put (R_assign rfl (.no rfl) rfl (.tmp rfl fun _ => rfl)) rfl ?_
  refine AWl.put (R_assign rfl (.no rfl) rfl (.tmp rfl fun _ => rfl)) rfl ?_
  refine AWl.nil ?_
  refine AW.seq ?_
  -- region 2
  refine AW.region ?_
  refine AWl.put (R_move rfl (.no rfl) rfl (.tmp rfl fun _ => rfl)) rfl ?_
  refine AWl.put (R_assign rfl (.no rfl) rfl (.tmp rfl fun _ => rfl)) rfl ?_
  refine AWl.nil ?_
  refine AW.ret ?_
  refine Res.v rfl rfl ?_
  rfl
theorem specl5Nodes (g : TGraph) (w : TWalk) : FnT Try.prog 146 [.agg (cGraph g), .agg (cWalk w)] (.tup [.one (.sl 1 ((walkNodes g w).1.map cInt)), .one (.v (.bool (walkNodes g w).2))]) := by
  refine FnT.walk Try.func146 rfl (by kernel_rfl) Try.ntmps146 rfl fun hlen w0 => ?_
  try simp [cPair, cToken, cExpr, cEdge, cGraph, cStep, cWalk, cChange, cBatch, cHistory, cPositions, cAutomaton, cProductStep, cPathAtom, cConjunction, cView, cDelta, cRegistered, cRegistry] at hlen
  refine AW.seq ?_
  -- region 0
  refine AW.region ?_
  refine AWl.put (R_boxz rfl rfl rfl (.tmp rfl fun _ => rfl) (ts := _) (by first | rfl | exact cells_t1 _ | exact cells_t2 _)) rfl ?_
  refine AWl.put (R_boxz rfl rfl rfl (.tmp rfl fun _ => rfl) (ts := _) (by first | rfl | exact cells_t1 _ | exact cells_t2 _)) rfl ?_
  refine AWl.put (R_assign rfl (.no rfl) rfl (.const rfl)) rfl ?_
  refine AWl.nilS (i := 4) 20001 1 rfl rfl ?_
  refine AWl.put (R_assign rfl (.no rfl) rfl (.const rfl)) rfl ?_
  refine AWl.nil ?_
  refine AW.seq ?_
  refine AW.seq ?_
  -- region 1
  refine AW.region ?_
  refine AWl.put ((by first | exact R_load rfl (.no rfl) rfl (.tmp rfl fun _ => rfl) ty25 rfl rfl | exact R_load_pp rfl (.no rfl) rfl (.tmp rfl fun _ => rfl) rfl ty25 rfl rfl | exact R_load_vw rfl (.no rfl) rfl (.tmp rfl fun _ => rfl) ty25 rfl rfl | exact R_load_pr rfl (.no rfl) rfl (.tmp rfl fun _ => rfl) rfl (by first | assumption | exact map_get (by assumption)) ty25 rfl rfl)) rfl ?_
  refine AWl.put (R_callz (FnT.fr (specIsValidGraph _)) rfl (.no rfl) rfl (.cons (.tmp rfl fun _ => rfl) rfl .nil)) rfl ?_
  refine AWl.put (R_not rfl (.no rfl) rfl (.tmp rfl fun _ => rfl)) rfl ?_
  refine AWl.put (R_move rfl (.no rfl) rfl (.tmp rfl fun _ => rfl)) rfl ?_
  refine AWl.put ((by first | exact R_fieldAddr rfl (by first | exact .not1 rfl rfl rfl rfl | exact .not rfl rfl rfl rfl) rfl (.tmp rfl (by first | exact fun _ => rfl | exact id | simp)) fl100_0 | exact R_fieldAddr_pp rfl (by first | exact .not1 rfl rfl rfl rfl | exact .not rfl rfl rfl rfl) rfl (.tmp rfl (by first | exact fun _ => rfl | exact id | simp)) fl100_0 | exact R_fieldAddr_vw rfl (by first | exact .not1 rfl rfl rfl rfl | exact .not rfl rfl rfl rfl) rfl (.tmp rfl (by first | exact fun _ => rfl | exact id | simp)) fl100_0 | exact R_fieldAddr_pr rfl (by first | exact .not1 rfl rfl rfl rfl | exact .not rfl rfl rfl rfl) rfl (.tmp rfl (by first | exact fun _ => rfl | exact id | simp)) fl100_0)) rfl ?_
  refine AWl.put ((by first | exact R_load rfl (by first | exact .not1 rfl rfl rfl rfl | exact .not rfl rfl rfl rfl) rfl (.tmp rfl (by first | exact fun _ => rfl | exact id | simp)) ty3 rfl rfl | exact R_load_pp rfl (by first | exact .not1 rfl rfl rfl rfl | exact .not rfl rfl rfl rfl) rfl (.tmp rfl (by first | exact fun _ => rfl | exact id | simp)) rfl ty3 rfl rfl | exact R_load_vw rfl (by first | exact .not1 rfl rfl rfl rfl | exact .not rfl rfl rfl rfl) rfl (.tmp rfl (by first | exact fun _ => rfl | exact id | simp)) ty3 rfl rfl | exact R_load_pr rfl (by first | exact .not1 rfl rfl rfl rfl | exact .not rfl rfl rfl rfl) rfl (.tmp rfl (by first | exact fun _ => rfl | exact id | simp)) rfl (by first | assumption | exact map_get (by assumption)) ty3 rfl rfl)) rfl ?_
  refine AWl.put ((by first | exact R_fieldAddr rfl (by first | exact .not1 rfl rfl rfl rfl | exact .not rfl rfl rfl rfl) rfl (.tmp rfl (by first | exact fun _ => rfl | exact id | simp)) fl25_0 | exact R_fieldAddr_pp rfl (by first | exact .not1 rfl rfl rfl rfl | exact .not rfl rfl rfl rfl) rfl (.tmp rfl (by first | exact fun _ => rfl | exact id | simp)) fl25_0 | exact R_fieldAddr_vw rfl (by first | exact .not1 rfl rfl rfl rfl | exact .not rfl rfl rfl rfl) rfl (.tmp rfl (by first | exact fun _ => rfl | exact id | simp)) fl25_0 | exact R_fieldAddr_pr rfl (by first | exact .not1 rfl rfl rfl rfl | exact .not rfl rfl rfl rfl) rfl (.tmp rfl (by first | exact fun _ => rfl | exact id | simp)) fl25_0)) rfl ?_
  refine AWl.put ((by first | exact R_load rfl (by first | exact .not1 rfl rfl rfl rfl | exact .not rfl rfl rfl rfl) rfl (.tmp rfl (by first | exact fun _ => rfl | exact id | simp)) ty22 rfl rfl | exact R_load_pp rfl (by first | exact .not1 rfl rfl rfl rfl | exact .not rfl rfl rfl rfl) rfl (.tmp rfl (by first | exact fun _ => rfl | exact id | simp)) rfl ty22 rfl rfl | exact R_load_vw rfl (by first | exact .not1 rfl rfl rfl rfl | exact .not rfl rfl rfl rfl) rfl (.tmp rfl (by first | exact fun _ => rfl | exact id | simp)) ty22 rfl rfl | exact R_load_pr rfl (by first | exact .not1 rfl rfl rfl rfl | exact .not rfl rfl rfl rfl) rfl (.tmp rfl (by first | exact fun _ => rfl | exact id | simp)) rfl (by first | assumption | exact map_get (by assumption)) ty22 rfl rfl)) rfl ?_
  refine AWl.put ((by first | exact R_lenm rfl (by first | exact .not1 rfl rfl rfl rfl | exact .not rfl rfl rfl rfl) rfl (.tmp rfl (by first | exact fun _ => rfl | exact id | simp)) (by first | exact .t | exact .rf rfl | exact .vw | exact .nil) Try.underlying22 | exact R_len rfl (by first | exact .not1 rfl rfl rfl rfl | exact .not rfl rfl rfl rfl) rfl (.tmp rfl (by first | exact fun _ => rfl | exact id | simp)) (by first | exact .t | exact .rf rfl | exact .vw | exact .nil) Try.underlying22)) rfl ?_
  refine AWl.put (R_sub rfl (by first | exact .not1 rfl rfl rfl rfl | exact .not rfl rfl rfl rfl) rfl (.tmp rfl (by first | exact fun _ => rfl | exact id | simp)) (.const rfl) (fun hq => by first | omega | (simp at hq; omega))) rfl ?_
  refine AWl.put (R_callz (FnT.fr (specl1In _ _ _)) rfl (by first | exact .not1 rfl rfl rfl rfl | exact .not rfl rfl rfl rfl) rfl (.cons (.tmp rfl (by first | exact fun _ => rfl | exact id | simp)) rfl (.cons (.const rfl) rfl (.cons (.tmp rfl (by first | exact fun _ => rfl | exact id | simp)) rfl .nil)))) rfl ?_
  refine AWl.put (R_not rfl (by first | exact .not1 rfl rfl rfl rfl | exact .not rfl rfl rfl rfl) rfl (.tmp rfl (by first | exact fun _ => rfl | exact id | simp))) rfl ?_
  refine AWl.put (R_or rfl (.no rfl) rfl (.tmp rfl fun _ => rfl) (.tmp rfl (by first | exact fun _ => rfl | exact id | simp))) rfl ?_
  refine AWl.put (R_move rfl (.no rfl) rfl (.tmp rfl fun _ => rfl)) rfl ?_
  refine AWl.put ((by first | exact R_fieldAddr rfl (by first | exact .not1 rfl rfl rfl rfl | exact .not rfl rfl rfl rfl) rfl (.tmp rfl (by first | exact fun _ => rfl | exact id | simp)) fl100_1 | exact R_fieldAddr_pp rfl (by first | exact .not1 rfl rfl rfl rfl | exact .not rfl rfl rfl rfl) rfl (.tmp rfl (by first | exact fun _ => rfl | exact id | simp)) fl100_1 | exact R_fieldAddr_vw rfl (by first | exact .not1 rfl rfl rfl rfl | exact .not rfl rfl rfl rfl) rfl (.tmp rfl (by first | exact fun _ => rfl | exact id | simp)) fl100_1 | exact R_fieldAddr_pr rfl (by first | exact .not1 rfl rfl rfl rfl | exact .not rfl rfl rfl rfl) rfl (.tmp rfl (by first | exact fun _ => rfl | exact id | simp)) fl100_1)) rfl ?_
  refine AWl.put ((by first | exact R_load rfl (by first | exact .not1 rfl rfl rfl rfl | exact .not rfl rfl rfl rfl) rfl (.tmp rfl (by first | exact fun _ => rfl | exact id | simp)) ty98 rfl rfl | exact R_load_pp rfl (by first | exact .not1 rfl rfl rfl rfl | exact .not rfl rfl rfl rfl) rfl (.tmp rfl (by first | exact fun _ => rfl | exact id | simp)) rfl ty98 rfl rfl | exact R_load_vw rfl (by first | exact .not1 rfl rfl rfl rfl | exact .not rfl rfl rfl rfl) rfl (.tmp rfl (by first | exact fun _ => rfl | exact id | simp)) ty98 rfl rfl | exact R_load_pr rfl (by first | exact .not1 rfl rfl rfl rfl | exact .not rfl rfl rfl rfl) rfl (.tmp rfl (by first | exact fun _ => rfl | exact id | simp)) rfl (by first | assumption | exact map_get (by assumption)) ty98 rfl rfl)) rfl ?_
  refine AWl.put ((by first | exact R_lenm rfl (by first | exact .not1 rfl rfl rfl rfl | exact .not rfl rfl rfl rfl) rfl (.tmp rfl (by first | exact fun _ => rfl | exact id | simp)) (by first | exact .t | exact .rf rfl | exact .vw | exact .nil) Try.underlying98 | exact R_len rfl (by first | exact .not1 rfl rfl rfl rfl | exact .not rfl rfl rfl rfl) rfl (.tmp rfl (by first | exact fun _ => rfl | exact id | simp)) (by first | exact .t | exact .rf rfl | exact .vw | exact .nil) Try.underlying98)) rfl ?_
  refine AWl.put (R_gt rfl (by first | exact .not1 rfl rfl rfl rfl | exact .not rfl rfl rfl rfl) rfl (.tmp rfl (by first | exact fun _ => rfl | exact id | simp)) (.const rfl)) rfl ?_
  refine AWl.put (R_or rfl (.no rfl) rfl (.tmp rfl fun _ => rfl) (.tmp rfl (by first | exact fun _ => rfl | exact id | simp))) rfl ?_
  refine AWl.nil ?_
  refine AW.cond (.tmp rfl fun _ => rfl) (fun h29 => ?_) (fun h29 => ?_)
  · skip
    try simp at h29
    have hw : walkOk g w = false := by unfold walkOk; grind
    refine AW.seq ?_
    -- region 2
    refine AW.region ?_
    refine AWl.add (R_empty 30 rfl rfl rfl Try.underlying22 ty3 rfl) rfl ?_
    refine AWl.put (R_assign rfl (.no rfl) rfl (.tmp rfl fun _ => rfl)) rfl ?_
    refine AWl.put (R_assign rfl (.no rfl) rfl (.const rfl)) rfl ?_
    refine AWl.nil ?_
    refine AW.ret ?_
    refine Res.many rfl (.tmp rfl (.tmp rfl .nil)) rfl ?_ (by simp)
    unfold walkNodes; rw [hw]; rfl
  · skip
    try simp at h29
    have hw : walkOk g w = true := by unfold walkOk; grind
    have hv : validG g = true := by grind
    have hst : 0 ≤ w.Start := by unfold walkOk inB at hw; simp at hw; omega
    refine AW.skip ?_
    refine AW.seq ?_
    -- region 3
    refine AW.region ?_
    refine AWl.put ((by first | exact R_fieldAddr rfl (.no rfl) rfl (.tmp rfl fun _ => rfl) fl100_0 | exact R_fieldAddr_pp rfl (.no rfl) rfl (.tmp rfl fun _ => rfl) fl100_0 | exact R_fieldAddr_vw rfl (.no rfl) rfl (.tmp rfl fun _ => rfl) fl100_0 | exact R_fieldAddr_pr rfl (.no rfl) rfl (.tmp rfl fun _ => rfl) fl100_0)) rfl ?_
    refine AWl.put ((by first | exact R_load rfl (.no rfl) rfl (.tmp rfl fun _ => rfl) ty3 rfl rfl | exact R_load_pp rfl (.no rfl) rfl (.tmp rfl fun _ => rfl) rfl ty3 rfl rfl | exact R_load_vw rfl (.no rfl) rfl (.tmp rfl fun _ => rfl) ty3 rfl rfl | exact R_load_pr rfl (.no rfl) rfl (.tmp rfl fun _ => rfl) rfl (by first | assumption | exact map_get (by assumption)) ty3 rfl rfl)) rfl ?_
    refine AWl.absadd (R_list (xs := [.tmp 32]) 33 rfl rfl rfl (.cons (.tmp rfl fun _ => rfl) rfl rfl .nil) Try.underlying22 in3 rfl rfl rfl rfl) rfl ?_
    refine AWl.put (R_assign rfl (.no rfl) rfl (.tmp rfl fun _ => rfl)) rfl ?_
    refine AWl.nil ?_
    refine AW.seq ?_
    refine AW.seq ?_
    -- region 4
    refine AW.region ?_
    refine AWl.put (R_assign rfl (.no rfl) rfl (.const rfl)) rfl ?_
    refine AWl.nil ?_
    refine AW.block ?_
    refine AW.loop2 (fun (k : Nat) (acc : List Int) => (k ≤ w.Steps.length ∧ 0 < acc.length ∧ acc.length ≤ k + 1 ∧ 0 ≤ lastI acc) ∧ nodesGo g w.Steps [w.Start] = nodesGo g (w.Steps.drop k) acc) (fun (k : Nat) (acc : List Int) => ⟨_, [(7, (true, .a (.one (.t (.v (.int .i64 (k : Nat))))))), (6, (true, .a (.one (.rf 33)))), (2, _), (3, _)], [(33, .row 1 (acc.map cInt))]⟩) (fun (k : Nat) (acc : List Int) => w.Steps.length - k) (0) ([w.Start]) ⟨by simpa [lastI] using hst, rfl⟩ (Le.sub0 rfl ⟨rfl, rfl, rfl, rfl, trivial⟩ ⟨rfl, trivial⟩) ?_
    rintro k acc ⟨hk, he⟩
    refine AW.seq ?_
    refine AW.seq ?_
    -- region 5
    refine AW.region ?_
    refine AWl.put (R_move rfl (.no rfl) rfl (.tmp rfl fun _ => rfl)) rfl ?_
    refine AWl.put ((by first | exact R_fieldAddr rfl (.no rfl) rfl (.tmp rfl fun _ => rfl) fl100_1 | exact R_fieldAddr_pp rfl (.no rfl) rfl (.tmp rfl fun _ => rfl) fl100_1 | exact R_fieldAddr_vw rfl (.no rfl) rfl (.tmp rfl fun _ => rfl) fl100_1 | exact R_fieldAddr_pr rfl (.no rfl) rfl (.tmp rfl fun _ => rfl) fl100_1)) rfl ?_
    refine AWl.put ((by first | exact R_load rfl (.no rfl) rfl (.tmp rfl fun _ => rfl) ty98 rfl rfl | exact R_load_pp rfl (.no rfl) rfl (.tmp rfl fun _ => rfl) rfl ty98 rfl rfl | exact R_load_vw rfl (.no rfl) rfl (.tmp rfl fun _ => rfl) ty98 rfl rfl | exact R_load_pr rfl (.no rfl) rfl (.tmp rfl fun _ => rfl) rfl (by first | assumption | exact map_get (by assumption)) ty98 rfl rfl)) rfl ?_
    refine AWl.put ((by first | exact R_lenm rfl (.no rfl) rfl (.tmp rfl fun _ => rfl) (by first | exact .t | exact .rf rfl | exact .vw | exact .nil) Try.underlying98 | exact R_len rfl (.no rfl) rfl (.tmp rfl fun _ => rfl) (by first | exact .t | exact .rf rfl | exact .vw | exact .nil) Try.underlying98)) rfl ?_
    refine AWl.put (R_lt rfl (.no rfl) rfl (.tmp rfl fun _ => rfl) (.tmp rfl fun _ => rfl)) rfl ?_
    refine AWl.nil ?_
    refine AW.cond (.tmp rfl fun _ => rfl) (fun hlt => ?_) (fun hlt => ?_)
    · skip
      try simp at hlt
      obtain ⟨s, hst1⟩ : ∃ s, w.Steps[k]? = some s := ⟨_, List.getElem?_eq_getElem hlt⟩
      rw [nodesGo_drop hst1] at he
      have hrow := map_get (f := cInt) (lastI_at (l := acc) (by omega))
      refine AW.skip ?_
      refine AW.seq ?_
      refine AW.block ?_
      refine AW.seq ?_
      -- region 7
      refine AW.drawn 9 (nthB [[], [], [1], [], [1, 2, 3], [1, 2, 3, 4], [1, 2, 3, 4, 5], [0, 1, 2, 3, 4, 5, 6], [0, 1, 2, 3, 4, 5, 6, 7]]) (by kernel_rfl) (by kernel_rfl) (by kernel_rfl) ?_
      refine DrawC.step rfl rfl rfl (Loc.of rfl fun σ' hs => (by first | exact R_load rfl (.no rfl) (hd_sup hs rfl) (.tmp (hs.slots _ _ rfl) fun _ => rfl) ty25 rfl rfl | exact R_load_pp rfl (.no rfl) (hd_sup hs rfl) (.tmp (hs.slots _ _ rfl) fun _ => rfl) (hs.res _ _ rfl) ty25 rfl rfl | exact R_load_vw rfl (.no rfl) (hd_sup hs rfl) (.tmp (hs.slots _ _ rfl) fun _ => rfl) ty25 rfl rfl | exact R_load_pr rfl (.no rfl) (hd_sup hs rfl) (.tmp (hs.slots _ _ rfl) fun _ => rfl) (hs.res _ _ rfl) (by first | assumption | exact map_get (by assumption)) ty25 rfl rfl)) ?_
      refine DrawC.step rfl rfl rfl (Loc.of rfl fun σ' hs => (by first | exact R_fieldAddr rfl (.no rfl) (hd_sup hs rfl) (.tmp (hs.slots _ _ rfl) fun _ => rfl) fl100_1 | exact R_fieldAddr_pp rfl (.no rfl) (hd_sup hs rfl) (.tmp (hs.slots _ _ rfl) fun _ => rfl) fl100_1 | exact R_fieldAddr_vw rfl (.no rfl) (hd_sup hs rfl) (.tmp (hs.slots _ _ rfl) fun _ => rfl) fl100_1 | exact R_fieldAddr_pr rfl (.no rfl) (hd_sup hs rfl) (.tmp (hs.slots _ _ rfl) fun _ => rfl) fl100_1)) ?_
      refine DrawC.step rfl rfl rfl (Loc.of rfl fun σ' hs => (by first | exact R_load rfl (.no rfl) (hd_sup hs rfl) (.tmp (hs.slots _ _ rfl) fun _ => rfl) ty98 rfl rfl | exact R_load_pp rfl (.no rfl) (hd_sup hs rfl) (.tmp (hs.slots _ _ rfl) fun _ => rfl) (hs.res _ _ rfl) ty98 rfl rfl | exact R_load_vw rfl (.no rfl) (hd_sup hs rfl) (.tmp (hs.slots _ _ rfl) fun _ => rfl) ty98 rfl rfl | exact R_load_pr rfl (.no rfl) (hd_sup hs rfl) (.tmp (hs.slots _ _ rfl) fun _ => rfl) (hs.res _ _ rfl) (by first | assumption | exact map_get (by assumption)) ty98 rfl rfl)) ?_
      refine DrawC.step rfl rfl rfl (Loc.of rfl fun σ' hs => R_move rfl (.no rfl) (hd_sup hs rfl) (.tmp (hs.slots _ _ rfl) fun _ => rfl)) ?_
      refine DrawC.step rfl rfl rfl (Loc.of rfl fun σ' hs => (by first | exact R_indexAddr rfl (.no rfl) (hd_sup hs rfl) (.tmp (hs.slots _ _ rfl) fun _ => rfl) (.tmp (hs.slots _ _ rfl) fun _ => rfl) Try.underlying98 ty66 (fun _ => ⟨by omega, (by first | assumption | exact map_get (by assumption))⟩) | exact R_indexAddr_vw rfl (.no rfl) (hd_sup hs rfl) (.tmp (hs.slots _ _ rfl) fun _ => rfl) (.tmp (hs.slots _ _ rfl) fun _ => rfl) Try.underlying98 ty66 (fun _ => ⟨by omega, (by first | assumption | exact map_get (by assumption))⟩) | exact R_indexAddr_rf rfl (.no rfl) (hd_sup hs rfl) (.tmp (hs.slots _ _ rfl) fun _ => rfl) (hs.res _ _ rfl) (.tmp (hs.slots _ _ rfl) fun _ => rfl) Try.underlying98 ty66 (fun _ => ⟨by omega, (by first | assumption | exact map_get (by assumption))⟩))) ?_
      refine DrawC.step rfl rfl rfl (Loc.of rfl fun σ' hs => (by first | exact R_fieldAddr rfl (.no rfl) (hd_sup hs rfl) (.tmp (hs.slots _ _ rfl) fun _ => rfl) fl66_0 | exact R_fieldAddr_pp rfl (.no rfl) (hd_sup hs rfl) (.tmp (hs.slots _ _ rfl) fun _ => rfl) fl66_0 | exact R_fieldAddr_vw rfl (.no rfl) (hd_sup hs rfl) (.tmp (hs.slots _ _ rfl) fun _ => rfl) fl66_0 | exact R_fieldAddr_pr rfl (.no rfl) (hd_sup hs rfl) (.tmp (hs.slots _ _ rfl) fun _ => rfl) fl66_0)) ?_
      refine DrawC.step rfl rfl rfl (Loc.of rfl fun σ' hs => (by first | exact R_load rfl (.no rfl) (hd_sup hs rfl) (.tmp (hs.slots _ _ rfl) fun _ => rfl) ty3 rfl rfl | exact R_load_pp rfl (.no rfl) (hd_sup hs rfl) (.tmp (hs.slots _ _ rfl) fun _ => rfl) (hs.res _ _ rfl) ty3 rfl rfl | exact R_load_vw rfl (.no rfl) (hd_sup hs rfl) (.tmp (hs.slots _ _ rfl) fun _ => rfl) ty3 rfl rfl | exact R_load_pr rfl (.no rfl) (hd_sup hs rfl) (.tmp (hs.slots _ _ rfl) fun _ => rfl) (hs.res _ _ rfl) (by first | assumption | exact map_get (by assumption)) ty3 rfl rfl)) ?_
      refine DrawC.step rfl rfl rfl (Loc.of rfl fun σ' hs => R_callz (FnT.fr (specEdgeIndex _ _)) rfl (.no rfl) (hd_sup hs rfl) (.cons (.tmp (hs.slots _ _ rfl) fun _ => rfl) (readA_sup hs rfl) (.cons (.tmp (hs.slots _ _ rfl) fun _ => rfl) (readA_sup hs rfl) .nil))) ?_
      refine DrawC.step rfl rfl rfl (Loc.of rfl fun σ' hs => R_assign rfl (.no rfl) (hd_sup hs rfl) (.tmp (hs.slots _ _ rfl) fun _ => rfl)) ?_
      refine DrawC.fin rfl rfl ?_
      refine AWl.nil ?_
      refine AW.seq ?_
      refine AW.seq ?_
      -- region 8
      refine AW.region ?_
      refine AWl.put (R_move rfl (.no rfl) rfl (.tmp rfl fun _ => rfl)) rfl ?_
      refine AWl.put (R_lt rfl (.no rfl) rfl (.tmp rfl fun _ => rfl) (.const rfl)) rfl ?_
      refine AWl.nil ?_
      refine AW.cond (.tmp rfl fun _ => rfl) (fun h50 => ?_) (fun h50 => ?_)
      · skip
        try simp at h50
        refine AW.seq ?_
        -- region 9
        refine AW.region ?_
        refine AWl.add (R_empty 51 rfl rfl rfl Try.underlying22 ty3 rfl) rfl ?_
        refine AWl.put (R_assign rfl (.no rfl) rfl (.tmp rfl fun _ => rfl)) rfl ?_
        refine AWl.put (R_assign rfl (.no rfl) rfl (.const rfl)) rfl ?_
        refine AWl.nil ?_
        refine AW.ret ?_
        refine Res.many rfl (.tmp rfl (.tmp rfl .nil)) rfl ?_ (by simp)
        unfold walkNodes; rw [hw, if_pos rfl, he, if_neg (by rw [stepFrom_no h50]; omega)]; rfl
      · skip
        try simp at h50
        obtain ⟨q, x, hx, hid⟩ := edgeIndex_get (g := g) (id := s.Edge) (by omega)
        obtain ⟨hf, ht⟩ := stepFrom_yes (s := s) hv hx hid
        have hxx : g.Edges[(edgeIndex g s.Edge).toNat]? = some x := by rw [hid]; exact hx
        have hlab : 0 ≤ x.From ∧ 0 ≤ x.To := by have h := stepEdge_yes (s := s) hv hx hid; have := stepEdge_range (g := g) (s := s) (by rw [h]); rw [h] at this; exact this
        refine AW.skip ?_
        refine AW.seq ?_
        -- region 10
        refine AW.region ?_
        refine AWl.put ((by first | exact R_fieldAddr rfl (.no rfl) rfl (.tmp rfl fun _ => rfl) fl25_1 | exact R_fieldAddr_pp rfl (.no rfl) rfl (.tmp rfl fun _ => rfl) fl25_1 | exact R_fieldAddr_vw rfl (.no rfl) rfl (.tmp rfl fun _ => rfl) fl25_1 | exact R_fieldAddr_pr rfl (.no rfl) rfl (.tmp rfl fun _ => rfl) fl25_1)) rfl ?_
        refine AWl.put ((by first | exact R_load rfl (.no rfl) rfl (.tmp rfl fun _ => rfl) ty23 rfl rfl | exact R_load_pp rfl (.no rfl) rfl (.tmp rfl fun _ => rfl) rfl ty23 rfl rfl | exact R_load_vw rfl (.no rfl) rfl (.tmp rfl fun _ => rfl) ty23 rfl rfl | exact R_load_pr rfl (.no rfl) rfl (.tmp rfl fun _ => rfl) rfl (by first | assumption | exact map_get (by assumption)) ty23 rfl rfl)) rfl ?_
        refine AWl.put (R_move rfl (.no rfl) rfl (.tmp rfl fun _ => rfl)) rfl ?_
        refine AWl.put ((by first | exact R_indexAddr rfl (.no rfl) rfl (.tmp rfl fun _ => rfl) (.tmp rfl fun _ => rfl) Try.underlying23 ty108 (fun _ => ⟨by omega, (by first | assumption | exact map_get (by assumption))⟩) | exact R_indexAddr_vw rfl (.no rfl) rfl (.tmp rfl fun _ => rfl) (.tmp rfl fun _ => rfl) Try.underlying23 ty108 (fun _ => ⟨by omega, (by first | assumption | exact map_get (by assumption))⟩) | exact R_indexAddr_rf rfl (.no rfl) rfl (.tmp rfl fun _ => rfl) rfl (.tmp rfl fun _ => rfl) Try.underlying23 ty108 (fun _ => ⟨by omega, (by first | assumption | exact map_get (by assumption))⟩))) rfl ?_
        refine AWl.put ((by first | exact R_fieldAddr rfl (.no rfl) rfl (.tmp rfl fun _ => rfl) fl108_1 | exact R_fieldAddr_pp rfl (.no rfl) rfl (.tmp rfl fun _ => rfl) fl108_1 | exact R_fieldAddr_vw rfl (.no rfl) rfl (.tmp rfl fun _ => rfl) fl108_1 | exact R_fieldAddr_pr rfl (.no rfl) rfl (.tmp rfl fun _ => rfl) fl108_1)) rfl ?_
        refine AWl.put ((by first | exact R_load rfl (.no rfl) rfl (.tmp rfl fun _ => rfl) ty3 rfl rfl | exact R_load_pp rfl (.no rfl) rfl (.tmp rfl fun _ => rfl) rfl ty3 rfl rfl | exact R_load_vw rfl (.no rfl) rfl (.tmp rfl fun _ => rfl) ty3 rfl rfl | exact R_load_pr rfl (.no rfl) rfl (.tmp rfl fun _ => rfl) rfl (by first | assumption | exact map_get (by assumption)) ty3 rfl rfl)) rfl ?_
        refine AWl.put (R_assign rfl (.no rfl) rfl (.tmp rfl fun _ => rfl)) rfl ?_
        refine AWl.nil ?_
        refine AW.seq ?_
        -- region 11
        refine AW.region ?_
        refine AWl.put ((by first | exact R_fieldAddr rfl (.no rfl) rfl (.tmp rfl fun _ => rfl) fl25_1 | exact R_fieldAddr_pp rfl (.no rfl) rfl (.tmp rfl fun _ => rfl) fl25_1 | exact R_fieldAddr_vw rfl (.no rfl) rfl (.tmp rfl fun _ => rfl) fl25_1 | exact R_fieldAddr_pr rfl (.no rfl) rfl (.tmp rfl fun _ => rfl) fl25_1)) rfl ?_
        refine AWl.put ((by first | exact R_load rfl (.no rfl) rfl (.tmp rfl fun _ => rfl) ty23 rfl rfl | exact R_load_pp rfl (.no rfl) rfl (.tmp rfl fun _ => rfl) rfl ty23 rfl rfl | exact R_load_vw rfl (.no rfl) rfl (.tmp rfl fun _ => rfl) ty23 rfl rfl | exact R_load_pr rfl (.no rfl) rfl (.tmp rfl fun _ => rfl) rfl (by first | assumption | exact map_get (by assumption)) ty23 rfl rfl)) rfl ?_
        refine AWl.put (R_move rfl (.no rfl) rfl (.tmp rfl fun _ => rfl)) rfl ?_
        refine AWl.put ((by first | exact R_indexAddr rfl (.no rfl) rfl (.tmp rfl fun _ => rfl) (.tmp rfl fun _ => rfl) Try.underlying23 ty108 (fun _ => ⟨by omega, (by first | assumption | exact map_get (by assumption))⟩) | exact R_indexAddr_vw rfl (.no rfl) rfl (.tmp rfl fun _ => rfl) (.tmp rfl fun _ => rfl) Try.underlying23 ty108 (fun _ => ⟨by omega, (by first | assumption | exact map_get (by assumption))⟩) | exact R_indexAddr_rf rfl (.no rfl) rfl (.tmp rfl fun _ => rfl) rfl (.tmp rfl fun _ => rfl) Try.underlying23 ty108 (fun _ => ⟨by omega, (by first | assumption | exact map_get (by assumption))⟩))) rfl ?_
        refine AWl.put ((by first | exact R_fieldAddr rfl (.no rfl) rfl (.tmp rfl fun _ => rfl) fl108_2 | exact R_fieldAddr_pp rfl (.no rfl) rfl (.tmp rfl fun _ => rfl) fl108_2 | exact R_fieldAddr_vw rfl (.no rfl) rfl (.tmp rfl fun _ => rfl) fl108_2 | exact R_fieldAddr_pr rfl (.no rfl) rfl (.tmp rfl fun _ => rfl) fl108_2)) rfl ?_
        refine AWl.put ((by first | exact R_load rfl (.no rfl) rfl (.tmp rfl fun _ => rfl) ty3 rfl rfl | exact R_load_pp rfl (.no rfl) rfl (.tmp rfl fun _ => rfl) rfl ty3 rfl rfl | exact R_load_vw rfl (.no rfl) rfl (.tmp rfl fun _ => rfl) ty3 rfl rfl | exact R_load_pr rfl (.no rfl) rfl (.tmp rfl fun _ => rfl) rfl (by first | assumption | exact map_get (by assumption)) ty3 rfl rfl)) rfl ?_
        refine AWl.put (R_assign rfl (.no rfl) rfl (.tmp rfl fun _ => rfl)) rfl ?_
        refine AWl.nil ?_
        refine AW.seq ?_
        refine AW.seq ?_
        -- region 12
        refine AW.region ?_
        refine AWl.put ((by first | exact R_fieldAddr rfl (.no rfl) rfl (.tmp rfl fun _ => rfl) fl100_1 | exact R_fieldAddr_pp rfl (.no rfl) rfl (.tmp rfl fun _ => rfl) fl100_1 | exact R_fieldAddr_vw rfl (.no rfl) rfl (.tmp rfl fun _ => rfl) fl100_1 | exact R_fieldAddr_pr rfl (.no rfl) rfl (.tmp rfl fun _ => rfl) fl100_1)) rfl ?_
        refine AWl.put ((by first | exact R_load rfl (.no rfl) rfl (.tmp rfl fun _ => rfl) ty98 rfl rfl | exact R_load_pp rfl (.no rfl) rfl (.tmp rfl fun _ => rfl) rfl ty98 rfl rfl | exact R_load_vw rfl (.no rfl) rfl (.tmp rfl fun _ => rfl) ty98 rfl rfl | exact R_load_pr rfl (.no rfl) rfl (.tmp rfl fun _ => rfl) rfl (by first | assumption | exact map_get (by assumption)) ty98 rfl rfl)) rfl ?_
        refine AWl.put (R_move rfl (.no rfl) rfl (.tmp rfl fun _ => rfl)) rfl ?_
        refine AWl.put ((by first | exact R_indexAddr rfl (.no rfl) rfl (.tmp rfl fun _ => rfl) (.tmp rfl fun _ => rfl) Try.underlying98 ty66 (fun _ => ⟨by omega, (by first | assumption | exact map_get (by assumption))⟩) | exact R_indexAddr_vw rfl (.no rfl) rfl (.tmp rfl fun _ => rfl) (.tmp rfl fun _ => rfl) Try.underlying98 ty66 (fun _ => ⟨by omega, (by first | assumption | exact map_get (by assumption))⟩) | exact R_indexAddr_rf rfl (.no rfl) rfl (.tmp rfl fun _ => rfl) rfl (.tmp rfl fun _ => rfl) Try.underlying98 ty66 (fun _ => ⟨by omega, (by first | assumption | exact map_get (by assumption))⟩))) rfl ?_
        refine AWl.put ((by first | exact R_fieldAddr rfl (.no rfl) rfl (.tmp rfl fun _ => rfl) fl66_1 | exact R_fieldAddr_pp rfl (.no rfl) rfl (.tmp rfl fun _ => rfl) fl66_1 | exact R_fieldAddr_vw rfl (.no rfl) rfl (.tmp rfl fun _ => rfl) fl66_1 | exact R_fieldAddr_pr rfl (.no rfl) rfl (.tmp rfl fun _ => rfl) fl66_1)) rfl ?_
        refine AWl.put ((by first | exact R_load rfl (.no rfl) rfl (.tmp rfl fun _ => rfl) ty4 rfl rfl | exact R_load_pp rfl (.no rfl) rfl (.tmp rfl fun _ => rfl) rfl ty4 rfl rfl | exact R_load_vw rfl (.no rfl) rfl (.tmp rfl fun _ => rfl) ty4 rfl rfl | exact R_load_pr rfl (.no rfl) rfl (.tmp rfl fun _ => rfl) rfl (by first | assumption | exact map_get (by assumption)) ty4 rfl rfl)) rfl ?_
        refine AWl.nil ?_
        refine AW.cond (.tmp rfl fun _ => rfl) (fun h69 => ?_) (fun h69 => ?_)
        · skip
          try simp at h69
          refine AW.seq ?_
          -- region 13
          refine AW.region ?_
          refine AWl.put ((by first | exact R_fieldAddr rfl (.no rfl) rfl (.tmp rfl fun _ => rfl) fl25_1 | exact R_fieldAddr_pp rfl (.no rfl) rfl (.tmp rfl fun _ => rfl) fl25_1 | exact R_fieldAddr_vw rfl (.no rfl) rfl (.tmp rfl fun _ => rfl) fl25_1 | exact R_fieldAddr_pr rfl (.no rfl) rfl (.tmp rfl fun _ => rfl) fl25_1)) rfl ?_
          refine AWl.put ((by first | exact R_load rfl (.no rfl) rfl (.tmp rfl fun _ => rfl) ty23 rfl rfl | exact R_load_pp rfl (.no rfl) rfl (.tmp rfl fun _ => rfl) rfl ty23 rfl rfl | exact R_load_vw rfl (.no rfl) rfl (.tmp rfl fun _ => rfl) ty23 rfl rfl | exact R_load_pr rfl (.no rfl) rfl (.tmp rfl fun _ => rfl) rfl (by first | assumption | exact map_get (by assumption)) ty23 rfl rfl)) rfl ?_
          refine AWl.put (R_move rfl (.no rfl) rfl (.tmp rfl fun _ => rfl)) rfl ?_
          refine AWl.put ((by first | exact R_indexAddr rfl (.no rfl) rfl (.tmp rfl fun _ => rfl) (.tmp rfl fun _ => rfl) Try.underlying23 ty108 (fun _ => ⟨by omega, (by first | assumption | exact map_get (by assumption))⟩) | exact R_indexAddr_vw rfl (.no rfl) rfl (.tmp rfl fun _ => rfl) (.tmp rfl fun _ => rfl) Try.underlying23 ty108 (fun _ => ⟨by omega, (by first | assumption | exact map_get (by assumption))⟩) | exact R_indexAddr_rf rfl (.no rfl) rfl (.tmp rfl fun _ => rfl) rfl (.tmp rfl fun _ => rfl) Try.underlying23 ty108 (fun _ => ⟨by omega, (by first | assumption | exact map_get (by assumption))⟩))) rfl ?_
          refine AWl.put ((by first | exact R_fieldAddr rfl (.no rfl) rfl (.tmp rfl fun _ => rfl) fl108_2 | exact R_fieldAddr_pp rfl (.no rfl) rfl (.tmp rfl fun _ => rfl) fl108_2 | exact R_fieldAddr_vw rfl (.no rfl) rfl (.tmp rfl fun _ => rfl) fl108_2 | exact R_fieldAddr_pr rfl (.no rfl) rfl (.tmp rfl fun _ => rfl) fl108_2)) rfl ?_
          refine AWl.put ((by first | exact R_load rfl (.no rfl) rfl (.tmp rfl fun _ => rfl) ty3 rfl rfl | exact R_load_pp rfl (.no rfl) rfl (.tmp rfl fun _ => rfl) rfl ty3 rfl rfl | exact R_load_vw rfl (.no rfl) rfl (.tmp rfl fun _ => rfl) ty3 rfl rfl | exact R_load_pr rfl (.no rfl) rfl (.tmp rfl fun _ => rfl) rfl (by first | assumption | exact map_get (by assumption)) ty3 rfl rfl)) rfl ?_
          refine AWl.put (R_assign rfl (.no rfl) rfl (.tmp rfl fun _ => rfl)) rfl ?_
          refine AWl.nil ?_
          -- region 14
          refine AW.region ?_
          refine AWl.put ((by first | exact R_fieldAddr rfl (.no rfl) rfl (.tmp rfl fun _ => rfl) fl25_1 | exact R_fieldAddr_pp rfl (.no rfl) rfl (.tmp rfl fun _ => rfl) fl25_1 | exact R_fieldAddr_vw rfl (.no rfl) rfl (.tmp rfl fun _ => rfl) fl25_1 | exact R_fieldAddr_pr rfl (.no rfl) rfl (.tmp rfl fun _ => rfl) fl25_1)) rfl ?_
          refine AWl.put ((by first | exact R_load rfl (.no rfl) rfl (.tmp rfl fun _ => rfl) ty23 rfl rfl | exact R_load_pp rfl (.no rfl) rfl (.tmp rfl fun _ => rfl) rfl ty23 rfl rfl | exact R_load_vw rfl (.no rfl) rfl (.tmp rfl fun _ => rfl) ty23 rfl rfl | exact R_load_pr rfl (.no rfl) rfl (.tmp rfl fun _ => rfl) rfl (by first | assumption | exact map_get (by assumption)) ty23 rfl rfl)) rfl ?_
          refine AWl.put (R_move rfl (.no rfl) rfl (.tmp rfl fun _ => rfl)) rfl ?_
          refine AWl.put ((by first | exact R_indexAddr rfl (.no rfl) rfl (.tmp rfl fun _ => rfl) (.tmp rfl fun _ => rfl) Try.underlying23 ty108 (fun _ => ⟨by omega, (by first | assumption | exact map_get (by assumption))⟩) | exact R_indexAddr_vw rfl (.no rfl) rfl (.tmp rfl fun _ => rfl) (.tmp rfl fun _ => rfl) Try.underlying23 ty108 (fun _ => ⟨by omega, (by first | assumption | exact map_get (by assumption))⟩) | exact R_indexAddr_rf rfl (.no rfl) rfl (.tmp rfl fun _ => rfl) rfl (.tmp rfl fun _ => rfl) Try.underlying23 ty108 (fun _ => ⟨by omega, (by first | assumption | exact map_get (by assumption))⟩))) rfl ?_
          refine AWl.put ((by first | exact R_fieldAddr rfl (.no rfl) rfl (.tmp rfl fun _ => rfl) fl108_1 | exact R_fieldAddr_pp rfl (.no rfl) rfl (.tmp rfl fun _ => rfl) fl108_1 | exact R_fieldAddr_vw rfl (.no rfl) rfl (.tmp rfl fun _ => rfl) fl108_1 | exact R_fieldAddr_pr rfl (.no rfl) rfl (.tmp rfl fun _ => rfl) fl108_1)) rfl ?_
          refine AWl.put ((by first | exact R_load rfl (.no rfl) rfl (.tmp rfl fun _ => rfl) ty3 rfl rfl | exact R_load_pp rfl (.no rfl) rfl (.tmp rfl fun _ => rfl) rfl ty3 rfl rfl | exact R_load_vw rfl (.no rfl) rfl (.tmp rfl fun _ => rfl) ty3 rfl rfl | exact R_load_pr rfl (.no rfl) rfl (.tmp rfl fun _ => rfl) rfl (by first | assumption | exact map_get (by assumption)) ty3 rfl rfl)) rfl ?_
          refine AWl.put (R_assign rfl (.no rfl) rfl (.tmp rfl fun _ => rfl)) rfl ?_
          refine AWl.nil ?_
          refine AW.seq ?_
          refine AW.seq ?_
          -- region 15
          refine AW.region ?_
          refine AWl.put (R_move rfl (.no rfl) rfl (.tmp rfl fun _ => rfl)) rfl ?_
          refine AWl.put (R_move rfl (.no rfl) rfl (.tmp rfl fun _ => rfl)) rfl ?_
          refine AWl.put (R_move rfl (.no rfl) rfl (.tmp rfl fun _ => rfl)) rfl ?_
          refine AWl.put ((by first | exact R_lenm rfl (.no rfl) rfl (.tmp rfl fun _ => rfl) (by first | exact .t | exact .rf rfl | exact .vw | exact .nil) Try.underlying22 | exact R_len rfl (.no rfl) rfl (.tmp rfl fun _ => rfl) (by first | exact .t | exact .rf rfl | exact .vw | exact .nil) Try.underlying22)) rfl ?_
          refine AWl.put (R_sub rfl (.no rfl) rfl (.tmp rfl fun _ => rfl) (.const rfl) (fun _ => by omega)) rfl ?_
          refine AWl.put ((by first | exact R_indexAddr rfl (.no rfl) rfl (.tmp rfl fun _ => rfl) (.tmp rfl fun _ => rfl) Try.underlying22 ty3 (fun _ => ⟨by omega, (by first | assumption | exact map_get (by assumption))⟩) | exact R_indexAddr_vw rfl (.no rfl) rfl (.tmp rfl fun _ => rfl) (.tmp rfl fun _ => rfl) Try.underlying22 ty3 (fun _ => ⟨by omega, (by first | assumption | exact map_get (by assumption))⟩) | exact R_indexAddr_rf rfl (.no rfl) rfl (.tmp rfl fun _ => rfl) rfl (.tmp rfl fun _ => rfl) Try.underlying22 ty3 (fun _ => ⟨by omega, (by first | assumption | exact map_get (by assumption))⟩))) rfl ?_
          refine AWl.put ((by first | exact R_load rfl (.no rfl) rfl (.tmp rfl fun _ => rfl) ty3 rfl rfl | exact R_load_pp rfl (.no rfl) rfl (.tmp rfl fun _ => rfl) rfl ty3 rfl rfl | exact R_load_vw rfl (.no rfl) rfl (.tmp rfl fun _ => rfl) ty3 rfl rfl | exact R_load_pr rfl (.no rfl) rfl (.tmp rfl fun _ => rfl) rfl (by first | assumption | exact map_get (by assumption)) ty3 rfl rfl)) rfl ?_
          refine AWl.put (R_ne rfl (.no rfl) rfl (.tmp rfl fun _ => rfl) (.tmp rfl fun _ => rfl)) rfl ?_
          refine AWl.nil ?_
          refine AW.cond (.tmp rfl fun _ => rfl) (fun h89 => ?_) (fun h89 => ?_)
          · skip
            try simp at h89
            refine AW.seq ?_
            -- region 16
            refine AW.region ?_
            refine AWl.add (R_empty 90 rfl rfl rfl Try.underlying22 ty3 rfl) rfl ?_
            refine AWl.put (R_assign rfl (.no rfl) rfl (.tmp rfl fun _ => rfl)) rfl ?_
            refine AWl.put (R_assign rfl (.no rfl) rfl (.const rfl)) rfl ?_
            refine AWl.nil ?_
            refine AW.ret ?_
            refine Res.many rfl (.tmp rfl (.tmp rfl .nil)) rfl ?_ (by simp)
            unfold walkNodes; rw [hw, if_pos rfl, he, if_neg (by rw [hf]; grind)]; rfl
          · skip
            try simp at h89
            refine AW.skip ?_
            -- region 17
            refine AW.region ?_
            refine AWl.put (R_move rfl (.no rfl) rfl (.tmp rfl fun _ => rfl)) rfl ?_
            refine AWl.put (R_move rfl (.no rfl) rfl (.tmp rfl fun _ => rfl)) rfl ?_
            refine AWl.absadd (R_list (xs := [.tmp 92]) 93 rfl rfl rfl (.cons (.tmp rfl fun _ => rfl) rfl rfl .nil) Try.underlying22 in3 rfl rfl rfl rfl) rfl ?_
            refine AWl.abschgput (R_append_own rfl rfl rfl (.tmp rfl fun _ => rfl) rfl (.tmp rfl fun _ => rfl) rfl rfl Try.underlying22 in3 rfl (by first | omega | (simp [chunk]; omega)) (by first | omega | (unfold maxLen; omega) | (unfold maxLen; simp [chunk]; omega))) rfl ?_
            refine AWl.put (R_assign rfl (.no rfl) rfl (.tmp rfl fun _ => rfl)) rfl ?_
            refine AWl.nil ?_
            -- region 6
            refine AW.region ?_
            refine AWl.put (R_move rfl (.no rfl) rfl (.tmp rfl fun _ => rfl)) rfl ?_
            refine AWl.put (R_add rfl (.no rfl) rfl (.tmp rfl fun _ => rfl) (.const rfl) (fun _ => by omega)) rfl ?_
            refine AWl.put (R_assign rfl (.no rfl) rfl (.tmp rfl fun _ => rfl)) rfl ?_
            refine AWl.nil ?_
            refine Round2.next (k + 1) (acc ++ [stepTo g s]) ⟨by rw [lastI_snoc, ht]; simp; grind, by rw [he, if_pos (by rw [hf]; grind)]⟩ (by omega) (Le.sub0 rfl ⟨rfl, rfl, rfl, rfl, trivial⟩ ⟨congrArg (fun r => some (R.row 1 r)) (by rw [ht]; simp [cInt, chunk, h69]), trivial⟩)
        · skip
          try simp at h69
          refine AW.skip ?_
          refine AW.seq ?_
          refine AW.seq ?_
          -- region 15
          refine AW.region ?_
          refine AWl.put (R_move rfl (.no rfl) rfl (.tmp rfl fun _ => rfl)) rfl ?_
          refine AWl.put (R_move rfl (.no rfl) rfl (.tmp rfl fun _ => rfl)) rfl ?_
          refine AWl.put (R_move rfl (.no rfl) rfl (.tmp rfl fun _ => rfl)) rfl ?_
          refine AWl.put ((by first | exact R_lenm rfl (.no rfl) rfl (.tmp rfl fun _ => rfl) (by first | exact .t | exact .rf rfl | exact .vw | exact .nil) Try.underlying22 | exact R_len rfl (.no rfl) rfl (.tmp rfl fun _ => rfl) (by first | exact .t | exact .rf rfl | exact .vw | exact .nil) Try.underlying22)) rfl ?_
          refine AWl.put (R_sub rfl (.no rfl) rfl (.tmp rfl fun _ => rfl) (.const rfl) (fun _ => by omega)) rfl ?_
          refine AWl.put ((by first | exact R_indexAddr rfl (.no rfl) rfl (.tmp rfl fun _ => rfl) (.tmp rfl fun _ => rfl) Try.underlying22 ty3 (fun _ => ⟨by omega, (by first | assumption | exact map_get (by assumption))⟩) | exact R_indexAddr_vw rfl (.no rfl) rfl (.tmp rfl fun _ => rfl) (.tmp rfl fun _ => rfl) Try.underlying22 ty3 (fun _ => ⟨by omega, (by first | assumption | exact map_get (by assumption))⟩) | exact R_indexAddr_rf rfl (.no rfl) rfl (.tmp rfl fun _ => rfl) rfl (.tmp rfl fun _ => rfl) Try.underlying22 ty3 (fun _ => ⟨by omega, (by first | assumption | exact map_get (by assumption))⟩))) rfl ?_
          refine AWl.put ((by first | exact R_load rfl (.no rfl) rfl (.tmp rfl fun _ => rfl) ty3 rfl rfl | exact R_load_pp rfl (.no rfl) rfl (.tmp rfl fun _ => rfl) rfl ty3 rfl rfl | exact R_load_vw rfl (.no rfl) rfl (.tmp rfl fun _ => rfl) ty3 rfl rfl | exact R_load_pr rfl (.no rfl) rfl (.tmp rfl fun _ => rfl) rfl (by first | assumption | exact map_get (by assumption)) ty3 rfl rfl)) rfl ?_
          refine AWl.put (R_ne rfl (.no rfl) rfl (.tmp rfl fun _ => rfl) (.tmp rfl fun _ => rfl)) rfl ?_
          refine AWl.nil ?_
          refine AW.cond (.tmp rfl fun _ => rfl) (fun h89 => ?_) (fun h89 => ?_)
          · skip
            try simp at h89
            refine AW.seq ?_
            -- region 16
            refine AW.region ?_
            refine AWl.add (R_empty 90 rfl rfl rfl Try.underlying22 ty3 rfl) rfl ?_
            refine AWl.put (R_assign rfl (.no rfl) rfl (.tmp rfl fun _ => rfl)) rfl ?_
            refine AWl.put (R_assign rfl (.no rfl) rfl (.const rfl)) rfl ?_
            refine AWl.nil ?_
            refine AW.ret ?_
            refine Res.many rfl (.tmp rfl (.tmp rfl .nil)) rfl ?_ (by simp)
            unfold walkNodes; rw [hw, if_pos rfl, he, if_neg (by rw [hf]; grind)]; rfl
          · skip
            try simp at h89
            refine AW.skip ?_
            -- region 17
            refine AW.region ?_
            refine AWl.put (R_move rfl (.no rfl) rfl (.tmp rfl fun _ => rfl)) rfl ?_
            refine AWl.put (R_move rfl (.no rfl) rfl (.tmp rfl fun _ => rfl)) rfl ?_
            refine AWl.absadd (R_list (xs := [.tmp 92]) 93 rfl rfl rfl (.cons (.tmp rfl fun _ => rfl) rfl rfl .nil) Try.underlying22 in3 rfl rfl rfl rfl) rfl ?_
            refine AWl.abschgput (R_append_own rfl rfl rfl (.tmp rfl fun _ => rfl) rfl (.tmp rfl fun _ => rfl) rfl rfl Try.underlying22 in3 rfl (by first | omega | (simp [chunk]; omega)) (by first | omega | (unfold maxLen; omega) | (unfold maxLen; simp [chunk]; omega))) rfl ?_
            refine AWl.put (R_assign rfl (.no rfl) rfl (.tmp rfl fun _ => rfl)) rfl ?_
            refine AWl.nil ?_
            -- region 6
            refine AW.region ?_
            refine AWl.put (R_move rfl (.no rfl) rfl (.tmp rfl fun _ => rfl)) rfl ?_
            refine AWl.put (R_add rfl (.no rfl) rfl (.tmp rfl fun _ => rfl) (.const rfl) (fun _ => by omega)) rfl ?_
            refine AWl.put (R_assign rfl (.no rfl) rfl (.tmp rfl fun _ => rfl)) rfl ?_
            refine AWl.nil ?_
            refine Round2.next (k + 1) (acc ++ [stepTo g s]) ⟨by rw [lastI_snoc, ht]; simp; grind, by rw [he, if_pos (by rw [hf]; grind)]⟩ (by omega) (Le.sub0 rfl ⟨rfl, rfl, rfl, rfl, trivial⟩ ⟨congrArg (fun r => some (R.row 1 r)) (by rw [ht]; simp [cInt, chunk, h69]), trivial⟩)
    · skip
      try simp at hlt
      refine AW.exit ?_
      refine AW.seq ?_
      -- region 18
      refine AW.region ?_
      refine AWl.put (R_move rfl (.no rfl) rfl (.tmp rfl fun _ => rfl)) rfl ?_
      refine AWl.put (R_assign rfl (.no rfl) rfl (.tmp rfl fun _ => rfl)) rfl ?_
      refine AWl.put (R_assign rfl (.no rfl) rfl (.const rfl)) rfl ?_
      refine AWl.nil ?_
      refine AW.ret ?_
      refine Res.many rfl (.tmp rfl (.tmp rfl .nil)) rfl ?_ (by simp)
      unfold walkNodes; rw [hw, if_pos rfl, he, List.drop_eq_nil_of_le (by omega)]; rfl
theorem specIsValidWalk (g : TGraph) (w : TWalk) : FnT Try.prog 104 [.agg (cGraph g), .agg (cWalk w)] (.a (.one (.v (.bool (walkNodes g w).2)))) := by
  refine FnT.walk Try.func104 rfl (by kernel_rfl) Try.ntmps104 rfl fun hlen w0 => ?_
  try simp [cPair, cToken, cExpr, cEdge, cGraph, cStep, cWalk, cChange, cBatch, cHistory, cPositions, cAutomaton, cProductStep, cPathAtom, cConjunction, cView, cDelta, cRegistered, cRegistry] at hlen
  refine AW.seq ?_
  -- region 0
  refine AW.region ?_
  refine AWl.put (R_boxz rfl rfl rfl (.tmp rfl fun _ => rfl) (ts := _) (by first | rfl | exact cells_t1 _ | exact cells_t2 _)) rfl ?_
  refine AWl.put (R_boxz rfl rfl rfl (.tmp rfl fun _ => rfl) (ts := _) (by first | rfl | exact cells_t1 _ | exact cells_t2 _)) rfl ?_
  refine AWl.put (R_assign rfl (.no rfl) rfl (.const rfl)) rfl ?_
  refine AWl.nil ?_
  refine AW.seq ?_
  -- region 1
  refine AW.region ?_
  refine AWl.put ((by first | exact R_load rfl (.no rfl) rfl (.tmp rfl fun _ => rfl) ty25 rfl rfl | exact R_load_pp rfl (.no rfl) rfl (.tmp rfl fun _ => rfl) rfl ty25 rfl rfl | exact R_load_vw rfl (.no rfl) rfl (.tmp rfl fun _ => rfl) ty25 rfl rfl | exact R_load_pr rfl (.no rfl) rfl (.tmp rfl fun _ => rfl) rfl (by first | assumption | exact map_get (by assumption)) ty25 rfl rfl)) rfl ?_
  refine AWl.put ((by first | exact R_load rfl (.no rfl) rfl (.tmp rfl fun _ => rfl) ty100 rfl rfl | exact R_load_pp rfl (.no rfl) rfl (.tmp rfl fun _ => rfl) rfl ty100 rfl rfl | exact R_load_vw rfl (.no rfl) rfl (.tmp rfl fun _ => rfl) ty100 rfl rfl | exact R_load_pr rfl (.no rfl) rfl (.tmp rfl fun _ => rfl) rfl (by first | assumption | exact map_get (by assumption)) ty100 rfl rfl)) rfl ?_
  refine AWl.put (R_callz (FnT.fr (specl5Nodes _ _)) rfl (.no rfl) rfl (.cons (.tmp rfl fun _ => rfl) rfl (.cons (.tmp rfl fun _ => rfl) rfl .nil))) rfl ?_
  refine AWl.put (R_movet rfl (.no rfl) rfl rfl fun _ => rfl) rfl ?_
  refine AWl.put (R_extract rfl (.no rfl) rfl rfl (fun _ => rfl) rfl) rfl ?_
  refine AWl.put (R_extract rfl (.no rfl) rfl rfl (fun _ => rfl) rfl) rfl ?_
  refine AWl.put (R_assign rfl (.no rfl) rfl (.tmp rfl fun _ => rfl)) rfl ?_
  refine AWl.put (R_assign rfl (.no rfl) rfl (.tmp rfl fun _ => rfl)) rfl ?_
  refine AWl.nil ?_
  refine AW.seq ?_
  -- region 2
  refine AW.region ?_
  refine AWl.put (R_move rfl (.no rfl) rfl (.tmp rfl fun _ => rfl)) rfl ?_
  refine AWl.put (R_assign rfl (.no rfl) rfl (.tmp rfl fun _ => rfl)) rfl ?_
  refine AWl.nil ?_
  refine AW.ret ?_
  refine Res.v rfl rfl ?_
  rfl
theorem implWalkCost (g : TGraph) (l : List Int) (w : TWalk) : FnT Try.prog 51 [.agg (cGraph g), .one (.sl 1 (l.map cInt)), .agg (cWalk w)] (.a (.one (.v (.int .i64 (walkCost g l w))))) := by
  refine FnT.walk Try.func51 rfl (by kernel_rfl) Try.ntmps51 rfl fun hlen w0 => ?_
  try simp [cPair, cToken, cExpr, cEdge, cGraph, cStep, cWalk, cChange, cBatch, cHistory, cPositions, cAutomaton, cProductStep, cPathAtom, cConjunction, cView, cDelta, cRegistered, cRegistry] at hlen
  refine AW.seq ?_
  -- region 0
  refine AW.region ?_
  refine AWl.put (R_boxz rfl rfl rfl (.tmp rfl fun _ => rfl) (ts := _) (by first | rfl | exact cells_t1 _ | exact cells_t2 _)) rfl ?_
  refine AWl.put (R_boxz rfl rfl rfl (.tmp rfl fun _ => rfl) (ts := _) (by first | rfl | exact cells_t1 _ | exact cells_t2 _)) rfl ?_
  refine AWl.put (R_assign rfl (.no rfl) rfl (.const rfl)) rfl ?_
  refine AWl.nil ?_
  refine AW.seq ?_
  refine AW.seq ?_
  -- region 1
  refine AW.region ?_
  refine AWl.put (R_move rfl (.no rfl) rfl (.tmp rfl fun _ => rfl)) rfl ?_
  refine AWl.put (R_callz (FnT.fr (implAreCosts _)) rfl (.no rfl) rfl (.cons (.tmp rfl fun _ => rfl) rfl .nil)) rfl ?_
  refine AWl.put (R_not rfl (.no rfl) rfl (.tmp rfl fun _ => rfl)) rfl ?_
  refine AWl.put (R_move rfl (.no rfl) rfl (.tmp rfl fun _ => rfl)) rfl ?_
  refine AWl.put ((by first | exact R_load rfl (by first | exact .not1 rfl rfl rfl rfl | exact .not rfl rfl rfl rfl) rfl (.tmp rfl (by first | exact fun _ => rfl | exact id | simp)) ty25 rfl rfl | exact R_load_pp rfl (by first | exact .not1 rfl rfl rfl rfl | exact .not rfl rfl rfl rfl) rfl (.tmp rfl (by first | exact fun _ => rfl | exact id | simp)) rfl ty25 rfl rfl | exact R_load_vw rfl (by first | exact .not1 rfl rfl rfl rfl | exact .not rfl rfl rfl rfl) rfl (.tmp rfl (by first | exact fun _ => rfl | exact id | simp)) ty25 rfl rfl | exact R_load_pr rfl (by first | exact .not1 rfl rfl rfl rfl | exact .not rfl rfl rfl rfl) rfl (.tmp rfl (by first | exact fun _ => rfl | exact id | simp)) rfl (by first | assumption | exact map_get (by assumption)) ty25 rfl rfl)) rfl ?_
  refine AWl.put ((by first | exact R_load rfl (by first | exact .not1 rfl rfl rfl rfl | exact .not rfl rfl rfl rfl) rfl (.tmp rfl (by first | exact fun _ => rfl | exact id | simp)) ty100 rfl rfl | exact R_load_pp rfl (by first | exact .not1 rfl rfl rfl rfl | exact .not rfl rfl rfl rfl) rfl (.tmp rfl (by first | exact fun _ => rfl | exact id | simp)) rfl ty100 rfl rfl | exact R_load_vw rfl (by first | exact .not1 rfl rfl rfl rfl | exact .not rfl rfl rfl rfl) rfl (.tmp rfl (by first | exact fun _ => rfl | exact id | simp)) ty100 rfl rfl | exact R_load_pr rfl (by first | exact .not1 rfl rfl rfl rfl | exact .not rfl rfl rfl rfl) rfl (.tmp rfl (by first | exact fun _ => rfl | exact id | simp)) rfl (by first | assumption | exact map_get (by assumption)) ty100 rfl rfl)) rfl ?_
  refine AWl.put (R_callz (FnT.fr (implIsValidWalk _ _)) rfl (by first | exact .not1 rfl rfl rfl rfl | exact .not rfl rfl rfl rfl) rfl (.cons (.tmp rfl (by first | exact fun _ => rfl | exact id | simp)) rfl (.cons (.tmp rfl (by first | exact fun _ => rfl | exact id | simp)) rfl .nil))) rfl ?_
  refine AWl.put (R_not rfl (by first | exact .not1 rfl rfl rfl rfl | exact .not rfl rfl rfl rfl) rfl (.tmp rfl (by first | exact fun _ => rfl | exact id | simp))) rfl ?_
  refine AWl.put (R_or rfl (.no rfl) rfl (.tmp rfl fun _ => rfl) (.tmp rfl (by first | exact fun _ => rfl | exact id | simp))) rfl ?_
  refine AWl.nil ?_
  refine AW.cond (.tmp rfl fun _ => rfl) (fun h18 => ?_) (fun h18 => ?_)
  · skip
    try simp at h18
    refine AW.seq ?_
    -- region 2
    refine AW.region ?_
    refine AWl.put (R_assign rfl (.no rfl) rfl (.const rfl)) rfl ?_
    refine AWl.nil ?_
    refine AW.ret ?_
    refine Res.v rfl rfl ?_
    unfold walkCost; rw [if_neg (by grind)]
  · skip
    try simp at h18
    have hl := walkNodes_len (g := g) (w := w) (by grind)
    refine AW.skip ?_
    refine AW.seq ?_
    -- region 3
    refine AW.region ?_
    refine AWl.put (R_assign rfl (.no rfl) rfl (.const rfl)) rfl ?_
    refine AWl.nil ?_
    refine AW.seq ?_
    refine AW.seq ?_
    -- region 4
    refine AW.region ?_
    refine AWl.put ((by first | exact R_fieldAddr rfl (.no rfl) rfl (.tmp rfl fun _ => rfl) fl100_1 | exact R_fieldAddr_pp rfl (.no rfl) rfl (.tmp rfl fun _ => rfl) fl100_1 | exact R_fieldAddr_vw rfl (.no rfl) rfl (.tmp rfl fun _ => rfl) fl100_1 | exact R_fieldAddr_pr rfl (.no rfl) rfl (.tmp rfl fun _ => rfl) fl100_1)) rfl ?_
    refine AWl.put ((by first | exact R_load rfl (.no rfl) rfl (.tmp rfl fun _ => rfl) ty98 rfl rfl | exact R_load_pp rfl (.no rfl) rfl (.tmp rfl fun _ => rfl) rfl ty98 rfl rfl | exact R_load_vw rfl (.no rfl) rfl (.tmp rfl fun _ => rfl) ty98 rfl rfl | exact R_load_pr rfl (.no rfl) rfl (.tmp rfl fun _ => rfl) rfl (by first | assumption | exact map_get (by assumption)) ty98 rfl rfl)) rfl ?_
    refine AWl.put ((by first | exact R_lenm rfl (.no rfl) rfl (.tmp rfl fun _ => rfl) (by first | exact .t | exact .rf rfl | exact .vw | exact .nil) Try.underlying98 | exact R_len rfl (.no rfl) rfl (.tmp rfl fun _ => rfl) (by first | exact .t | exact .rf rfl | exact .vw | exact .nil) Try.underlying98)) rfl ?_
    refine AWl.put (R_move rfl (.no rfl) rfl (.const rfl)) rfl ?_
    refine AWl.nil ?_
    refine AW.block ?_
    refine AW.loop2 (fun (k : Nat) (n : Int) => (k ≤ w.Steps.length ∧ -k ≤ n ∧ n ≤ 9 * k) ∧ costsGo g l w.Steps 0 = costsGo g l (w.Steps.drop k) n) (fun (k : Nat) (n : Int) => ⟨_, [(22, (true, .a (.one (.t (.v (.int .i64 (k : Nat))))))), (7, (true, .a (.one (.t (.v (.int .i64 n)))))), (1, _), (3, _), (6, _), (20, _), (21, _)], []⟩) (fun (k : Nat) (n : Int) => w.Steps.length - k) (0) (0) ⟨by simp, rfl⟩ (Le.sub0 rfl ⟨rfl, rfl, rfl, rfl, rfl, rfl, rfl, trivial⟩ trivial) ?_
    rintro k n ⟨hk, he⟩
    refine AW.seq ?_
    -- region 5
    refine AW.region ?_
    refine AWl.put (R_lt rfl (.no rfl) rfl (.tmp rfl fun _ => rfl) (.tmp rfl fun _ => rfl)) rfl ?_
    refine AWl.nil ?_
    refine AW.seq ?_
    refine AW.cond (.tmp rfl fun _ => rfl) (fun hlt => ?_) (fun hlt => ?_)
    · skip
      try simp at hlt
      obtain ⟨s, hst1⟩ : ∃ s, w.Steps[k]? = some s := ⟨_, List.getElem?_eq_getElem hlt⟩
      rw [costsGo_drop hst1] at he
      have hc := stepCost_range g l s
      refine AW.skip ?_
      refine AW.seq ?_
      refine AW.block ?_
      refine AW.seq ?_
      -- region 6
      refine AW.region ?_
      refine AWl.put ((by first | exact R_indexAddr rfl (.no rfl) rfl (.tmp rfl fun _ => rfl) (.tmp rfl fun _ => rfl) Try.underlying98 ty66 (fun _ => ⟨by omega, (by first | assumption | exact map_get (by assumption))⟩) | exact R_indexAddr_vw rfl (.no rfl) rfl (.tmp rfl fun _ => rfl) (.tmp rfl fun _ => rfl) Try.underlying98 ty66 (fun _ => ⟨by omega, (by first | assumption | exact map_get (by assumption))⟩) | exact R_indexAddr_rf rfl (.no rfl) rfl (.tmp rfl fun _ => rfl) rfl (.tmp rfl fun _ => rfl) Try.underlying98 ty66 (fun _ => ⟨by omega, (by first | assumption | exact map_get (by assumption))⟩))) rfl ?_
      refine AWl.put ((by first | exact R_load rfl (.no rfl) rfl (.tmp rfl fun _ => rfl) ty66 rfl rfl | exact R_load_pp rfl (.no rfl) rfl (.tmp rfl fun _ => rfl) rfl ty66 rfl rfl | exact R_load_vw rfl (.no rfl) rfl (.tmp rfl fun _ => rfl) ty66 rfl rfl | exact R_load_pr rfl (.no rfl) rfl (.tmp rfl fun _ => rfl) rfl (by first | assumption | exact map_get (by assumption)) ty66 rfl rfl)) rfl ?_
      refine AWl.add (R_alloc 9 rfl rfl rfl in66 rfl rfl rfl) rfl ?_
      refine AWl.chgb (R_store_pb rfl rfl rfl (.tmp rfl fun _ => rfl) (.tmp rfl fun _ => rfl) rfl ty66 rfl rfl rfl rfl rfl) ?_
      refine AWl.nil ?_
      -- region 7
      refine AW.region ?_
      refine AWl.put (R_move rfl (.no rfl) rfl (.tmp rfl fun _ => rfl)) rfl ?_
      refine AWl.put ((by first | exact R_load rfl (.no rfl) rfl (.tmp rfl fun _ => rfl) ty25 rfl rfl | exact R_load_pp rfl (.no rfl) rfl (.tmp rfl fun _ => rfl) rfl ty25 rfl rfl | exact R_load_vw rfl (.no rfl) rfl (.tmp rfl fun _ => rfl) ty25 rfl rfl | exact R_load_pr rfl (.no rfl) rfl (.tmp rfl fun _ => rfl) rfl (by first | assumption | exact map_get (by assumption)) ty25 rfl rfl)) rfl ?_
      refine AWl.put (R_move rfl (.no rfl) rfl (.tmp rfl fun _ => rfl)) rfl ?_
      refine AWl.put ((by first | exact R_load rfl (.no rfl) rfl (.tmp rfl fun _ => rfl) ty66 rfl rfl | exact R_load_pp rfl (.no rfl) rfl (.tmp rfl fun _ => rfl) rfl ty66 rfl rfl | exact R_load_vw rfl (.no rfl) rfl (.tmp rfl fun _ => rfl) ty66 rfl rfl | exact R_load_pr rfl (.no rfl) rfl (.tmp rfl fun _ => rfl) rfl (by first | assumption | exact map_get (by assumption)) ty66 rfl rfl)) rfl ?_
      refine AWl.put (R_callz (FnT.fr (implStepCost _ _ _)) rfl (.no rfl) rfl (.cons (.tmp rfl fun _ => rfl) rfl (.cons (.tmp rfl fun _ => rfl) rfl (.cons (.tmp rfl fun _ => rfl) rfl .nil)))) rfl ?_
      refine AWl.put (R_add rfl (.no rfl) rfl (.tmp rfl fun _ => rfl) (.tmp rfl fun _ => rfl) (fun _ => by omega)) rfl ?_
      refine AWl.put (R_assign rfl (.no rfl) rfl (.tmp rfl fun _ => rfl)) rfl ?_
      refine AWl.nil ?_
      -- region 8
      refine AW.region ?_
      refine AWl.put (R_add rfl (.no rfl) rfl (.tmp rfl fun _ => rfl) (.const rfl) (fun _ => by omega)) rfl ?_
      refine AWl.put (R_move rfl (.no rfl) rfl (.tmp rfl fun _ => rfl)) rfl ?_
      refine AWl.nil ?_
      refine Round2.next (k + 1) (n + stepCost g l s) ⟨by omega, he⟩ (by omega) (Le.sub0 rfl ⟨rfl, rfl, rfl, rfl, rfl, rfl, rfl, trivial⟩ trivial)
    · skip
      try simp at hlt
      refine AW.exit ?_
      refine AW.seq ?_
      -- region 9
      refine AW.region ?_
      refine AWl.put (R_move rfl (.no rfl) rfl (.tmp rfl fun _ => rfl)) rfl ?_
      refine AWl.put (R_assign rfl (.no rfl) rfl (.tmp rfl fun _ => rfl)) rfl ?_
      refine AWl.nil ?_
      refine AW.ret ?_
      refine Res.v rfl rfl ?_
      unfold walkCost; rw [if_pos (by grind), he, List.drop_eq_nil_of_le (by omega)]; rfl
theorem specWalkCost (g : TGraph) (l : List Int) (w : TWalk) : FnT Try.prog 49 [.agg (cGraph g), .one (.sl 1 (l.map cInt)), .agg (cWalk w)] (.a (.one (.v (.int .i64 (walkCost g l w))))) := by
  refine FnT.walk Try.func49 rfl (by kernel_rfl) Try.ntmps49 rfl fun hlen w0 => ?_
  try simp [cPair, cToken, cExpr, cEdge, cGraph, cStep, cWalk, cChange, cBatch, cHistory, cPositions, cAutomaton, cProductStep, cPathAtom, cConjunction, cView, cDelta, cRegistered, cRegistry] at hlen
  refine AW.seq ?_
  -- region 0
  refine AW.region ?_
  refine AWl.put (R_boxz rfl rfl rfl (.tmp rfl fun _ => rfl) (ts := _) (by first | rfl | exact cells_t1 _ | exact cells_t2 _)) rfl ?_
  refine AWl.put (R_boxz rfl rfl rfl (.tmp rfl fun _ => rfl) (ts := _) (by first | rfl | exact cells_t1 _ | exact cells_t2 _)) rfl ?_
  refine AWl.put (R_assign rfl (.no rfl) rfl (.const rfl)) rfl ?_
  refine AWl.nil ?_
  refine AW.seq ?_
  refine AW.seq ?_
  -- region 1
  refine AW.region ?_
  refine AWl.put (R_move rfl (.no rfl) rfl (.tmp rfl fun _ => rfl)) rfl ?_
  refine AWl.put (R_callz (FnT.fr (specAreCosts _)) rfl (.no rfl) rfl (.cons (.tmp rfl fun _ => rfl) rfl .nil)) rfl ?_
  refine AWl.put (R_not rfl (.no rfl) rfl (.tmp rfl fun _ => rfl)) rfl ?_
  refine AWl.put (R_move rfl (.no rfl) rfl (.tmp rfl fun _ => rfl)) rfl ?_
  refine AWl.put ((by first | exact R_load rfl (by first | exact .not1 rfl rfl rfl rfl | exact .not rfl rfl rfl rfl) rfl (.tmp rfl (by first | exact fun _ => rfl | exact id | simp)) ty25 rfl rfl | exact R_load_pp rfl (by first | exact .not1 rfl rfl rfl rfl | exact .not rfl rfl rfl rfl) rfl (.tmp rfl (by first | exact fun _ => rfl | exact id | simp)) rfl ty25 rfl rfl | exact R_load_vw rfl (by first | exact .not1 rfl rfl rfl rfl | exact .not rfl rfl rfl rfl) rfl (.tmp rfl (by first | exact fun _ => rfl | exact id | simp)) ty25 rfl rfl | exact R_load_pr rfl (by first | exact .not1 rfl rfl rfl rfl | exact .not rfl rfl rfl rfl) rfl (.tmp rfl (by first | exact fun _ => rfl | exact id | simp)) rfl (by first | assumption | exact map_get (by assumption)) ty25 rfl rfl)) rfl ?_
  refine AWl.put ((by first | exact R_load rfl (by first | exact .not1 rfl rfl rfl rfl | exact .not rfl rfl rfl rfl) rfl (.tmp rfl (by first | exact fun _ => rfl | exact id | simp)) ty100 rfl rfl | exact R_load_pp rfl (by first | exact .not1 rfl rfl rfl rfl | exact .not rfl rfl rfl rfl) rfl (.tmp rfl (by first | exact fun _ => rfl | exact id | simp)) rfl ty100 rfl rfl | exact R_load_vw rfl (by first | exact .not1 rfl rfl rfl rfl | exact .not rfl rfl rfl rfl) rfl (.tmp rfl (by first | exact fun _ => rfl | exact id | simp)) ty100 rfl rfl | exact R_load_pr rfl (by first | exact .not1 rfl rfl rfl rfl | exact .not rfl rfl rfl rfl) rfl (.tmp rfl (by first | exact fun _ => rfl | exact id | simp)) rfl (by first | assumption | exact map_get (by assumption)) ty100 rfl rfl)) rfl ?_
  refine AWl.put (R_callz (FnT.fr (specIsValidWalk _ _)) rfl (by first | exact .not1 rfl rfl rfl rfl | exact .not rfl rfl rfl rfl) rfl (.cons (.tmp rfl (by first | exact fun _ => rfl | exact id | simp)) rfl (.cons (.tmp rfl (by first | exact fun _ => rfl | exact id | simp)) rfl .nil))) rfl ?_
  refine AWl.put (R_not rfl (by first | exact .not1 rfl rfl rfl rfl | exact .not rfl rfl rfl rfl) rfl (.tmp rfl (by first | exact fun _ => rfl | exact id | simp))) rfl ?_
  refine AWl.put (R_or rfl (.no rfl) rfl (.tmp rfl fun _ => rfl) (.tmp rfl (by first | exact fun _ => rfl | exact id | simp))) rfl ?_
  refine AWl.nil ?_
  refine AW.cond (.tmp rfl fun _ => rfl) (fun h17 => ?_) (fun h17 => ?_)
  · skip
    try simp at h17
    refine AW.seq ?_
    -- region 2
    refine AW.region ?_
    refine AWl.put (R_assign rfl (.no rfl) rfl (.const rfl)) rfl ?_
    refine AWl.nil ?_
    refine AW.ret ?_
    refine Res.v rfl rfl ?_
    unfold walkCost; rw [if_neg (by grind)]
  · skip
    try simp at h17
    have hl := walkNodes_len (g := g) (w := w) (by grind)
    refine AW.skip ?_
    refine AW.seq ?_
    -- region 3
    refine AW.region ?_
    refine AWl.put (R_assign rfl (.no rfl) rfl (.const rfl)) rfl ?_
    refine AWl.nil ?_
    refine AW.seq ?_
    refine AW.seq ?_
    -- region 4
    refine AW.region ?_
    refine AWl.put (R_assign rfl (.no rfl) rfl (.const rfl)) rfl ?_
    refine AWl.nil ?_
    refine AW.block ?_
    refine AW.loop2 (fun (k : Nat) (n : Int) => (k ≤ w.Steps.length ∧ -k ≤ n ∧ n ≤ 9 * k) ∧ costsGo g l w.Steps 0 = costsGo g l (w.Steps.drop k) n) (fun (k : Nat) (n : Int) => ⟨_, [(8, (true, .a (.one (.t (.v (.int .i64 (k : Nat))))))), (7, (true, .a (.one (.t (.v (.int .i64 n)))))), (1, _), (3, _), (5, _), (6, _)], []⟩) (fun (k : Nat) (n : Int) => w.Steps.length - k) (0) (0) ⟨by simp, rfl⟩ (Le.sub0 rfl ⟨rfl, rfl, rfl, rfl, rfl, rfl, trivial⟩ trivial) ?_
    rintro k n ⟨hk, he⟩
    refine AW.seq ?_
    refine AW.seq ?_
    -- region 5
    refine AW.region ?_
    refine AWl.put (R_move rfl (.no rfl) rfl (.tmp rfl fun _ => rfl)) rfl ?_
    refine AWl.put ((by first | exact R_fieldAddr rfl (.no rfl) rfl (.tmp rfl fun _ => rfl) fl100_1 | exact R_fieldAddr_pp rfl (.no rfl) rfl (.tmp rfl fun _ => rfl) fl100_1 | exact R_fieldAddr_vw rfl (.no rfl) rfl (.tmp rfl fun _ => rfl) fl100_1 | exact R_fieldAddr_pr rfl (.no rfl) rfl (.tmp rfl fun _ => rfl) fl100_1)) rfl ?_
    refine AWl.put ((by first | exact R_load rfl (.no rfl) rfl (.tmp rfl fun _ => rfl) ty98 rfl rfl | exact R_load_pp rfl (.no rfl) rfl (.tmp rfl fun _ => rfl) rfl ty98 rfl rfl | exact R_load_vw rfl (.no rfl) rfl (.tmp rfl fun _ => rfl) ty98 rfl rfl | exact R_load_pr rfl (.no rfl) rfl (.tmp rfl fun _ => rfl) rfl (by first | assumption | exact map_get (by assumption)) ty98 rfl rfl)) rfl ?_
    refine AWl.put ((by first | exact R_lenm rfl (.no rfl) rfl (.tmp rfl fun _ => rfl) (by first | exact .t | exact .rf rfl | exact .vw | exact .nil) Try.underlying98 | exact R_len rfl (.no rfl) rfl (.tmp rfl fun _ => rfl) (by first | exact .t | exact .rf rfl | exact .vw | exact .nil) Try.underlying98)) rfl ?_
    refine AWl.put (R_lt rfl (.no rfl) rfl (.tmp rfl fun _ => rfl) (.tmp rfl fun _ => rfl)) rfl ?_
    refine AWl.nil ?_
    refine AW.cond (.tmp rfl fun _ => rfl) (fun hlt => ?_) (fun hlt => ?_)
    · skip
      try simp at hlt
      obtain ⟨s, hst1⟩ : ∃ s, w.Steps[k]? = some s := ⟨_, List.getElem?_eq_getElem hlt⟩
      rw [costsGo_drop hst1] at he
      have hc := stepCost_range g l s
      refine AW.skip ?_
      refine AW.seq ?_
      refine AW.block ?_
      -- region 7
      refine AW.drawn 10 (nthB [[], [], [], [], [3], [], [3, 4, 5], [3, 4, 5, 6], [1, 2, 3, 4, 5, 6, 7], [0, 1, 2, 3, 4, 5, 6, 7, 8]]) (by kernel_rfl) (by kernel_rfl) (by kernel_rfl) ?_
      refine DrawC.step rfl rfl rfl (Loc.of rfl fun σ' hs => R_move rfl (.no rfl) (hd_sup hs rfl) (.tmp (hs.slots _ _ rfl) fun _ => rfl)) ?_
      refine DrawC.step rfl rfl rfl (Loc.of rfl fun σ' hs => (by first | exact R_load rfl (.no rfl) (hd_sup hs rfl) (.tmp (hs.slots _ _ rfl) fun _ => rfl) ty25 rfl rfl | exact R_load_pp rfl (.no rfl) (hd_sup hs rfl) (.tmp (hs.slots _ _ rfl) fun _ => rfl) (hs.res _ _ rfl) ty25 rfl rfl | exact R_load_vw rfl (.no rfl) (hd_sup hs rfl) (.tmp (hs.slots _ _ rfl) fun _ => rfl) ty25 rfl rfl | exact R_load_pr rfl (.no rfl) (hd_sup hs rfl) (.tmp (hs.slots _ _ rfl) fun _ => rfl) (hs.res _ _ rfl) (by first | assumption | exact map_get (by assumption)) ty25 rfl rfl)) ?_
      refine DrawC.step rfl rfl rfl (Loc.of rfl fun σ' hs => R_move rfl (.no rfl) (hd_sup hs rfl) (.tmp (hs.slots _ _ rfl) fun _ => rfl)) ?_
      refine DrawC.step rfl rfl rfl (Loc.of rfl fun σ' hs => (by first | exact R_fieldAddr rfl (.no rfl) (hd_sup hs rfl) (.tmp (hs.slots _ _ rfl) fun _ => rfl) fl100_1 | exact R_fieldAddr_pp rfl (.no rfl) (hd_sup hs rfl) (.tmp (hs.slots _ _ rfl) fun _ => rfl) fl100_1 | exact R_fieldAddr_vw rfl (.no rfl) (hd_sup hs rfl) (.tmp (hs.slots _ _ rfl) fun _ => rfl) fl100_1 | exact R_fieldAddr_pr rfl (.no rfl) (hd_sup hs rfl) (.tmp (hs.slots _ _ rfl) fun _ => rfl) fl100_1)) ?_
      refine DrawC.step rfl rfl rfl (Loc.of rfl fun σ' hs => (by first | exact R_load rfl (.no rfl) (hd_sup hs rfl) (.tmp (hs.slots _ _ rfl) fun _ => rfl) ty98 rfl rfl | exact R_load_pp rfl (.no rfl) (hd_sup hs rfl) (.tmp (hs.slots _ _ rfl) fun _ => rfl) (hs.res _ _ rfl) ty98 rfl rfl | exact R_load_vw rfl (.no rfl) (hd_sup hs rfl) (.tmp (hs.slots _ _ rfl) fun _ => rfl) ty98 rfl rfl | exact R_load_pr rfl (.no rfl) (hd_sup hs rfl) (.tmp (hs.slots _ _ rfl) fun _ => rfl) (hs.res _ _ rfl) (by first | assumption | exact map_get (by assumption)) ty98 rfl rfl)) ?_
      refine DrawC.step rfl rfl rfl (Loc.of rfl fun σ' hs => R_move rfl (.no rfl) (hd_sup hs rfl) (.tmp (hs.slots _ _ rfl) fun _ => rfl)) ?_
      refine DrawC.step rfl rfl rfl (Loc.of rfl fun σ' hs => (by first | exact R_indexAddr rfl (.no rfl) (hd_sup hs rfl) (.tmp (hs.slots _ _ rfl) fun _ => rfl) (.tmp (hs.slots _ _ rfl) fun _ => rfl) Try.underlying98 ty66 (fun _ => ⟨by omega, (by first | assumption | exact map_get (by assumption))⟩) | exact R_indexAddr_vw rfl (.no rfl) (hd_sup hs rfl) (.tmp (hs.slots _ _ rfl) fun _ => rfl) (.tmp (hs.slots _ _ rfl) fun _ => rfl) Try.underlying98 ty66 (fun _ => ⟨by omega, (by first | assumption | exact map_get (by assumption))⟩) | exact R_indexAddr_rf rfl (.no rfl) (hd_sup hs rfl) (.tmp (hs.slots _ _ rfl) fun _ => rfl) (hs.res _ _ rfl) (.tmp (hs.slots _ _ rfl) fun _ => rfl) Try.underlying98 ty66 (fun _ => ⟨by omega, (by first | assumption | exact map_get (by assumption))⟩))) ?_
      refine DrawC.step rfl rfl rfl (Loc.of rfl fun σ' hs => (by first | exact R_load rfl (.no rfl) (hd_sup hs rfl) (.tmp (hs.slots _ _ rfl) fun _ => rfl) ty66 rfl rfl | exact R_load_pp rfl (.no rfl) (hd_sup hs rfl) (.tmp (hs.slots _ _ rfl) fun _ => rfl) (hs.res _ _ rfl) ty66 rfl rfl | exact R_load_vw rfl (.no rfl) (hd_sup hs rfl) (.tmp (hs.slots _ _ rfl) fun _ => rfl) ty66 rfl rfl | exact R_load_pr rfl (.no rfl) (hd_sup hs rfl) (.tmp (hs.slots _ _ rfl) fun _ => rfl) (hs.res _ _ rfl) (by first | assumption | exact map_get (by assumption)) ty66 rfl rfl)) ?_
      refine DrawC.step rfl rfl rfl (Loc.of rfl fun σ' hs => R_callz (FnT.fr (specStepCost _ _ _)) rfl (.no rfl) (hd_sup hs rfl) (.cons (.tmp (hs.slots _ _ rfl) fun _ => rfl) (readA_sup hs rfl) (.cons (.tmp (hs.slots _ _ rfl) fun _ => rfl) (readA_sup hs rfl) (.cons (.tmp (hs.slots _ _ rfl) fun _ => rfl) (readA_sup hs rfl) .nil)))) ?_
      refine DrawC.step rfl rfl rfl (Loc.of rfl fun σ' hs => R_add rfl (.no rfl) (hd_sup hs rfl) (.tmp (hs.slots _ _ rfl) fun _ => rfl) (.tmp (hs.slots _ _ rfl) fun _ => rfl) (fun _ => by omega)) ?_
      refine DrawC.fin rfl rfl ?_
      refine AWl.put (R_assign rfl (.no rfl) rfl (.tmp rfl fun _ => rfl)) rfl ?_
      refine AWl.nil ?_
      -- region 6
      refine AW.region ?_
      refine AWl.put (R_move rfl (.no rfl) rfl (.tmp rfl fun _ => rfl)) rfl ?_
      refine AWl.put (R_add rfl (.no rfl) rfl (.tmp rfl fun _ => rfl) (.const rfl) (fun _ => by omega)) rfl ?_
      refine AWl.put (R_assign rfl (.no rfl) rfl (.tmp rfl fun _ => rfl)) rfl ?_
      refine AWl.nil ?_
      refine Round2.next (k + 1) (n + stepCost g l s) ⟨by omega, he⟩ (by omega) (Le.sub0 rfl ⟨rfl, rfl, rfl, rfl, rfl, rfl, trivial⟩ trivial)
    · skip
      try simp at hlt
      refine AW.exit ?_
      refine AW.seq ?_
      -- region 8
      refine AW.region ?_
      refine AWl.put (R_move rfl (.no rfl) rfl (.tmp rfl fun _ => rfl)) rfl ?_
      refine AWl.put (R_assign rfl (.no rfl) rfl (.tmp rfl fun _ => rfl)) rfl ?_
      refine AWl.nil ?_
      refine AW.ret ?_
      refine Res.v rfl rfl ?_
      unfold walkCost; rw [if_pos (by grind), he, List.drop_eq_nil_of_le (by omega)]; rfl
end Go.Proofs.Ytjnekafkdellkaa
