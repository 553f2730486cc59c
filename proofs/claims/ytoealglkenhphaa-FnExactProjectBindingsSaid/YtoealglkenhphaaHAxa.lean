/- The helpers of the laws: copies, comparisons, sizes. -/
import Derived.Test.YtoealglkenhphaaAbsTyxa
set_option linter.unusedVariables false
set_option linter.unusedSimpArgs false
namespace Go.Proofs.Ytoealglkenhphaa
open Go.RowKit Go.Q Go.D
set_option maxRecDepth 100000 in
theorem HtoIntS (x : (List Int)) (hz : okIntS x) : FnT Try.prog 8 [.one (.sl 1 (x.map cInt))] (.a (.one (.sl 1 (x.map cInt)))) := by
  refine FnT.walk Try.func8 rfl (by kernel_rfl) Try.ntmps8 rfl fun hlen w0 => ?_
  try simp [cPair, cToken, cExpr, cEdge, cGraph, cStep, cWalk, cChange, cBatch, cHistory, cPositions, cAutomaton, cProductStep, cPathAtom, cConjunction, cView, cDelta, cRegistered, cRegistry] at hlen
  have hz0 : x.length ≤ 1048576 := hz
  refine AW.seq ?_
  refine AW.region ?_
  refine AWl.put (R_assign rfl (.no rfl) rfl (.const rfl)) rfl ?_
  refine AWl.nil ?_
  refine AW.seq ?_
  refine AW.region ?_
  refine AWl.put (R_move rfl (.no rfl) rfl (.tmp rfl fun _ => rfl)) rfl ?_
  refine AWl.put ((by first | exact R_lenm rfl (.no rfl) rfl (.tmp rfl fun _ => rfl) (by first | exact .t | exact .rf rfl | exact .vw | exact .nil) Try.underlying23 | exact R_len rfl (.no rfl) rfl (.tmp rfl fun _ => rfl) (by first | exact .t | exact .rf rfl | exact .vw | exact .nil) Try.underlying23)) rfl ?_
  refine AWl.add (R_makeSlice 7 rfl rfl rfl (.tmp rfl fun _ => rfl) Try.underlying23 in3 rfl rfl rfl rfl (by omega)) rfl ?_
  refine AWl.put (R_assign rfl (.no rfl) rfl (.tmp rfl fun _ => rfl)) rfl ?_
  refine AWl.nil ?_
  refine AW.seq ?_
  refine AW.seq ?_
  refine AW.region ?_
  refine AWl.put (R_assign rfl (.no rfl) rfl (.const rfl)) rfl ?_
  refine AWl.nil ?_
  refine AW.block ?_
  refine AW.loop (β := Nat) (fun i => i ≤ x.length) (fun i => ⟨_, [(4, (true, .a (.one (.t (.v (.int .i64 (i : Nat))))))), (0, _), (2, _), (3, _)], [(7, .row 1 ((x.take i).map cInt ++ List.replicate (x.length - i) [.v (.int .i64 0)]))]⟩) (fun i => x.length - i) (0) (Nat.zero_le _) (Le.sub0 rfl ⟨rfl, rfl, rfl, rfl, trivial⟩ ⟨rfl, trivial⟩) ?_
  intro k hk
  refine AW.seq ?_
  refine AW.seq ?_
  refine AW.region ?_
  refine AWl.put (R_move rfl (.no rfl) rfl (.tmp rfl fun _ => rfl)) rfl ?_
  refine AWl.put (R_move rfl (.no rfl) rfl (.tmp rfl fun _ => rfl)) rfl ?_
  refine AWl.put ((by first | exact R_lenm rfl (.no rfl) rfl (.tmp rfl fun _ => rfl) (by first | exact .t | exact .rf rfl | exact .vw | exact .nil) Try.underlying23 | exact R_len rfl (.no rfl) rfl (.tmp rfl fun _ => rfl) (by first | exact .t | exact .rf rfl | exact .vw | exact .nil) Try.underlying23)) rfl ?_
  refine AWl.put (R_lt rfl (.no rfl) rfl (.tmp rfl fun _ => rfl) (.tmp rfl fun _ => rfl)) rfl ?_
  refine AWl.nil ?_
  refine AW.cond (.tmp rfl fun _ => rfl) (fun hlt => ?_) (fun hlt => ?_)
  · skip
    try simp at hlt
    obtain ⟨y, hx⟩ : ∃ y, x[k]? = some y := ⟨_, List.getElem?_eq_getElem hlt⟩
    refine AW.skip ?_
    refine AW.seq ?_
    refine AW.block ?_
    refine AW.region ?_
    refine AWl.put (R_move rfl (.no rfl) rfl (.tmp rfl fun _ => rfl)) rfl ?_
    refine AWl.put (R_move rfl (.no rfl) rfl (.tmp rfl fun _ => rfl)) rfl ?_
    refine AWl.put (R_move rfl (.no rfl) rfl (.tmp rfl fun _ => rfl)) rfl ?_
    refine AWl.put (R_move rfl (.no rfl) rfl (.tmp rfl fun _ => rfl)) rfl ?_
    refine AWl.put ((by first | exact R_indexAddr rfl (.no rfl) rfl (.tmp rfl fun _ => rfl) (.tmp rfl fun _ => rfl) Try.underlying23 ty3 (fun _ => ⟨by omega, (by first | assumption | exact map_get (by assumption))⟩) | exact R_indexAddr_vw rfl (.no rfl) rfl (.tmp rfl fun _ => rfl) (.tmp rfl fun _ => rfl) Try.underlying23 ty3 (fun _ => ⟨by omega, (by first | assumption | exact map_get (by assumption))⟩) | exact R_indexAddr_rf rfl (.no rfl) rfl (.tmp rfl fun _ => rfl) rfl (.tmp rfl fun _ => rfl) Try.underlying23 ty3 (fun _ => ⟨by omega, (by first | assumption | exact map_get (by assumption))⟩))) rfl ?_
    refine AWl.put ((by first | exact R_load rfl (.no rfl) rfl (.tmp rfl fun _ => rfl) ty3 rfl rfl | exact R_load_pp rfl (.no rfl) rfl (.tmp rfl fun _ => rfl) rfl ty3 rfl rfl | exact R_load_vw rfl (.no rfl) rfl (.tmp rfl fun _ => rfl) ty3 rfl rfl | exact R_load_pr rfl (.no rfl) rfl (.tmp rfl fun _ => rfl) rfl (by first | assumption | exact map_get (by assumption)) ty3 rfl rfl)) rfl ?_
    refine AWl.put ((by first | exact R_indexAddr rfl (.no rfl) rfl (.tmp rfl fun _ => rfl) (.tmp rfl fun _ => rfl) Try.underlying23 ty3 (fun _ => ⟨by omega, made_at hlt⟩) | exact R_indexAddr_vw rfl (.no rfl) rfl (.tmp rfl fun _ => rfl) (.tmp rfl fun _ => rfl) Try.underlying23 ty3 (fun _ => ⟨by omega, made_at hlt⟩) | exact R_indexAddr_rf rfl (.no rfl) rfl (.tmp rfl fun _ => rfl) rfl (.tmp rfl fun _ => rfl) Try.underlying23 ty3 (fun _ => ⟨by omega, made_at hlt⟩))) rfl ?_
    refine AWl.absupd (R_store_pr rfl rfl rfl (.tmp rfl fun _ => rfl) rfl (.tmp rfl fun _ => rfl) rfl (made_at hlt) ty3 rfl rfl rfl rfl) ?_
    refine AWl.nil ?_
    refine AW.region ?_
    refine AWl.put (R_move rfl (.no rfl) rfl (.tmp rfl fun _ => rfl)) rfl ?_
    refine AWl.put (R_add rfl (.no rfl) rfl (.tmp rfl fun _ => rfl) (.const rfl) (fun _ => by omega)) rfl ?_
    refine AWl.put (R_assign rfl (.no rfl) rfl (.tmp rfl fun _ => rfl)) rfl ?_
    refine AWl.nil ?_
    refine Round.next (k + 1) (by omega) (by omega) (Le.sub0 rfl ⟨rfl, rfl, rfl, rfl, trivial⟩ ⟨congrArg (fun r => some (R.row 1 r)) (set_made hx), trivial⟩)
  · skip
    try simp at hlt
    refine AW.exit ?_
    refine AW.seq ?_
    refine AW.region ?_
    refine AWl.put (R_move rfl (.no rfl) rfl (.tmp rfl fun _ => rfl)) rfl ?_
    refine AWl.put (R_assign rfl (.no rfl) rfl (.tmp rfl fun _ => rfl)) rfl ?_
    refine AWl.nil ?_
    refine AW.ret ?_
    refine Res.one rfl (.tmp rfl .nil) rfl ?_
    exact congrArg (fun r => [V0.one (T.sl 1 r)]) (made_end (by omega))
set_option maxRecDepth 100000 in
theorem HeqIntS (x : (List Int)) : FnT Try.prog 11 [.one (.sl 1 (x.map cInt)), .one (.sl 1 (x.map cInt))] (.a (.one (.v (.bool true)))) := by
  refine FnT.walk Try.func11 rfl (by kernel_rfl) Try.ntmps11 rfl fun hlen w0 => ?_
  try simp [cPair, cToken, cExpr, cEdge, cGraph, cStep, cWalk, cChange, cBatch, cHistory, cPositions, cAutomaton, cProductStep, cPathAtom, cConjunction, cView, cDelta, cRegistered, cRegistry] at hlen
  refine AW.seq ?_
  refine AW.region ?_
  refine AWl.put (R_assign rfl (.no rfl) rfl (.const rfl)) rfl ?_
  refine AWl.nil ?_
  refine AW.seq ?_
  refine AW.seq ?_
  refine AW.region ?_
  refine AWl.put (R_move rfl (.no rfl) rfl (.tmp rfl fun _ => rfl)) rfl ?_
  refine AWl.put ((by first | exact R_lenm rfl (.no rfl) rfl (.tmp rfl fun _ => rfl) (by first | exact .t | exact .rf rfl | exact .vw | exact .nil) Try.underlying23 | exact R_len rfl (.no rfl) rfl (.tmp rfl fun _ => rfl) (by first | exact .t | exact .rf rfl | exact .vw | exact .nil) Try.underlying23)) rfl ?_
  refine AWl.put (R_move rfl (.no rfl) rfl (.tmp rfl fun _ => rfl)) rfl ?_
  refine AWl.put ((by first | exact R_lenm rfl (.no rfl) rfl (.tmp rfl fun _ => rfl) (by first | exact .t | exact .rf rfl | exact .vw | exact .nil) Try.underlying23 | exact R_len rfl (.no rfl) rfl (.tmp rfl fun _ => rfl) (by first | exact .t | exact .rf rfl | exact .vw | exact .nil) Try.underlying23)) rfl ?_
  refine AWl.put (R_ne rfl (.no rfl) rfl (.tmp rfl fun _ => rfl) (.tmp rfl fun _ => rfl)) rfl ?_
  refine AWl.nil ?_
  refine AW.cond (.tmp rfl fun _ => rfl) (fun h10 => ?_) (fun h10 => ?_)
  · exact absurd h10 (by simp)
  · skip
    try simp at h10
    refine AW.skip ?_
    refine AW.seq ?_
    refine AW.seq ?_
    refine AW.region ?_
    refine AWl.put (R_assign rfl (.no rfl) rfl (.const rfl)) rfl ?_
    refine AWl.nil ?_
    refine AW.block ?_
    refine AW.loop (β := Nat) (fun i => i ≤ x.length) (fun i => ⟨_, [(5, (true, .a (.one (.t (.v (.int .i64 (i : Nat))))))), (0, _), (1, _)], []⟩) (fun i => x.length - i) (0) (Nat.zero_le _) (Le.sub0 rfl ⟨rfl, rfl, rfl, trivial⟩ trivial) ?_
    intro k hk
    refine AW.seq ?_
    refine AW.seq ?_
    refine AW.region ?_
    refine AWl.put (R_move rfl (.no rfl) rfl (.tmp rfl fun _ => rfl)) rfl ?_
    refine AWl.put (R_move rfl (.no rfl) rfl (.tmp rfl fun _ => rfl)) rfl ?_
    refine AWl.put ((by first | exact R_lenm rfl (.no rfl) rfl (.tmp rfl fun _ => rfl) (by first | exact .t | exact .rf rfl | exact .vw | exact .nil) Try.underlying23 | exact R_len rfl (.no rfl) rfl (.tmp rfl fun _ => rfl) (by first | exact .t | exact .rf rfl | exact .vw | exact .nil) Try.underlying23)) rfl ?_
    refine AWl.put (R_lt rfl (.no rfl) rfl (.tmp rfl fun _ => rfl) (.tmp rfl fun _ => rfl)) rfl ?_
    refine AWl.nil ?_
    refine AW.cond (.tmp rfl fun _ => rfl) (fun hlt => ?_) (fun hlt => ?_)
    · skip
      try simp at hlt
      obtain ⟨y, hx⟩ : ∃ y, x[k]? = some y := ⟨_, List.getElem?_eq_getElem hlt⟩
      refine AW.skip ?_
      refine AW.seq ?_
      refine AW.block ?_
      refine AW.seq ?_
      refine AW.drawn 9 (nthB [[], [], [0, 1], [0, 1, 2], [], [], [4, 5], [4, 5, 6], [0, 1, 2, 3, 4, 5, 6, 7]]) (by kernel_rfl) (by kernel_rfl) (by kernel_rfl) ?_
      refine DrawC.step rfl rfl rfl (Loc.of rfl fun σ' hs => R_move rfl (.no rfl) (hd_sup hs rfl) (.tmp (hs.slots _ _ rfl) fun _ => rfl)) ?_
      refine DrawC.step rfl rfl rfl (Loc.of rfl fun σ' hs => R_move rfl (.no rfl) (hd_sup hs rfl) (.tmp (hs.slots _ _ rfl) fun _ => rfl)) ?_
      refine DrawC.step rfl rfl rfl (Loc.of rfl fun σ' hs => (by first | exact R_indexAddr rfl (.no rfl) (hd_sup hs rfl) (.tmp (hs.slots _ _ rfl) fun _ => rfl) (.tmp (hs.slots _ _ rfl) fun _ => rfl) Try.underlying23 ty3 (fun _ => ⟨by omega, (by first | assumption | exact map_get (by assumption))⟩) | exact R_indexAddr_vw rfl (.no rfl) (hd_sup hs rfl) (.tmp (hs.slots _ _ rfl) fun _ => rfl) (.tmp (hs.slots _ _ rfl) fun _ => rfl) Try.underlying23 ty3 (fun _ => ⟨by omega, (by first | assumption | exact map_get (by assumption))⟩) | exact R_indexAddr_rf rfl (.no rfl) (hd_sup hs rfl) (.tmp (hs.slots _ _ rfl) fun _ => rfl) (hs.res _ _ rfl) (.tmp (hs.slots _ _ rfl) fun _ => rfl) Try.underlying23 ty3 (fun _ => ⟨by omega, (by first | assumption | exact map_get (by assumption))⟩))) ?_
      refine DrawC.step rfl rfl rfl (Loc.of rfl fun σ' hs => (by first | exact R_load rfl (.no rfl) (hd_sup hs rfl) (.tmp (hs.slots _ _ rfl) fun _ => rfl) ty3 rfl rfl | exact R_load_pp rfl (.no rfl) (hd_sup hs rfl) (.tmp (hs.slots _ _ rfl) fun _ => rfl) (hs.res _ _ rfl) ty3 rfl rfl | exact R_load_vw rfl (.no rfl) (hd_sup hs rfl) (.tmp (hs.slots _ _ rfl) fun _ => rfl) ty3 rfl rfl | exact R_load_pr rfl (.no rfl) (hd_sup hs rfl) (.tmp (hs.slots _ _ rfl) fun _ => rfl) (hs.res _ _ rfl) (by first | assumption | exact map_get (by assumption)) ty3 rfl rfl)) ?_
      refine DrawC.step rfl rfl rfl (Loc.of rfl fun σ' hs => R_move rfl (.no rfl) (hd_sup hs rfl) (.tmp (hs.slots _ _ rfl) fun _ => rfl)) ?_
      refine DrawC.step rfl rfl rfl (Loc.of rfl fun σ' hs => R_move rfl (.no rfl) (hd_sup hs rfl) (.tmp (hs.slots _ _ rfl) fun _ => rfl)) ?_
      refine DrawC.step rfl rfl rfl (Loc.of rfl fun σ' hs => (by first | exact R_indexAddr rfl (.no rfl) (hd_sup hs rfl) (.tmp (hs.slots _ _ rfl) fun _ => rfl) (.tmp (hs.slots _ _ rfl) fun _ => rfl) Try.underlying23 ty3 (fun _ => ⟨by omega, (by first | assumption | exact map_get (by assumption))⟩) | exact R_indexAddr_vw rfl (.no rfl) (hd_sup hs rfl) (.tmp (hs.slots _ _ rfl) fun _ => rfl) (.tmp (hs.slots _ _ rfl) fun _ => rfl) Try.underlying23 ty3 (fun _ => ⟨by omega, (by first | assumption | exact map_get (by assumption))⟩) | exact R_indexAddr_rf rfl (.no rfl) (hd_sup hs rfl) (.tmp (hs.slots _ _ rfl) fun _ => rfl) (hs.res _ _ rfl) (.tmp (hs.slots _ _ rfl) fun _ => rfl) Try.underlying23 ty3 (fun _ => ⟨by omega, (by first | assumption | exact map_get (by assumption))⟩))) ?_
      refine DrawC.step rfl rfl rfl (Loc.of rfl fun σ' hs => (by first | exact R_load rfl (.no rfl) (hd_sup hs rfl) (.tmp (hs.slots _ _ rfl) fun _ => rfl) ty3 rfl rfl | exact R_load_pp rfl (.no rfl) (hd_sup hs rfl) (.tmp (hs.slots _ _ rfl) fun _ => rfl) (hs.res _ _ rfl) ty3 rfl rfl | exact R_load_vw rfl (.no rfl) (hd_sup hs rfl) (.tmp (hs.slots _ _ rfl) fun _ => rfl) ty3 rfl rfl | exact R_load_pr rfl (.no rfl) (hd_sup hs rfl) (.tmp (hs.slots _ _ rfl) fun _ => rfl) (hs.res _ _ rfl) (by first | assumption | exact map_get (by assumption)) ty3 rfl rfl)) ?_
      refine DrawC.step rfl rfl rfl (Loc.of rfl fun σ' hs => R_ne rfl (.no rfl) (hd_sup hs rfl) (.tmp (hs.slots _ _ rfl) fun _ => rfl) (.tmp (hs.slots _ _ rfl) fun _ => rfl)) ?_
      refine DrawC.fin rfl rfl ?_
      refine AWl.nil ?_
      refine AW.cond (.tmp rfl fun _ => rfl) (fun h25 => ?_) (fun h25 => ?_)
      · exact absurd h25 (by simp)
      · skip
        try simp at h25
        refine AW.skip ?_
        refine AW.region ?_
        refine AWl.put (R_move rfl (.no rfl) rfl (.tmp rfl fun _ => rfl)) rfl ?_
        refine AWl.put (R_add rfl (.no rfl) rfl (.tmp rfl fun _ => rfl) (.const rfl) (fun _ => by omega)) rfl ?_
        refine AWl.put (R_assign rfl (.no rfl) rfl (.tmp rfl fun _ => rfl)) rfl ?_
        refine AWl.nil ?_
        refine Round.next (k + 1) (by omega) (by omega) (Le.sub0 rfl ⟨rfl, rfl, rfl, trivial⟩ trivial)
    · skip
      try simp at hlt
      refine AW.exit ?_
      refine AW.seq ?_
      refine AW.region ?_
      refine AWl.put (R_assign rfl (.no rfl) rfl (.const rfl)) rfl ?_
      refine AWl.nil ?_
      refine AW.ret ?_
      refine Res.v rfl rfl ?_
      rfl
set_option maxRecDepth 100000 in
theorem HszIntS (x : (List Int)) (a : Int) (ha : 0 ≤ a ∧ a ≤ 1048576) : FnT Try.prog 28 [.one (.sl 1 (x.map cInt)), .one (.v (.int .i64 a))] (.a (.one (.v (.int .i64 (szIntS x a))))) := by
  refine FnT.walk Try.func28 rfl (by kernel_rfl) Try.ntmps28 rfl fun hlen w0 => ?_
  try simp [cPair, cToken, cExpr, cEdge, cGraph, cStep, cWalk, cChange, cBatch, cHistory, cPositions, cAutomaton, cProductStep, cPathAtom, cConjunction, cView, cDelta, cRegistered, cRegistry] at hlen
  refine AW.seq ?_
  refine AW.region ?_
  refine AWl.put (R_assign rfl (.no rfl) rfl (.const rfl)) rfl ?_
  refine AWl.nil ?_
  refine AW.seq ?_
  refine AW.region ?_
  refine AWl.put (R_move rfl (.no rfl) rfl (.tmp rfl fun _ => rfl)) rfl ?_
  refine AWl.put (R_move rfl (.no rfl) rfl (.tmp rfl fun _ => rfl)) rfl ?_
  refine AWl.put ((by first | exact R_lenm rfl (.no rfl) rfl (.tmp rfl fun _ => rfl) (by first | exact .t | exact .rf rfl | exact .vw | exact .nil) Try.underlying23 | exact R_len rfl (.no rfl) rfl (.tmp rfl fun _ => rfl) (by first | exact .t | exact .rf rfl | exact .vw | exact .nil) Try.underlying23)) rfl ?_
  refine AWl.put (R_sub rfl (.no rfl) rfl (.tmp rfl fun _ => rfl) (.tmp rfl fun _ => rfl) (fun _ => by omega)) rfl ?_
  refine AWl.put (R_assign rfl (.no rfl) rfl (.tmp rfl fun _ => rfl)) rfl ?_
  refine AWl.nil ?_
  refine AW.seq ?_
  refine AW.seq ?_
  refine AW.region ?_
  refine AWl.put (R_move rfl (.no rfl) rfl (.tmp rfl fun _ => rfl)) rfl ?_
  refine AWl.put (R_lt rfl (.no rfl) rfl (.tmp rfl fun _ => rfl) (.const rfl)) rfl ?_
  refine AWl.nil ?_
  refine AW.cond (.tmp rfl fun _ => rfl) (fun h10 => ?_) (fun h10 => ?_)
  · skip
    try simp at h10
    refine AW.seq ?_
    refine AW.region ?_
    refine AWl.put (R_assign rfl (.no rfl) rfl (.const rfl)) rfl ?_
    refine AWl.nil ?_
    refine AW.ret ?_
    refine Res.v rfl rfl ?_
    simp [szIntS, szL]; omega
  · skip
    try simp at h10
    refine AW.skip ?_
    refine AW.seq ?_
    refine AW.region ?_
    refine AWl.put (R_move rfl (.no rfl) rfl (.tmp rfl fun _ => rfl)) rfl ?_
    refine AWl.put (R_assign rfl (.no rfl) rfl (.tmp rfl fun _ => rfl)) rfl ?_
    refine AWl.nil ?_
    refine AW.ret ?_
    refine Res.v rfl rfl ?_
    simp [szIntS, szL]; omega
set_option maxRecDepth 100000 in
theorem HtoIntSS (x : (List (List Int))) (hz : okIntSS x) : FnT Try.prog 7 [.one (.sl 1 (x.map cIntS))] (.a (.one (.sl 1 (x.map cIntS)))) := by
  refine FnT.walk Try.func7 rfl (by kernel_rfl) Try.ntmps7 rfl fun hlen w0 => ?_
  try simp [cPair, cToken, cExpr, cEdge, cGraph, cStep, cWalk, cChange, cBatch, cHistory, cPositions, cAutomaton, cProductStep, cPathAtom, cConjunction, cView, cDelta, cRegistered, cRegistry] at hlen
  have hz0 : x.length ≤ 1048576 := hz.1
  refine AW.seq ?_
  refine AW.region ?_
  refine AWl.put (R_assign rfl (.no rfl) rfl (.const rfl)) rfl ?_
  refine AWl.nil ?_
  refine AW.seq ?_
  refine AW.region ?_
  refine AWl.put (R_move rfl (.no rfl) rfl (.tmp rfl fun _ => rfl)) rfl ?_
  refine AWl.put ((by first | exact R_lenm rfl (.no rfl) rfl (.tmp rfl fun _ => rfl) (by first | exact .t | exact .rf rfl | exact .vw | exact .nil) Try.underlying22 | exact R_len rfl (.no rfl) rfl (.tmp rfl fun _ => rfl) (by first | exact .t | exact .rf rfl | exact .vw | exact .nil) Try.underlying22)) rfl ?_
  refine AWl.add (R_makeSlice 7 rfl rfl rfl (.tmp rfl fun _ => rfl) Try.underlying22 in23 rfl rfl rfl rfl (by omega)) rfl ?_
  refine AWl.put (R_assign rfl (.no rfl) rfl (.tmp rfl fun _ => rfl)) rfl ?_
  refine AWl.nil ?_
  refine AW.seq ?_
  refine AW.seq ?_
  refine AW.region ?_
  refine AWl.put (R_assign rfl (.no rfl) rfl (.const rfl)) rfl ?_
  refine AWl.nil ?_
  refine AW.block ?_
  refine AW.loop (β := Nat) (fun i => i ≤ x.length) (fun i => ⟨_, [(4, (true, .a (.one (.t (.v (.int .i64 (i : Nat))))))), (0, _), (2, _), (3, _)], [(7, .row 1 ((x.take i).map cIntS ++ List.replicate (x.length - i) [.v (.slice none 0 0)]))]⟩) (fun i => x.length - i) (0) (Nat.zero_le _) (Le.sub0 rfl ⟨rfl, rfl, rfl, rfl, trivial⟩ ⟨rfl, trivial⟩) ?_
  intro k hk
  refine AW.seq ?_
  refine AW.seq ?_
  refine AW.region ?_
  refine AWl.put (R_move rfl (.no rfl) rfl (.tmp rfl fun _ => rfl)) rfl ?_
  refine AWl.put (R_move rfl (.no rfl) rfl (.tmp rfl fun _ => rfl)) rfl ?_
  refine AWl.put ((by first | exact R_lenm rfl (.no rfl) rfl (.tmp rfl fun _ => rfl) (by first | exact .t | exact .rf rfl | exact .vw | exact .nil) Try.underlying22 | exact R_len rfl (.no rfl) rfl (.tmp rfl fun _ => rfl) (by first | exact .t | exact .rf rfl | exact .vw | exact .nil) Try.underlying22)) rfl ?_
  refine AWl.put (R_lt rfl (.no rfl) rfl (.tmp rfl fun _ => rfl) (.tmp rfl fun _ => rfl)) rfl ?_
  refine AWl.nil ?_
  refine AW.cond (.tmp rfl fun _ => rfl) (fun hlt => ?_) (fun hlt => ?_)
  · skip
    try simp at hlt
    obtain ⟨y, hx⟩ : ∃ y, x[k]? = some y := ⟨_, List.getElem?_eq_getElem hlt⟩
    refine AW.skip ?_
    refine AW.seq ?_
    refine AW.block ?_
    refine AW.region ?_
    refine AWl.put (R_move rfl (.no rfl) rfl (.tmp rfl fun _ => rfl)) rfl ?_
    refine AWl.put (R_move rfl (.no rfl) rfl (.tmp rfl fun _ => rfl)) rfl ?_
    refine AWl.put (R_move rfl (.no rfl) rfl (.tmp rfl fun _ => rfl)) rfl ?_
    refine AWl.put (R_move rfl (.no rfl) rfl (.tmp rfl fun _ => rfl)) rfl ?_
    refine AWl.put ((by first | exact R_indexAddr rfl (.no rfl) rfl (.tmp rfl fun _ => rfl) (.tmp rfl fun _ => rfl) Try.underlying22 ty23 (fun _ => ⟨by omega, (by first | assumption | exact map_get (by assumption))⟩) | exact R_indexAddr_vw rfl (.no rfl) rfl (.tmp rfl fun _ => rfl) (.tmp rfl fun _ => rfl) Try.underlying22 ty23 (fun _ => ⟨by omega, (by first | assumption | exact map_get (by assumption))⟩) | exact R_indexAddr_rf rfl (.no rfl) rfl (.tmp rfl fun _ => rfl) rfl (.tmp rfl fun _ => rfl) Try.underlying22 ty23 (fun _ => ⟨by omega, (by first | assumption | exact map_get (by assumption))⟩))) rfl ?_
    refine AWl.put ((by first | exact R_load rfl (.no rfl) rfl (.tmp rfl fun _ => rfl) ty23 rfl rfl | exact R_load_pp rfl (.no rfl) rfl (.tmp rfl fun _ => rfl) rfl ty23 rfl rfl | exact R_load_vw rfl (.no rfl) rfl (.tmp rfl fun _ => rfl) ty23 rfl rfl | exact R_load_pr rfl (.no rfl) rfl (.tmp rfl fun _ => rfl) rfl (by first | assumption | exact map_get (by assumption)) ty23 rfl rfl)) rfl ?_
    refine AWl.adds (R_call 2000 (HtoIntS _ (hz.2 _ (List.mem_of_getElem? hx))) rfl rfl rfl (.cons (.tmp rfl fun _ => rfl) rfl .nil) rfl rfl) rfl ?_
    refine AWl.put ((by first | exact R_indexAddr rfl (.no rfl) rfl (.tmp rfl fun _ => rfl) (.tmp rfl fun _ => rfl) Try.underlying22 ty23 (fun _ => ⟨by omega, made_at hlt⟩) | exact R_indexAddr_vw rfl (.no rfl) rfl (.tmp rfl fun _ => rfl) (.tmp rfl fun _ => rfl) Try.underlying22 ty23 (fun _ => ⟨by omega, made_at hlt⟩) | exact R_indexAddr_rf rfl (.no rfl) rfl (.tmp rfl fun _ => rfl) rfl (.tmp rfl fun _ => rfl) Try.underlying22 ty23 (fun _ => ⟨by omega, made_at hlt⟩))) rfl ?_
    refine AWl.absupd (R_store_pr rfl rfl rfl (.tmp rfl fun _ => rfl) rfl (.tmp rfl fun _ => rfl) rfl (made_at hlt) ty23 rfl rfl rfl rfl) ?_
    refine AWl.nil ?_
    refine AW.region ?_
    refine AWl.put (R_move rfl (.no rfl) rfl (.tmp rfl fun _ => rfl)) rfl ?_
    refine AWl.put (R_add rfl (.no rfl) rfl (.tmp rfl fun _ => rfl) (.const rfl) (fun _ => by omega)) rfl ?_
    refine AWl.put (R_assign rfl (.no rfl) rfl (.tmp rfl fun _ => rfl)) rfl ?_
    refine AWl.nil ?_
    refine Round.next (k + 1) (by omega) (by omega) (Le.sub0 rfl ⟨rfl, rfl, rfl, rfl, trivial⟩ ⟨congrArg (fun r => some (R.row 1 r)) (set_made hx), trivial⟩)
  · skip
    try simp at hlt
    refine AW.exit ?_
    refine AW.seq ?_
    refine AW.region ?_
    refine AWl.put (R_move rfl (.no rfl) rfl (.tmp rfl fun _ => rfl)) rfl ?_
    refine AWl.put (R_assign rfl (.no rfl) rfl (.tmp rfl fun _ => rfl)) rfl ?_
    refine AWl.nil ?_
    refine AW.ret ?_
    refine Res.one rfl (.tmp rfl .nil) rfl ?_
    exact congrArg (fun r => [V0.one (T.sl 1 r)]) (made_end (by omega))
set_option maxRecDepth 100000 in
theorem HeqIntSS (x : (List (List Int))) : FnT Try.prog 10 [.one (.sl 1 (x.map cIntS)), .one (.sl 1 (x.map cIntS))] (.a (.one (.v (.bool true)))) := by
  refine FnT.walk Try.func10 rfl (by kernel_rfl) Try.ntmps10 rfl fun hlen w0 => ?_
  try simp [cPair, cToken, cExpr, cEdge, cGraph, cStep, cWalk, cChange, cBatch, cHistory, cPositions, cAutomaton, cProductStep, cPathAtom, cConjunction, cView, cDelta, cRegistered, cRegistry] at hlen
  refine AW.seq ?_
  refine AW.region ?_
  refine AWl.put (R_assign rfl (.no rfl) rfl (.const rfl)) rfl ?_
  refine AWl.nil ?_
  refine AW.seq ?_
  refine AW.seq ?_
  refine AW.region ?_
  refine AWl.put (R_move rfl (.no rfl) rfl (.tmp rfl fun _ => rfl)) rfl ?_
  refine AWl.put ((by first | exact R_lenm rfl (.no rfl) rfl (.tmp rfl fun _ => rfl) (by first | exact .t | exact .rf rfl | exact .vw | exact .nil) Try.underlying22 | exact R_len rfl (.no rfl) rfl (.tmp rfl fun _ => rfl) (by first | exact .t | exact .rf rfl | exact .vw | exact .nil) Try.underlying22)) rfl ?_
  refine AWl.put (R_move rfl (.no rfl) rfl (.tmp rfl fun _ => rfl)) rfl ?_
  refine AWl.put ((by first | exact R_lenm rfl (.no rfl) rfl (.tmp rfl fun _ => rfl) (by first | exact .t | exact .rf rfl | exact .vw | exact .nil) Try.underlying22 | exact R_len rfl (.no rfl) rfl (.tmp rfl fun _ => rfl) (by first | exact .t | exact .rf rfl | exact .vw | exact .nil) Try.underlying22)) rfl ?_
  refine AWl.put (R_ne rfl (.no rfl) rfl (.tmp rfl fun _ => rfl) (.tmp rfl fun _ => rfl)) rfl ?_
  refine AWl.nil ?_
  refine AW.cond (.tmp rfl fun _ => rfl) (fun h10 => ?_) (fun h10 => ?_)
  · exact absurd h10 (by simp)
  · skip
    try simp at h10
    refine AW.skip ?_
    refine AW.seq ?_
    refine AW.seq ?_
    refine AW.region ?_
    refine AWl.put (R_assign rfl (.no rfl) rfl (.const rfl)) rfl ?_
    refine AWl.nil ?_
    refine AW.block ?_
    refine AW.loop (β := Nat) (fun i => i ≤ x.length) (fun i => ⟨_, [(5, (true, .a (.one (.t (.v (.int .i64 (i : Nat))))))), (0, _), (1, _)], []⟩) (fun i => x.length - i) (0) (Nat.zero_le _) (Le.sub0 rfl ⟨rfl, rfl, rfl, trivial⟩ trivial) ?_
    intro k hk
    refine AW.seq ?_
    refine AW.seq ?_
    refine AW.region ?_
    refine AWl.put (R_move rfl (.no rfl) rfl (.tmp rfl fun _ => rfl)) rfl ?_
    refine AWl.put (R_move rfl (.no rfl) rfl (.tmp rfl fun _ => rfl)) rfl ?_
    refine AWl.put ((by first | exact R_lenm rfl (.no rfl) rfl (.tmp rfl fun _ => rfl) (by first | exact .t | exact .rf rfl | exact .vw | exact .nil) Try.underlying22 | exact R_len rfl (.no rfl) rfl (.tmp rfl fun _ => rfl) (by first | exact .t | exact .rf rfl | exact .vw | exact .nil) Try.underlying22)) rfl ?_
    refine AWl.put (R_lt rfl (.no rfl) rfl (.tmp rfl fun _ => rfl) (.tmp rfl fun _ => rfl)) rfl ?_
    refine AWl.nil ?_
    refine AW.cond (.tmp rfl fun _ => rfl) (fun hlt => ?_) (fun hlt => ?_)
    · skip
      try simp at hlt
      obtain ⟨y, hx⟩ : ∃ y, x[k]? = some y := ⟨_, List.getElem?_eq_getElem hlt⟩
      refine AW.skip ?_
      refine AW.seq ?_
      refine AW.block ?_
      refine AW.seq ?_
      refine AW.drawn 10 (nthB [[], [], [0, 1], [0, 1, 2], [], [], [4, 5], [4, 5, 6], [0, 1, 2, 3, 4, 5, 6, 7], [0, 1, 2, 3, 4, 5, 6, 7, 8]]) (by kernel_rfl) (by kernel_rfl) (by kernel_rfl) ?_
      refine DrawC.step rfl rfl rfl (Loc.of rfl fun σ' hs => R_move rfl (.no rfl) (hd_sup hs rfl) (.tmp (hs.slots _ _ rfl) fun _ => rfl)) ?_
      refine DrawC.step rfl rfl rfl (Loc.of rfl fun σ' hs => R_move rfl (.no rfl) (hd_sup hs rfl) (.tmp (hs.slots _ _ rfl) fun _ => rfl)) ?_
      refine DrawC.step rfl rfl rfl (Loc.of rfl fun σ' hs => (by first | exact R_indexAddr rfl (.no rfl) (hd_sup hs rfl) (.tmp (hs.slots _ _ rfl) fun _ => rfl) (.tmp (hs.slots _ _ rfl) fun _ => rfl) Try.underlying22 ty23 (fun _ => ⟨by omega, (by first | assumption | exact map_get (by assumption))⟩) | exact R_indexAddr_vw rfl (.no rfl) (hd_sup hs rfl) (.tmp (hs.slots _ _ rfl) fun _ => rfl) (.tmp (hs.slots _ _ rfl) fun _ => rfl) Try.underlying22 ty23 (fun _ => ⟨by omega, (by first | assumption | exact map_get (by assumption))⟩) | exact R_indexAddr_rf rfl (.no rfl) (hd_sup hs rfl) (.tmp (hs.slots _ _ rfl) fun _ => rfl) (hs.res _ _ rfl) (.tmp (hs.slots _ _ rfl) fun _ => rfl) Try.underlying22 ty23 (fun _ => ⟨by omega, (by first | assumption | exact map_get (by assumption))⟩))) ?_
      refine DrawC.step rfl rfl rfl (Loc.of rfl fun σ' hs => (by first | exact R_load rfl (.no rfl) (hd_sup hs rfl) (.tmp (hs.slots _ _ rfl) fun _ => rfl) ty23 rfl rfl | exact R_load_pp rfl (.no rfl) (hd_sup hs rfl) (.tmp (hs.slots _ _ rfl) fun _ => rfl) (hs.res _ _ rfl) ty23 rfl rfl | exact R_load_vw rfl (.no rfl) (hd_sup hs rfl) (.tmp (hs.slots _ _ rfl) fun _ => rfl) ty23 rfl rfl | exact R_load_pr rfl (.no rfl) (hd_sup hs rfl) (.tmp (hs.slots _ _ rfl) fun _ => rfl) (hs.res _ _ rfl) (by first | assumption | exact map_get (by assumption)) ty23 rfl rfl)) ?_
      refine DrawC.step rfl rfl rfl (Loc.of rfl fun σ' hs => R_move rfl (.no rfl) (hd_sup hs rfl) (.tmp (hs.slots _ _ rfl) fun _ => rfl)) ?_
      refine DrawC.step rfl rfl rfl (Loc.of rfl fun σ' hs => R_move rfl (.no rfl) (hd_sup hs rfl) (.tmp (hs.slots _ _ rfl) fun _ => rfl)) ?_
      refine DrawC.step rfl rfl rfl (Loc.of rfl fun σ' hs => (by first | exact R_indexAddr rfl (.no rfl) (hd_sup hs rfl) (.tmp (hs.slots _ _ rfl) fun _ => rfl) (.tmp (hs.slots _ _ rfl) fun _ => rfl) Try.underlying22 ty23 (fun _ => ⟨by omega, (by first | assumption | exact map_get (by assumption))⟩) | exact R_indexAddr_vw rfl (.no rfl) (hd_sup hs rfl) (.tmp (hs.slots _ _ rfl) fun _ => rfl) (.tmp (hs.slots _ _ rfl) fun _ => rfl) Try.underlying22 ty23 (fun _ => ⟨by omega, (by first | assumption | exact map_get (by assumption))⟩) | exact R_indexAddr_rf rfl (.no rfl) (hd_sup hs rfl) (.tmp (hs.slots _ _ rfl) fun _ => rfl) (hs.res _ _ rfl) (.tmp (hs.slots _ _ rfl) fun _ => rfl) Try.underlying22 ty23 (fun _ => ⟨by omega, (by first | assumption | exact map_get (by assumption))⟩))) ?_
      refine DrawC.step rfl rfl rfl (Loc.of rfl fun σ' hs => (by first | exact R_load rfl (.no rfl) (hd_sup hs rfl) (.tmp (hs.slots _ _ rfl) fun _ => rfl) ty23 rfl rfl | exact R_load_pp rfl (.no rfl) (hd_sup hs rfl) (.tmp (hs.slots _ _ rfl) fun _ => rfl) (hs.res _ _ rfl) ty23 rfl rfl | exact R_load_vw rfl (.no rfl) (hd_sup hs rfl) (.tmp (hs.slots _ _ rfl) fun _ => rfl) ty23 rfl rfl | exact R_load_pr rfl (.no rfl) (hd_sup hs rfl) (.tmp (hs.slots _ _ rfl) fun _ => rfl) (hs.res _ _ rfl) (by first | assumption | exact map_get (by assumption)) ty23 rfl rfl)) ?_
      refine DrawC.step rfl rfl rfl (Loc.of rfl fun σ' hs => R_callz (FnT.fr (HeqIntS _)) rfl (.no rfl) (hd_sup hs rfl) (.cons (.tmp (hs.slots _ _ rfl) fun _ => rfl) (readA_sup hs rfl) (.cons (.tmp (hs.slots _ _ rfl) fun _ => rfl) (readA_sup hs rfl) .nil))) ?_
      refine DrawC.step rfl rfl rfl (Loc.of rfl fun σ' hs => R_not rfl (.no rfl) (hd_sup hs rfl) (.tmp (hs.slots _ _ rfl) fun _ => rfl)) ?_
      refine DrawC.fin rfl rfl ?_
      refine AWl.nil ?_
      refine AW.cond (.tmp rfl fun _ => rfl) (fun h26 => ?_) (fun h26 => ?_)
      · exact absurd h26 (by simp)
      · skip
        try simp at h26
        refine AW.skip ?_
        refine AW.region ?_
        refine AWl.put (R_move rfl (.no rfl) rfl (.tmp rfl fun _ => rfl)) rfl ?_
        refine AWl.put (R_add rfl (.no rfl) rfl (.tmp rfl fun _ => rfl) (.const rfl) (fun _ => by omega)) rfl ?_
        refine AWl.put (R_assign rfl (.no rfl) rfl (.tmp rfl fun _ => rfl)) rfl ?_
        refine AWl.nil ?_
        refine Round.next (k + 1) (by omega) (by omega) (Le.sub0 rfl ⟨rfl, rfl, rfl, trivial⟩ trivial)
    · skip
      try simp at hlt
      refine AW.exit ?_
      refine AW.seq ?_
      refine AW.region ?_
      refine AWl.put (R_assign rfl (.no rfl) rfl (.const rfl)) rfl ?_
      refine AWl.nil ?_
      refine AW.ret ?_
      refine Res.v rfl rfl ?_
      rfl
set_option maxRecDepth 100000 in
theorem HszIntSS (x : (List (List Int))) (a : Int) (ha : 0 ≤ a ∧ a ≤ 1048576) : FnT Try.prog 5 [.one (.sl 1 (x.map cIntS)), .one (.v (.int .i64 a))] (.a (.one (.v (.int .i64 (szIntSS x a))))) := by
  refine FnT.walk Try.func5 rfl (by kernel_rfl) Try.ntmps5 rfl fun hlen w0 => ?_
  try simp [cPair, cToken, cExpr, cEdge, cGraph, cStep, cWalk, cChange, cBatch, cHistory, cPositions, cAutomaton, cProductStep, cPathAtom, cConjunction, cView, cDelta, cRegistered, cRegistry] at hlen
  refine AW.seq ?_
  refine AW.region ?_
  refine AWl.put (R_assign rfl (.no rfl) rfl (.const rfl)) rfl ?_
  refine AWl.nil ?_
  refine AW.seq ?_
  refine AW.region ?_
  refine AWl.put (R_move rfl (.no rfl) rfl (.tmp rfl fun _ => rfl)) rfl ?_
  refine AWl.put (R_move rfl (.no rfl) rfl (.tmp rfl fun _ => rfl)) rfl ?_
  refine AWl.put ((by first | exact R_lenm rfl (.no rfl) rfl (.tmp rfl fun _ => rfl) (by first | exact .t | exact .rf rfl | exact .vw | exact .nil) Try.underlying22 | exact R_len rfl (.no rfl) rfl (.tmp rfl fun _ => rfl) (by first | exact .t | exact .rf rfl | exact .vw | exact .nil) Try.underlying22)) rfl ?_
  refine AWl.put (R_sub rfl (.no rfl) rfl (.tmp rfl fun _ => rfl) (.tmp rfl fun _ => rfl) (fun _ => by omega)) rfl ?_
  refine AWl.put (R_assign rfl (.no rfl) rfl (.tmp rfl fun _ => rfl)) rfl ?_
  refine AWl.nil ?_
  refine AW.seq ?_
  refine AW.seq ?_
  refine AW.region ?_
  refine AWl.put (R_move rfl (.no rfl) rfl (.tmp rfl fun _ => rfl)) rfl ?_
  refine AWl.put (R_lt rfl (.no rfl) rfl (.tmp rfl fun _ => rfl) (.const rfl)) rfl ?_
  refine AWl.nil ?_
  refine AW.cond (.tmp rfl fun _ => rfl) (fun h11 => ?_) (fun h11 => ?_)
  · skip
    try simp at h11
    refine AW.seq ?_
    refine AW.region ?_
    refine AWl.put (R_assign rfl (.no rfl) rfl (.const rfl)) rfl ?_
    refine AWl.nil ?_
    refine AW.ret ?_
    refine Res.v rfl rfl ?_
    unfold szIntSS; rw [if_pos (by omega)]
  · skip
    try simp at h11
    refine AW.skip ?_
    refine AW.seq ?_
    refine AW.seq ?_
    refine AW.region ?_
    refine AWl.put (R_assign rfl (.no rfl) rfl (.const rfl)) rfl ?_
    refine AWl.nil ?_
    refine AW.block ?_
    refine AW.loop (β := Nat × Int) (fun i => (i.1 ≤ x.length ∧ 0 ≤ i.2 ∧ i.2 ≤ 1048576) ∧ szFold szIntS x (a - x.length) = szFold szIntS (x.drop i.1) i.2) (fun i => ⟨_, [(5, (true, .a (.one (.t (.v (.int .i64 (i.1 : Nat))))))), (1, (true, .a (.one (.t (.v (.int .i64 i.2)))))), (0, _)], []⟩) (fun i => x.length - i.1) ((0, a - x.length)) ⟨⟨Nat.zero_le _, by simp only []; omega, by simp only []; omega⟩, rfl⟩ (Le.sub0 rfl ⟨rfl, rfl, rfl, trivial⟩ trivial) ?_
    intro ⟨k, b⟩ ⟨hk, hf⟩
    dsimp only at hk hf
    refine AW.seq ?_
    refine AW.seq ?_
    refine AW.region ?_
    refine AWl.put (R_move rfl (.no rfl) rfl (.tmp rfl fun _ => rfl)) rfl ?_
    refine AWl.put (R_move rfl (.no rfl) rfl (.tmp rfl fun _ => rfl)) rfl ?_
    refine AWl.put ((by first | exact R_lenm rfl (.no rfl) rfl (.tmp rfl fun _ => rfl) (by first | exact .t | exact .rf rfl | exact .vw | exact .nil) Try.underlying22 | exact R_len rfl (.no rfl) rfl (.tmp rfl fun _ => rfl) (by first | exact .t | exact .rf rfl | exact .vw | exact .nil) Try.underlying22)) rfl ?_
    refine AWl.put (R_lt rfl (.no rfl) rfl (.tmp rfl fun _ => rfl) (.tmp rfl fun _ => rfl)) rfl ?_
    refine AWl.nil ?_
    refine AW.cond (.tmp rfl fun _ => rfl) (fun hlt => ?_) (fun hlt => ?_)
    · skip
      try simp at hlt
      obtain ⟨y, hx⟩ : ∃ y, x[k]? = some y := ⟨_, List.getElem?_eq_getElem hlt⟩
      rw [szFold_drop hx] at hf
      refine AW.skip ?_
      refine AW.seq ?_
      refine AW.block ?_
      refine AW.seq ?_
      refine AW.region ?_
      refine AWl.put (R_move rfl (.no rfl) rfl (.tmp rfl fun _ => rfl)) rfl ?_
      refine AWl.put (R_move rfl (.no rfl) rfl (.tmp rfl fun _ => rfl)) rfl ?_
      refine AWl.put ((by first | exact R_indexAddr rfl (.no rfl) rfl (.tmp rfl fun _ => rfl) (.tmp rfl fun _ => rfl) Try.underlying22 ty23 (fun _ => ⟨by omega, (by first | assumption | exact map_get (by assumption))⟩) | exact R_indexAddr_vw rfl (.no rfl) rfl (.tmp rfl fun _ => rfl) (.tmp rfl fun _ => rfl) Try.underlying22 ty23 (fun _ => ⟨by omega, (by first | assumption | exact map_get (by assumption))⟩) | exact R_indexAddr_rf rfl (.no rfl) rfl (.tmp rfl fun _ => rfl) rfl (.tmp rfl fun _ => rfl) Try.underlying22 ty23 (fun _ => ⟨by omega, (by first | assumption | exact map_get (by assumption))⟩))) rfl ?_
      refine AWl.put ((by first | exact R_load rfl (.no rfl) rfl (.tmp rfl fun _ => rfl) ty23 rfl rfl | exact R_load_pp rfl (.no rfl) rfl (.tmp rfl fun _ => rfl) rfl ty23 rfl rfl | exact R_load_vw rfl (.no rfl) rfl (.tmp rfl fun _ => rfl) ty23 rfl rfl | exact R_load_pr rfl (.no rfl) rfl (.tmp rfl fun _ => rfl) rfl (by first | assumption | exact map_get (by assumption)) ty23 rfl rfl)) rfl ?_
      refine AWl.put (R_move rfl (.no rfl) rfl (.tmp rfl fun _ => rfl)) rfl ?_
      refine AWl.put (R_callz (FnT.fr (HszIntS _ _ (by omega))) rfl (.no rfl) rfl (.cons (.tmp rfl fun _ => rfl) rfl (.cons (.tmp rfl fun _ => rfl) rfl .nil))) rfl ?_
      refine AWl.put (R_assign rfl (.no rfl) rfl (.tmp rfl fun _ => rfl)) rfl ?_
      refine AWl.nil ?_
      refine AW.seq ?_
      refine AW.region ?_
      refine AWl.put (R_move rfl (.no rfl) rfl (.tmp rfl fun _ => rfl)) rfl ?_
      refine AWl.put (R_lt rfl (.no rfl) rfl (.tmp rfl fun _ => rfl) (.const rfl)) rfl ?_
      refine AWl.nil ?_
      refine AW.cond (.tmp rfl fun _ => rfl) (fun h25 => ?_) (fun h25 => ?_)
      · skip
        try simp at h25
        refine AW.seq ?_
        refine AW.region ?_
        refine AWl.put (R_assign rfl (.no rfl) rfl (.const rfl)) rfl ?_
        refine AWl.nil ?_
        refine AW.ret ?_
        refine Res.v rfl rfl ?_
        unfold szIntSS; rw [if_neg (by omega), hf, if_pos (by omega)]
      · skip
        try simp at h25
        have hb := szIntS_ok y b hk.2.1 hk.2.2
        rw [if_neg (by omega)] at hf
        refine AW.skip ?_
        refine AW.region ?_
        refine AWl.put (R_move rfl (.no rfl) rfl (.tmp rfl fun _ => rfl)) rfl ?_
        refine AWl.put (R_add rfl (.no rfl) rfl (.tmp rfl fun _ => rfl) (.const rfl) (fun _ => by omega)) rfl ?_
        refine AWl.put (R_assign rfl (.no rfl) rfl (.tmp rfl fun _ => rfl)) rfl ?_
        refine AWl.nil ?_
        refine Round.next (k + 1, szIntS y b) ⟨⟨by simp only []; omega, by simp only []; omega, by simp only []; omega⟩, hf⟩ (by simp only []; omega) (Le.sub0 rfl ⟨rfl, rfl, rfl, trivial⟩ trivial)
    · skip
      try simp at hlt
      refine AW.exit ?_
      refine AW.seq ?_
      refine AW.region ?_
      refine AWl.put (R_move rfl (.no rfl) rfl (.tmp rfl fun _ => rfl)) rfl ?_
      refine AWl.put (R_assign rfl (.no rfl) rfl (.tmp rfl fun _ => rfl)) rfl ?_
      refine AWl.nil ?_
      refine AW.ret ?_
      refine Res.v rfl rfl ?_
      unfold szIntSS; rw [if_neg (by omega), hf, List.drop_eq_nil_of_le (by omega)]; rfl
end Go.Proofs.Ytoealglkenhphaa
