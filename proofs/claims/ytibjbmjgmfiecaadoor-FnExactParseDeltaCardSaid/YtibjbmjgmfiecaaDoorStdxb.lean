/- Package slices, for the types of the program. -/
import Derived.Test.YtibjbmjgmfiecaaDoorMDxb
set_option linter.unusedVariables false
set_option linter.unusedSimpArgs false
namespace Go.Q
theorem findI_mem {α : Type} [DecidableEq α] (v : α) : ∀ (l : List α) (m : Nat), decide (0 ≤ findI (fun x => decide (v = x)) l m) = decide (v ∈ l)
  | [], m => by simp [findI]
  | x :: l, m => by
    rw [findI]
    by_cases h : v = x
    · subst h; simp
    · rw [if_neg (by simpa using h), findI_mem v l (m + 1)]; simp [h]
theorem findI_any {α : Type} (p : α → Bool) : ∀ (l : List α) (m : Nat), decide (0 ≤ findI p l m) = l.any p
  | [], m => by simp [findI]
  | x :: l, m => by
    rw [findI, List.any_cons]
    by_cases h : p x = true
    · rw [if_pos h, h]; simp
    · rw [if_neg h, findI_any p l (m + 1)]; simp [h]
end Go.Q
namespace Go.Proofs.YtibjbmjgmfiecaaDoor
open Go.RowKit Go.Q Go.D
set_option maxRecDepth 100000 in
theorem slicesIndexPair (l : List TPair) (v : TPair) : FnT Tryd.prog 123 [.one (.sl 2 (l.map cPair)), .agg (cPair v)] (.a (.one (.v (.int .i64 (findI (fun x => decide (v = x)) l 0))))) := by
  refine FnT.walk Tryd.func123 rfl (by kernel_rfl) Tryd.ntmps123 rfl fun hlen w0 => ?_
  try simp [cPair, cToken, cExpr, cEdge, cGraph, cStep, cWalk, cChange, cBatch, cHistory, cPositions, cAutomaton, cProductStep, cPathAtom, cConjunction, cView, cDelta, cRegistered, cRegistry] at hlen
  refine AW.seq ?_
  refine AW.region ?_
  refine AWl.put (R_boxz rfl rfl rfl (.tmp rfl fun _ => rfl) (ts := _) (by first | rfl | exact cells_t1 _ | exact cells_t2 _)) rfl ?_
  refine AWl.put (R_assign rfl (.no rfl) rfl (.const rfl)) rfl ?_
  refine AWl.nil ?_
  refine AW.seq ?_
  refine AW.seq ?_
  refine AW.region ?_
  refine AWl.put (R_move rfl (.no rfl) rfl (.tmp rfl fun _ => rfl)) rfl ?_
  refine AWl.put ((by first | exact R_lenm rfl (.no rfl) rfl (.tmp rfl fun _ => rfl) (by first | exact .t | exact .rf rfl | exact .vw | exact .nil) Tryd.underlying33 | exact R_len rfl (.no rfl) rfl (.tmp rfl fun _ => rfl) (by first | exact .t | exact .rf rfl | exact .vw | exact .nil) Tryd.underlying33)) rfl ?_
  refine AWl.put (R_move rfl (.no rfl) rfl (.const rfl)) rfl ?_
  refine AWl.nil ?_
  refine AW.block ?_
  refine AW.loop (β := Nat) (fun x => x ≤ (l).length ∧ ∀ j y, j < x → (l)[j]? = some y → (fun x => !decide (v = x)) y = true) (fun x => ⟨_, [(8, (true, .a (.one (.t (.v (.int .i64 (x : Nat))))))), (0, _), (3, _), (7, _)], []⟩) (fun x => (l).length - x) (0) ⟨Nat.zero_le _, fun j y hj => absurd hj (Nat.not_lt_zero j)⟩ (Le.sub0 rfl ⟨rfl, rfl, rfl, rfl, trivial⟩ trivial) ?_
  intro k hk
  refine AW.seq ?_
  refine AW.region ?_
  refine AWl.put (R_lt rfl (.no rfl) rfl (.tmp rfl fun _ => rfl) (.tmp rfl fun _ => rfl)) rfl ?_
  refine AWl.nil ?_
  refine AW.seq ?_
  refine AW.cond (.tmp rfl fun _ => rfl) (fun hlt => ?_) (fun hlt => ?_)
  · skip
    try simp at hlt
    obtain ⟨x, hx⟩ : ∃ ξ, (l)[k]? = some ξ := ⟨_, List.getElem?_eq_getElem (by first | exact hlt | omega)⟩
    refine AW.skip ?_
    refine AW.seq ?_
    refine AW.block ?_
    refine AW.seq ?_
    refine AW.region ?_
    refine AWl.put (R_move rfl (.no rfl) rfl (.tmp rfl fun _ => rfl)) rfl ?_
    refine AWl.put (R_assign rfl (.no rfl) rfl (.tmp rfl fun _ => rfl)) rfl ?_
    refine AWl.nil ?_
    refine AW.seq ?_
    refine AW.drawn 6 (nthB [[], [], [], [1, 2], [1, 2, 3], [0, 1, 2, 3, 4]]) (by kernel_rfl) (by kernel_rfl) (by kernel_rfl) ?_
    refine DrawC.step rfl rfl rfl (Loc.of rfl fun σ' hs => (by first | exact R_load rfl (.no rfl) (hd_sup hs rfl) (.tmp (hs.slots _ _ rfl) fun _ => rfl) ty90 rfl rfl | exact R_load_pp rfl (.no rfl) (hd_sup hs rfl) (.tmp (hs.slots _ _ rfl) fun _ => rfl) (hs.res _ _ rfl) ty90 rfl rfl | exact R_load_vw rfl (.no rfl) (hd_sup hs rfl) (.tmp (hs.slots _ _ rfl) fun _ => rfl) ty90 rfl rfl | exact R_load_pr rfl (.no rfl) (hd_sup hs rfl) (.tmp (hs.slots _ _ rfl) fun _ => rfl) (hs.res _ _ rfl) (by first | assumption | exact map_get (by assumption)) ty90 rfl rfl)) ?_
    refine DrawC.step rfl rfl rfl (Loc.of rfl fun σ' hs => R_move rfl (.no rfl) (hd_sup hs rfl) (.tmp (hs.slots _ _ rfl) fun _ => rfl)) ?_
    refine DrawC.step rfl rfl rfl (Loc.of rfl fun σ' hs => R_move rfl (.no rfl) (hd_sup hs rfl) (.tmp (hs.slots _ _ rfl) fun _ => rfl)) ?_
    refine DrawC.step rfl rfl rfl (Loc.of rfl fun σ' hs => (by first | exact R_indexAddr rfl (.no rfl) (hd_sup hs rfl) (.tmp (hs.slots _ _ rfl) fun _ => rfl) (.tmp (hs.slots _ _ rfl) fun _ => rfl) Tryd.underlying33 ty90 (fun _ => ⟨by omega, (by first | assumption | exact map_get (by assumption))⟩) | exact R_indexAddr_vw rfl (.no rfl) (hd_sup hs rfl) (.tmp (hs.slots _ _ rfl) fun _ => rfl) (.tmp (hs.slots _ _ rfl) fun _ => rfl) Tryd.underlying33 ty90 (fun _ => ⟨by omega, (by first | assumption | exact map_get (by assumption))⟩) | exact R_indexAddr_rf rfl (.no rfl) (hd_sup hs rfl) (.tmp (hs.slots _ _ rfl) fun _ => rfl) (hs.res _ _ rfl) (.tmp (hs.slots _ _ rfl) fun _ => rfl) Tryd.underlying33 ty90 (fun _ => ⟨by omega, (by first | assumption | exact map_get (by assumption))⟩))) ?_
    refine DrawC.step rfl rfl rfl (Loc.of rfl fun σ' hs => (by first | exact R_load rfl (.no rfl) (hd_sup hs rfl) (.tmp (hs.slots _ _ rfl) fun _ => rfl) ty90 rfl rfl | exact R_load_pp rfl (.no rfl) (hd_sup hs rfl) (.tmp (hs.slots _ _ rfl) fun _ => rfl) (hs.res _ _ rfl) ty90 rfl rfl | exact R_load_vw rfl (.no rfl) (hd_sup hs rfl) (.tmp (hs.slots _ _ rfl) fun _ => rfl) ty90 rfl rfl | exact R_load_pr rfl (.no rfl) (hd_sup hs rfl) (.tmp (hs.slots _ _ rfl) fun _ => rfl) (hs.res _ _ rfl) (by first | assumption | exact map_get (by assumption)) ty90 rfl rfl)) ?_
    refine DrawC.step rfl rfl rfl (Loc.of rfl fun σ' hs => R_eqs rfl (.no rfl) (hd_sup hs rfl) (.tmp (hs.slots _ _ rfl) fun _ => rfl) (.tmp (hs.slots _ _ rfl) fun _ => rfl) rfl rfl (by kernel_rfl) (eqS90 _ _ _ _)) ?_
    refine DrawC.fin rfl rfl ?_
    refine AWl.nil ?_
    refine AW.cond (.tmp rfl fun _ => rfl) (fun h16 => ?_) (fun h16 => ?_)
    · skip
      try simp at h16
      refine AW.seq ?_
      refine AW.le (σ' := ⟨_, [(0, _), (3, _), (5, _), (7, _), (8, _)], []⟩) (Le.sub0 rfl ⟨rfl, rfl, rfl, rfl, rfl, trivial⟩ trivial) ?_
      refine AW.region ?_
      refine AWl.put (R_move rfl (.no rfl) rfl (.tmp rfl fun _ => rfl)) rfl ?_
      refine AWl.put (R_assign rfl (.no rfl) rfl (.tmp rfl fun _ => rfl)) rfl ?_
      refine AWl.nil ?_
      refine AW.ret ?_
      refine Res.v rfl rfl ?_
      rw [findI_at (k := k) hk.2 hx (by first | (simp [h16]; done) | grind [TPair.ext_iff'])]; simp
    · skip
      try simp at h16
      refine AW.skip ?_
      refine AW.le (σ' := ⟨_, [(0, _), (3, _), (5, _), (7, _), (8, _)], []⟩) (Le.sub0 rfl ⟨rfl, rfl, rfl, rfl, rfl, trivial⟩ trivial) ?_
      refine AW.region ?_
      refine AWl.put (R_add rfl (.no rfl) rfl (.tmp rfl fun _ => rfl) (.const rfl) (fun _ => by omega)) rfl ?_
      refine AWl.put (R_move rfl (.no rfl) rfl (.tmp rfl fun _ => rfl)) rfl ?_
      refine AWl.nil ?_
      refine Round.next (k + 1) ⟨by omega, each_succ hk.2 hx (by first | (simp [h16]; done) | simpa [TPair.ext_iff'] using h16 | grind [TPair.ext_iff'])⟩ (by omega) (Le.sub0 rfl ⟨rfl, rfl, rfl, rfl, trivial⟩ trivial)
  · skip
    try simp at hlt
    refine AW.exit ?_
    refine AW.seq ?_
    refine AW.region ?_
    refine AWl.put (R_assign rfl (.no rfl) rfl (.const rfl)) rfl ?_
    refine AWl.nil ?_
    refine AW.ret ?_
    refine Res.v rfl rfl ?_
    rw [findI_none hk.2 (by omega)]
set_option maxRecDepth 100000 in
theorem slicesContainsPair (l : List TPair) (v : TPair) : FnT Tryd.prog 105 [.one (.sl 2 (l.map cPair)), .agg (cPair v)] (.a (.one (.v (.bool (decide (v ∈ l)))))) := by
  refine FnT.walk Tryd.func105 rfl (by kernel_rfl) Tryd.ntmps105 rfl fun hlen w0 => ?_
  try simp [cPair, cToken, cExpr, cEdge, cGraph, cStep, cWalk, cChange, cBatch, cHistory, cPositions, cAutomaton, cProductStep, cPathAtom, cConjunction, cView, cDelta, cRegistered, cRegistry] at hlen
  refine AW.seq ?_
  refine AW.region ?_
  refine AWl.put (R_boxz rfl rfl rfl (.tmp rfl fun _ => rfl) (ts := _) (by first | rfl | exact cells_t1 _ | exact cells_t2 _)) rfl ?_
  refine AWl.put (R_assign rfl (.no rfl) rfl (.const rfl)) rfl ?_
  refine AWl.nil ?_
  refine AW.seq ?_
  refine AW.region ?_
  refine AWl.put (R_move rfl (.no rfl) rfl (.tmp rfl fun _ => rfl)) rfl ?_
  refine AWl.put ((by first | exact R_load rfl (.no rfl) rfl (.tmp rfl fun _ => rfl) ty90 rfl rfl | exact R_load_pp rfl (.no rfl) rfl (.tmp rfl fun _ => rfl) rfl ty90 rfl rfl | exact R_load_vw rfl (.no rfl) rfl (.tmp rfl fun _ => rfl) ty90 rfl rfl | exact R_load_pr rfl (.no rfl) rfl (.tmp rfl fun _ => rfl) rfl (by first | assumption | exact map_get (by assumption)) ty90 rfl rfl)) rfl ?_
  refine AWl.put (R_callz (FnT.fr (slicesIndexPair _ _)) rfl (.no rfl) rfl (.cons (.tmp rfl fun _ => rfl) rfl (.cons (.tmp rfl fun _ => rfl) rfl .nil))) rfl ?_
  refine AWl.put (R_ge rfl (.no rfl) rfl (.tmp rfl fun _ => rfl) (.const rfl)) rfl ?_
  refine AWl.put (R_assign rfl (.no rfl) rfl (.tmp rfl fun _ => rfl)) rfl ?_
  refine AWl.nil ?_
  refine AW.ret ?_
  refine Res.v rfl rfl ?_
  rw [findI_mem]
set_option maxRecDepth 100000 in
theorem IndexFuncPair (l : List TPair) (f : FuncId) (caps : List T) (p : TPair → Bool) (hp : ∀ e, FrT Tryd.prog f ([.agg (cPair e)] ++ caps.map .one) (.a (.one (.v (.bool (p e)))))) : FnT Tryd.prog 122 [.one (.sl 2 (l.map cPair)), .one (.fn (.func f) [] caps)] (.a (.one (.v (.int .i64 (findI p l 0))))) := by
  refine FnT.walk Tryd.func122 rfl (by kernel_rfl) Tryd.ntmps122 rfl fun hlen w0 => ?_
  try simp [cPair, cToken, cExpr, cEdge, cGraph, cStep, cWalk, cChange, cBatch, cHistory, cPositions, cAutomaton, cProductStep, cPathAtom, cConjunction, cView, cDelta, cRegistered, cRegistry] at hlen
  refine AW.seq ?_
  refine AW.region ?_
  refine AWl.put (R_assign rfl (.no rfl) rfl (.const rfl)) rfl ?_
  refine AWl.nil ?_
  refine AW.seq ?_
  refine AW.seq ?_
  refine AW.region ?_
  refine AWl.put (R_move rfl (.no rfl) rfl (.tmp rfl fun _ => rfl)) rfl ?_
  refine AWl.put ((by first | exact R_lenm rfl (.no rfl) rfl (.tmp rfl fun _ => rfl) (by first | exact .t | exact .rf rfl | exact .vw | exact .nil) Tryd.underlying33 | exact R_len rfl (.no rfl) rfl (.tmp rfl fun _ => rfl) (by first | exact .t | exact .rf rfl | exact .vw | exact .nil) Tryd.underlying33)) rfl ?_
  refine AWl.put (R_move rfl (.no rfl) rfl (.const rfl)) rfl ?_
  refine AWl.nil ?_
  refine AW.block ?_
  refine AW.loop (β := Nat) (fun x => x ≤ (l).length ∧ ∀ j y, j < x → (l)[j]? = some y → (fun e => !p e) y = true) (fun x => ⟨_, [(8, (true, .a (.one (.t (.v (.int .i64 (x : Nat))))))), (0, _), (1, _), (7, _)], []⟩) (fun x => (l).length - x) (0) ⟨Nat.zero_le _, fun j y hj => absurd hj (Nat.not_lt_zero j)⟩ (Le.sub0 rfl ⟨rfl, rfl, rfl, rfl, trivial⟩ trivial) ?_
  intro k hk
  refine AW.seq ?_
  refine AW.region ?_
  refine AWl.put (R_lt rfl (.no rfl) rfl (.tmp rfl fun _ => rfl) (.tmp rfl fun _ => rfl)) rfl ?_
  refine AWl.nil ?_
  refine AW.seq ?_
  refine AW.cond (.tmp rfl fun _ => rfl) (fun hlt => ?_) (fun hlt => ?_)
  · skip
    try simp at hlt
    obtain ⟨x, hx⟩ : ∃ ξ, (l)[k]? = some ξ := ⟨_, List.getElem?_eq_getElem (by first | exact hlt | omega)⟩
    refine AW.skip ?_
    refine AW.seq ?_
    refine AW.block ?_
    refine AW.seq ?_
    refine AW.region ?_
    refine AWl.put (R_move rfl (.no rfl) rfl (.tmp rfl fun _ => rfl)) rfl ?_
    refine AWl.put (R_assign rfl (.no rfl) rfl (.tmp rfl fun _ => rfl)) rfl ?_
    refine AWl.nil ?_
    refine AW.seq ?_
    refine AW.region ?_
    refine AWl.put (R_move rfl (.no rfl) rfl (.tmp rfl fun _ => rfl)) rfl ?_
    refine AWl.put (R_move rfl (.no rfl) rfl (.tmp rfl fun _ => rfl)) rfl ?_
    refine AWl.put (R_move rfl (.no rfl) rfl (.tmp rfl fun _ => rfl)) rfl ?_
    refine AWl.put ((by first | exact R_indexAddr rfl (.no rfl) rfl (.tmp rfl fun _ => rfl) (.tmp rfl fun _ => rfl) Tryd.underlying33 ty90 (fun _ => ⟨by omega, (by first | assumption | exact map_get (by assumption))⟩) | exact R_indexAddr_vw rfl (.no rfl) rfl (.tmp rfl fun _ => rfl) (.tmp rfl fun _ => rfl) Tryd.underlying33 ty90 (fun _ => ⟨by omega, (by first | assumption | exact map_get (by assumption))⟩) | exact R_indexAddr_rf rfl (.no rfl) rfl (.tmp rfl fun _ => rfl) rfl (.tmp rfl fun _ => rfl) Tryd.underlying33 ty90 (fun _ => ⟨by omega, (by first | assumption | exact map_get (by assumption))⟩))) rfl ?_
    refine AWl.put ((by first | exact R_load rfl (.no rfl) rfl (.tmp rfl fun _ => rfl) ty90 rfl rfl | exact R_load_pp rfl (.no rfl) rfl (.tmp rfl fun _ => rfl) rfl ty90 rfl rfl | exact R_load_vw rfl (.no rfl) rfl (.tmp rfl fun _ => rfl) ty90 rfl rfl | exact R_load_pr rfl (.no rfl) rfl (.tmp rfl fun _ => rfl) rfl (by first | assumption | exact map_get (by assumption)) ty90 rfl rfl)) rfl ?_
    refine AWl.put (R_callv rfl (.no rfl) rfl (.tmp rfl fun _ => rfl) (.cons (.tmp rfl fun _ => rfl) rfl .nil) (hp _)) rfl ?_
    refine AWl.nil ?_
    refine AW.cond (.tmp rfl fun _ => rfl) (fun h16 => ?_) (fun h16 => ?_)
    · skip
      try simp at h16
      refine AW.seq ?_
      refine AW.le (σ' := ⟨_, [(0, _), (1, _), (5, _), (7, _), (8, _)], []⟩) (Le.sub0 rfl ⟨rfl, rfl, rfl, rfl, rfl, trivial⟩ trivial) ?_
      refine AW.region ?_
      refine AWl.put (R_move rfl (.no rfl) rfl (.tmp rfl fun _ => rfl)) rfl ?_
      refine AWl.put (R_assign rfl (.no rfl) rfl (.tmp rfl fun _ => rfl)) rfl ?_
      refine AWl.nil ?_
      refine AW.ret ?_
      refine Res.v rfl rfl ?_
      rw [findI_at (k := k) hk.2 hx h16]; simp
    · skip
      try simp at h16
      refine AW.skip ?_
      refine AW.le (σ' := ⟨_, [(0, _), (1, _), (5, _), (7, _), (8, _)], []⟩) (Le.sub0 rfl ⟨rfl, rfl, rfl, rfl, rfl, trivial⟩ trivial) ?_
      refine AW.region ?_
      refine AWl.put (R_add rfl (.no rfl) rfl (.tmp rfl fun _ => rfl) (.const rfl) (fun _ => by omega)) rfl ?_
      refine AWl.put (R_move rfl (.no rfl) rfl (.tmp rfl fun _ => rfl)) rfl ?_
      refine AWl.nil ?_
      refine Round.next (k + 1) ⟨by omega, each_succ hk.2 hx (by simp [h16])⟩ (by omega) (Le.sub0 rfl ⟨rfl, rfl, rfl, rfl, trivial⟩ trivial)
  · skip
    try simp at hlt
    refine AW.exit ?_
    refine AW.seq ?_
    refine AW.region ?_
    refine AWl.put (R_assign rfl (.no rfl) rfl (.const rfl)) rfl ?_
    refine AWl.nil ?_
    refine AW.ret ?_
    refine Res.v rfl rfl ?_
    rw [findI_none hk.2 (by omega)]
set_option maxRecDepth 100000 in
theorem ContainsFuncPair (l : List TPair) (f : FuncId) (caps : List T) (p : TPair → Bool) (hp : ∀ e, FrT Tryd.prog f ([.agg (cPair e)] ++ caps.map .one) (.a (.one (.v (.bool (p e)))))) : FnT Tryd.prog 103 [.one (.sl 2 (l.map cPair)), .one (.fn (.func f) [] caps)] (.a (.one (.v (.bool (l.any p))))) := by
  refine FnT.walk Tryd.func103 rfl (by kernel_rfl) Tryd.ntmps103 rfl fun hlen w0 => ?_
  try simp [cPair, cToken, cExpr, cEdge, cGraph, cStep, cWalk, cChange, cBatch, cHistory, cPositions, cAutomaton, cProductStep, cPathAtom, cConjunction, cView, cDelta, cRegistered, cRegistry] at hlen
  refine AW.seq ?_
  refine AW.region ?_
  refine AWl.put (R_assign rfl (.no rfl) rfl (.const rfl)) rfl ?_
  refine AWl.nil ?_
  refine AW.seq ?_
  refine AW.region ?_
  refine AWl.put (R_move rfl (.no rfl) rfl (.tmp rfl fun _ => rfl)) rfl ?_
  refine AWl.put (R_move rfl (.no rfl) rfl (.tmp rfl fun _ => rfl)) rfl ?_
  refine AWl.put (R_callz (FnT.fr (IndexFuncPair _ _ _ _ hp)) rfl (.no rfl) rfl (.cons (.tmp rfl fun _ => rfl) rfl (.cons (.tmp rfl fun _ => rfl) rfl .nil))) rfl ?_
  refine AWl.put (R_ge rfl (.no rfl) rfl (.tmp rfl fun _ => rfl) (.const rfl)) rfl ?_
  refine AWl.put (R_assign rfl (.no rfl) rfl (.tmp rfl fun _ => rfl)) rfl ?_
  refine AWl.nil ?_
  refine AW.ret ?_
  refine Res.v rfl rfl ?_
  rw [findI_any]
end Go.Proofs.YtibjbmjgmfiecaaDoor
