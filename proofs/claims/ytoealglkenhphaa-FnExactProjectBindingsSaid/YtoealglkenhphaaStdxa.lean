/- Package slices, for the types of the program. -/
import Derived.Test.YtoealglkenhphaaAbsTyxa
set_option linter.unusedVariables false
set_option linter.unusedSimpArgs false
namespace Go.Q
end Go.Q
namespace Go.Proofs.Ytoealglkenhphaa
open Go.RowKit Go.Q Go.D
set_option maxRecDepth 100000 in
theorem slicesEqualInt (l r : List Int) : FnT Try.prog 37 [.one (.sl 1 (l.map cInt)), .one (.sl 1 (r.map cInt))] (.a (.one (.v (.bool (decide (l = r)))))) := by
  refine FnT.walk Try.func37 rfl (by kernel_rfl) Try.ntmps37 rfl fun hlen w0 => ?_
  try simp [cPair, cToken, cExpr, cEdge, cGraph, cStep, cWalk, cChange, cBatch, cHistory, cPositions, cAutomaton, cProductStep, cPathAtom, cConjunction, cView, cDelta, cRegistered, cRegistry] at hlen
  refine AW.seq ?_
  refine AW.region ?_
  refine AWl.put (R_assign rfl (.no rfl) rfl (.const rfl)) rfl ?_
  refine AWl.nil ?_
  refine AW.seq ?_
  refine AW.seq ?_
  refine AW.region ?_
  refine AWl.put (R_move rfl (.no rfl) rfl (.tmp rfl fun _ => rfl)) rfl ?_
  refine AWl.put ((by first | exact R_lenm rfl (.no rfl) rfl (.tmp rfl fun _ => rfl) (by first | exact .t | exact .rf rfl | exact .vw | exact .nil) Try.underlying23 | exact R_len rfl (.no rfl) rfl (.tmp rfl fun _ => rfl) (by first | exact .t | exact .rf rfl | exact .vw | exact .nil) Try.underlying23)) rfl ?_
  refine AWl.put (R_move rfl (.no rfl) rfl (.tmp rfl fun _ => rfl)) rfl ?_
  refine AWl.put ((by first | exact R_lenm rfl (.no rfl) rfl (.tmp rfl fun _ => rfl) (by first | exact .t | exact .rf rfl | exact .vw | exact .nil) Try.underlying23 | exact R_len rfl (.no rfl) rfl (.tmp rfl fun _ => rfl) (by first | exact .t | exact .rf rfl | exact .vw | exact .nil) Try.underlying23)) rfl ?_
  refine AWl.put (R_ne rfl (.no rfl) rfl (.tmp rfl fun _ => rfl) (.tmp rfl fun _ => rfl)) rfl ?_
  refine AWl.nil ?_
  refine AW.cond (.tmp rfl fun _ => rfl) (fun h10 => ?_) (fun h10 => ?_)
  · skip
    try simp at h10
    refine AW.seq ?_
    refine AW.region ?_
    refine AWl.put (R_assign rfl (.no rfl) rfl (.const rfl)) rfl ?_
    refine AWl.nil ?_
    refine AW.ret ?_
    refine Res.v rfl rfl ?_
    congr 1; symm; exact decide_eq_false fun e => h10 (by rw [e])
  · skip
    try simp at h10
    refine AW.skip ?_
    refine AW.seq ?_
    refine AW.seq ?_
    refine AW.region ?_
    refine AWl.put (R_move rfl (.no rfl) rfl (.tmp rfl fun _ => rfl)) rfl ?_
    refine AWl.put ((by first | exact R_lenm rfl (.no rfl) rfl (.tmp rfl fun _ => rfl) (by first | exact .t | exact .rf rfl | exact .vw | exact .nil) Try.underlying23 | exact R_len rfl (.no rfl) rfl (.tmp rfl fun _ => rfl) (by first | exact .t | exact .rf rfl | exact .vw | exact .nil) Try.underlying23)) rfl ?_
    refine AWl.put (R_move rfl (.no rfl) rfl (.const rfl)) rfl ?_
    refine AWl.nil ?_
    refine AW.block ?_
    refine AW.loop (β := Nat) (fun x => x ≤ l.length ∧ ∀ i, i < x → l[i]? = r[i]?) (fun x => ⟨_, [(13, (true, .a (.one (.t (.v (.int .i64 x)))))), (0, _), (1, _), (12, _)], []⟩) (fun x => l.length - x) (0) ⟨Nat.zero_le _, by simp⟩ (Le.sub0 rfl ⟨rfl, rfl, rfl, rfl, trivial⟩ trivial) ?_
    intro k hk
    obtain ⟨hk, he⟩ := hk
    refine AW.seq ?_
    refine AW.region ?_
    refine AWl.put (R_lt rfl (.no rfl) rfl (.tmp rfl fun _ => rfl) (.tmp rfl fun _ => rfl)) rfl ?_
    refine AWl.nil ?_
    refine AW.seq ?_
    refine AW.cond (.tmp rfl fun _ => rfl) (fun h14 => ?_) (fun h14 => ?_)
    · skip
      try simp at h14
      obtain ⟨x, hx⟩ : ∃ x, l[k]? = some x := ⟨_, List.getElem?_eq_getElem h14⟩
      obtain ⟨y, hy⟩ : ∃ y, r[k]? = some y := ⟨_, List.getElem?_eq_getElem (by omega)⟩
      refine AW.skip ?_
      refine AW.seq ?_
      refine AW.block ?_
      refine AW.seq ?_
      refine AW.region ?_
      refine AWl.put (R_move rfl (.no rfl) rfl (.tmp rfl fun _ => rfl)) rfl ?_
      refine AWl.put (R_assign rfl (.no rfl) rfl (.tmp rfl fun _ => rfl)) rfl ?_
      refine AWl.nil ?_
      refine AW.seq ?_
      refine AW.drawn 9 (nthB [[], [], [0, 1], [0, 1, 2], [], [], [4, 5], [4, 5, 6], [0, 1, 2, 3, 4, 5, 6, 7]]) (by kernel_rfl) (by kernel_rfl) (by kernel_rfl) ?_
      refine DrawC.step rfl rfl rfl (Loc.of rfl fun σ' hs => R_move rfl (.no rfl) (hd_sup hs rfl) (.tmp (hs.slots _ _ rfl) fun _ => rfl)) ?_
      refine DrawC.step rfl rfl rfl (Loc.of rfl fun σ' hs => R_move rfl (.no rfl) (hd_sup hs rfl) (.tmp (hs.slots _ _ rfl) fun _ => rfl)) ?_
      refine DrawC.step rfl rfl rfl (Loc.of rfl fun σ' hs => (by first | exact R_indexAddr rfl (.no rfl) (hd_sup hs rfl) (.tmp (hs.slots _ _ rfl) fun _ => rfl) (.tmp (hs.slots _ _ rfl) fun _ => rfl) Try.underlying23 ty3 (fun _ => ⟨by omega, (by first | assumption | exact map_get (by assumption))⟩) | exact R_indexAddr_vw rfl (.no rfl) (hd_sup hs rfl) (.tmp (hs.slots _ _ rfl) fun _ => rfl) (.tmp (hs.slots _ _ rfl) fun _ => rfl) Try.underlying23 ty3 (fun _ => ⟨by omega, (by first | assumption | exact map_get (by assumption))⟩) | exact R_indexAddr_rf rfl (.no rfl) (hd_sup hs rfl) (.tmp (hs.slots _ _ rfl) fun _ => rfl) (hs.res _ _ rfl) (.tmp (hs.slots _ _ rfl) fun _ => rfl) Try.underlying23 ty3 (fun _ => ⟨by omega, (by first | assumption | exact map_get (by assumption))⟩))) ?_
      refine DrawC.step rfl rfl rfl (Loc.of rfl fun σ' hs => (by first | exact R_load rfl (.no rfl) (hd_sup hs rfl) (.tmp (hs.slots _ _ rfl) fun _ => rfl) ty3 rfl rfl | exact R_load_pp rfl (.no rfl) (hd_sup hs rfl) (.tmp (hs.slots _ _ rfl) fun _ => rfl) (hs.res _ _ rfl) ty3 rfl rfl | exact R_load_vw rfl (.no rfl) (hd_sup hs rfl) (.tmp (hs.slots _ _ rfl) fun _ => rfl) ty3 rfl rfl | exact R_load_pr rfl (.no rfl) (hd_sup hs rfl) (.tmp (hs.slots _ _ rfl) fun _ => rfl) (hs.res _ _ rfl) (by first | assumption | exact map_get (by assumption)) ty3 rfl rfl)) ?_
      refine DrawC.step rfl rfl rfl (Loc.of rfl fun σ' hs => R_move rfl (.no rfl) (hd_sup hs rfl) (.tmp (hs.slots _ _ rfl) fun _ => rfl)) ?_
      refine DrawC.step rfl rfl rfl (Loc.of rfl fun σ' hs => R_move rfl (.no rfl) (hd_sup hs rfl) (.tmp (hs.slots _ _ rfl) fun _ => rfl)) ?_
      refine DrawC.step rfl rfl rfl (Loc.of rfl fun σ' hs => (by first | exact R_indexAddr rfl (.no rfl) (hd_sup hs rfl) (.tmp (hs.slots _ _ rfl) fun _ => rfl) (.tmp (hs.slots _ _ rfl) fun _ => rfl) Try.underlying23 ty3 (fun _ => ⟨by omega, (by first | assumption | exact map_get (by assumption))⟩) | exact R_indexAddr_vw rfl (.no rfl) (hd_sup hs rfl) (.tmp (hs.slots _ _ rfl) fun _ => rfl) (.tmp (hs.slots _ _ rfl) fun _ => rfl) Try.underlying23 ty3 (fun _ => ⟨by omega, (by first | assumption | exact map_get (by assumption))⟩) | exact R_indexAddr_rf rfl (.no rfl) (hd_sup hs rfl) (.tmp (hs.slots _ _ rfl) fun _ => rfl) (hs.res _ _ rfl) (.tmp (hs.slots _ _ rfl) fun _ => rfl) Try.underlying23 ty3 (fun _ => ⟨by omega, (by first | assumption | exact map_get (by assumption))⟩))) ?_
      refine DrawC.step rfl rfl rfl (Loc.of rfl fun σ' hs => (by first | exact R_load rfl (.no rfl) (hd_sup hs rfl) (.tmp (hs.slots _ _ rfl) fun _ => rfl) ty3 rfl rfl | exact R_load_pp rfl (.no rfl) (hd_sup hs rfl) (.tmp (hs.slots _ _ rfl) fun _ => rfl) (hs.res _ _ rfl) ty3 rfl rfl | exact R_load_vw rfl (.no rfl) (hd_sup hs rfl) (.tmp (hs.slots _ _ rfl) fun _ => rfl) ty3 rfl rfl | exact R_load_pr rfl (.no rfl) (hd_sup hs rfl) (.tmp (hs.slots _ _ rfl) fun _ => rfl) (hs.res _ _ rfl) (by first | assumption | exact map_get (by assumption)) ty3 rfl rfl)) ?_
      refine DrawC.step rfl rfl rfl (Loc.of rfl fun σ' hs => R_ne rfl (.no rfl) (hd_sup hs rfl) (.tmp (hs.slots _ _ rfl) fun _ => rfl) (.tmp (hs.slots _ _ rfl) fun _ => rfl)) ?_
      refine DrawC.fin rfl rfl ?_
      refine AWl.nil ?_
      refine AW.cond (.tmp rfl fun _ => rfl) (fun h24 => ?_) (fun h24 => ?_)
      · skip
        try simp at h24
        refine AW.seq ?_
        refine AW.le (σ' := ⟨_, [(0, _), (1, _), (5, _), (12, _), (13, _)], []⟩) (Le.sub0 rfl ⟨rfl, rfl, rfl, rfl, rfl, trivial⟩ trivial) ?_
        refine AW.region ?_
        refine AWl.put (R_assign rfl (.no rfl) rfl (.const rfl)) rfl ?_
        refine AWl.nil ?_
        refine AW.ret ?_
        refine Res.v rfl rfl ?_
        congr 1; symm; exact decide_eq_false fun e => by rw [e] at hx; rw [hy] at hx; cases hx; simp at h24
      · skip
        try simp at h24
        have hxy : x = y := by first | exact h24 | exact Tint.ext_iff'.2 (by simpa [and_assoc] using h24)
        refine AW.skip ?_
        refine AW.le (σ' := ⟨_, [(0, _), (1, _), (5, _), (12, _), (13, _)], []⟩) (Le.sub0 rfl ⟨rfl, rfl, rfl, rfl, rfl, trivial⟩ trivial) ?_
        refine AW.region ?_
        refine AWl.put (R_add rfl (.no rfl) rfl (.tmp rfl fun _ => rfl) (.const rfl) (fun _ => by omega)) rfl ?_
        refine AWl.put (R_move rfl (.no rfl) rfl (.tmp rfl fun _ => rfl)) rfl ?_
        refine AWl.nil ?_
        refine Round.next (k + 1) ⟨by omega, fun i hi => by rcases Nat.lt_or_eq_of_le (Nat.le_of_lt_succ hi) with h | rfl; exact he i h; rw [hx, hy, hxy]⟩ (by omega) (Le.sub0 rfl ⟨rfl, rfl, rfl, rfl, trivial⟩ trivial)
    · skip
      try simp at h14
      refine AW.exit ?_
      refine AW.seq ?_
      refine AW.region ?_
      refine AWl.put (R_assign rfl (.no rfl) rfl (.const rfl)) rfl ?_
      refine AWl.nil ?_
      refine AW.ret ?_
      refine Res.v rfl rfl ?_
      congr 1; symm; exact decide_eq_true (eq_of_getElem? (by omega) fun i hi => he i (by omega))
end Go.Proofs.Ytoealglkenhphaa
