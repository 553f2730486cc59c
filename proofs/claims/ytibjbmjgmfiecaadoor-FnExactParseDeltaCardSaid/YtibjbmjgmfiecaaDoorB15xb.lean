/- Pairs: both texts. -/
import Derived.Test.YtibjbmjgmfiecaaDoorB02xb
import Derived.Test.YtibjbmjgmfiecaaDoorAbsKxb
set_option linter.unusedVariables false
set_option linter.unusedSimpArgs false
set_option maxHeartbeats 1000000
set_option maxRecDepth 100000
namespace Go.Q
open Go.D
/-! ### Sets as sorted lists -/
structure SO {α : Type} (lt : α → α → Bool) : Prop where
  irr : ∀ x, lt x x = false
  tra : ∀ x y z, lt x y = true → lt y z = true → lt x z = true
  tri : ∀ x y, lt x y = true ∨ x = y ∨ lt y x = true
section
variable {α : Type} {lt : α → α → Bool}
end
section
variable {α : Type} [DecidableEq α] {lt : α → α → Bool}
end
/-! ### Pairs -/
instance : Inhabited TPair := ⟨⟨0, 0⟩⟩
def pless (a b : TPair) : Bool := decide (a.From < b.From) || decide (a.From = b.From) && decide (a.To < b.To)
end Go.Q
namespace Go.Q
open Go.D
theorem any_not {α : Type} {p : α → Bool} {l : List α} {k : Nat} (h : ∀ j y, j < k → l[j]? = some y → (!p y) = true) (hk : l.length ≤ k) : l.any p = false := by
  rw [List.any_eq_false]
  intro x hx
  obtain ⟨j, hj, rfl⟩ := List.getElem_of_mem hx
  have := h j _ (by omega) (List.getElem?_eq_getElem hj)
  simpa using this
theorem pair_eq {x y : TPair} : x = y ↔ x.From = y.From ∧ x.To = y.To := by cases x; cases y; simp
def cmpI (x y : Int) : Int := if x < y then -1 else if y < x then 1 else 0
def cmpP (x y : TPair) : Int := if x.From ≠ y.From then cmpI x.From y.From else cmpI x.To y.To
theorem cmpP_ge (x y : TPair) : decide (0 ≤ cmpP x y) = !pless x y := by
  unfold pless cmpP cmpI
  rw [Bool.eq_iff_iff]
  simp only [Bool.not_eq_true', Bool.or_eq_false_iff, Bool.and_eq_false_iff, decide_eq_true_eq, decide_eq_false_iff_not]
  repeat' split
  all_goals omega
end Go.Q
namespace Go.Proofs.YtibjbmjgmfiecaaDoor
open Go.RowKit Go.Q Go.D
theorem specl15Less (x y : TPair) : FnT Tryd.prog 84 [.agg (cPair x), .agg (cPair y)] (.a (.one (.v (.bool (pless x y))))) := by
  refine FnT.walk Tryd.func84 rfl (by kernel_rfl) Tryd.ntmps84 rfl fun hlen w0 => ?_
  try simp [cPair, cToken, cExpr, cEdge, cGraph, cStep, cWalk, cChange, cBatch, cHistory, cPositions, cAutomaton, cProductStep, cPathAtom, cConjunction, cView, cDelta, cRegistered, cRegistry] at hlen
  refine AW.seq ?_
  refine AW.region ?_
  refine AWl.put (R_boxz rfl rfl rfl (.tmp rfl fun _ => rfl) (ts := _) (by first | rfl | exact cells_t1 _ | exact cells_t2 _)) rfl ?_
  refine AWl.put (R_boxz rfl rfl rfl (.tmp rfl fun _ => rfl) (ts := _) (by first | rfl | exact cells_t1 _ | exact cells_t2 _)) rfl ?_
  refine AWl.put (R_assign rfl (.no rfl) rfl (.const rfl)) rfl ?_
  refine AWl.nil ?_
  refine AW.seq ?_
  refine AW.region ?_
  refine AWl.put ((by first | exact R_fieldAddr rfl (.no rfl) rfl (.tmp rfl fun _ => rfl) fl90_0 | exact R_fieldAddr_pp rfl (.no rfl) rfl (.tmp rfl fun _ => rfl) fl90_0 | exact R_fieldAddr_vw rfl (.no rfl) rfl (.tmp rfl fun _ => rfl) fl90_0 | exact R_fieldAddr_pr rfl (.no rfl) rfl (.tmp rfl fun _ => rfl) fl90_0)) rfl ?_
  refine AWl.put ((by first | exact R_load rfl (.no rfl) rfl (.tmp rfl fun _ => rfl) ty3 rfl rfl | exact R_load_pp rfl (.no rfl) rfl (.tmp rfl fun _ => rfl) rfl ty3 rfl rfl | exact R_load_vw rfl (.no rfl) rfl (.tmp rfl fun _ => rfl) ty3 rfl rfl | exact R_load_pr rfl (.no rfl) rfl (.tmp rfl fun _ => rfl) rfl (by first | assumption | exact map_get (by assumption)) ty3 rfl rfl)) rfl ?_
  refine AWl.put ((by first | exact R_fieldAddr rfl (.no rfl) rfl (.tmp rfl fun _ => rfl) fl90_0 | exact R_fieldAddr_pp rfl (.no rfl) rfl (.tmp rfl fun _ => rfl) fl90_0 | exact R_fieldAddr_vw rfl (.no rfl) rfl (.tmp rfl fun _ => rfl) fl90_0 | exact R_fieldAddr_pr rfl (.no rfl) rfl (.tmp rfl fun _ => rfl) fl90_0)) rfl ?_
  refine AWl.put ((by first | exact R_load rfl (.no rfl) rfl (.tmp rfl fun _ => rfl) ty3 rfl rfl | exact R_load_pp rfl (.no rfl) rfl (.tmp rfl fun _ => rfl) rfl ty3 rfl rfl | exact R_load_vw rfl (.no rfl) rfl (.tmp rfl fun _ => rfl) ty3 rfl rfl | exact R_load_pr rfl (.no rfl) rfl (.tmp rfl fun _ => rfl) rfl (by first | assumption | exact map_get (by assumption)) ty3 rfl rfl)) rfl ?_
  refine AWl.put (R_lt rfl (.no rfl) rfl (.tmp rfl fun _ => rfl) (.tmp rfl fun _ => rfl)) rfl ?_
  refine AWl.put (R_move rfl (.no rfl) rfl (.tmp rfl fun _ => rfl)) rfl ?_
  refine AWl.put ((by first | exact R_fieldAddr rfl (by first | exact .not1 rfl rfl rfl rfl | exact .not rfl rfl rfl rfl) rfl (.tmp rfl (by first | exact fun _ => rfl | exact id | simp)) fl90_0 | exact R_fieldAddr_pp rfl (by first | exact .not1 rfl rfl rfl rfl | exact .not rfl rfl rfl rfl) rfl (.tmp rfl (by first | exact fun _ => rfl | exact id | simp)) fl90_0 | exact R_fieldAddr_vw rfl (by first | exact .not1 rfl rfl rfl rfl | exact .not rfl rfl rfl rfl) rfl (.tmp rfl (by first | exact fun _ => rfl | exact id | simp)) fl90_0 | exact R_fieldAddr_pr rfl (by first | exact .not1 rfl rfl rfl rfl | exact .not rfl rfl rfl rfl) rfl (.tmp rfl (by first | exact fun _ => rfl | exact id | simp)) fl90_0)) rfl ?_
  refine AWl.put ((by first | exact R_load rfl (by first | exact .not1 rfl rfl rfl rfl | exact .not rfl rfl rfl rfl) rfl (.tmp rfl (by first | exact fun _ => rfl | exact id | simp)) ty3 rfl rfl | exact R_load_pp rfl (by first | exact .not1 rfl rfl rfl rfl | exact .not rfl rfl rfl rfl) rfl (.tmp rfl (by first | exact fun _ => rfl | exact id | simp)) rfl ty3 rfl rfl | exact R_load_vw rfl (by first | exact .not1 rfl rfl rfl rfl | exact .not rfl rfl rfl rfl) rfl (.tmp rfl (by first | exact fun _ => rfl | exact id | simp)) ty3 rfl rfl | exact R_load_pr rfl (by first | exact .not1 rfl rfl rfl rfl | exact .not rfl rfl rfl rfl) rfl (.tmp rfl (by first | exact fun _ => rfl | exact id | simp)) rfl (by first | assumption | exact map_get (by assumption)) ty3 rfl rfl)) rfl ?_
  refine AWl.put ((by first | exact R_fieldAddr rfl (by first | exact .not1 rfl rfl rfl rfl | exact .not rfl rfl rfl rfl) rfl (.tmp rfl (by first | exact fun _ => rfl | exact id | simp)) fl90_0 | exact R_fieldAddr_pp rfl (by first | exact .not1 rfl rfl rfl rfl | exact .not rfl rfl rfl rfl) rfl (.tmp rfl (by first | exact fun _ => rfl | exact id | simp)) fl90_0 | exact R_fieldAddr_vw rfl (by first | exact .not1 rfl rfl rfl rfl | exact .not rfl rfl rfl rfl) rfl (.tmp rfl (by first | exact fun _ => rfl | exact id | simp)) fl90_0 | exact R_fieldAddr_pr rfl (by first | exact .not1 rfl rfl rfl rfl | exact .not rfl rfl rfl rfl) rfl (.tmp rfl (by first | exact fun _ => rfl | exact id | simp)) fl90_0)) rfl ?_
  refine AWl.put ((by first | exact R_load rfl (by first | exact .not1 rfl rfl rfl rfl | exact .not rfl rfl rfl rfl) rfl (.tmp rfl (by first | exact fun _ => rfl | exact id | simp)) ty3 rfl rfl | exact R_load_pp rfl (by first | exact .not1 rfl rfl rfl rfl | exact .not rfl rfl rfl rfl) rfl (.tmp rfl (by first | exact fun _ => rfl | exact id | simp)) rfl ty3 rfl rfl | exact R_load_vw rfl (by first | exact .not1 rfl rfl rfl rfl | exact .not rfl rfl rfl rfl) rfl (.tmp rfl (by first | exact fun _ => rfl | exact id | simp)) ty3 rfl rfl | exact R_load_pr rfl (by first | exact .not1 rfl rfl rfl rfl | exact .not rfl rfl rfl rfl) rfl (.tmp rfl (by first | exact fun _ => rfl | exact id | simp)) rfl (by first | assumption | exact map_get (by assumption)) ty3 rfl rfl)) rfl ?_
  refine AWl.put (R_eq rfl (by first | exact .not1 rfl rfl rfl rfl | exact .not rfl rfl rfl rfl) rfl (.tmp rfl (by first | exact fun _ => rfl | exact id | simp)) (.tmp rfl (by first | exact fun _ => rfl | exact id | simp))) rfl ?_
  refine AWl.put (R_move rfl (by first | exact .not1 rfl rfl rfl rfl | exact .not rfl rfl rfl rfl) rfl (.tmp rfl (by first | exact fun _ => rfl | exact id | simp))) rfl ?_
  refine AWl.put ((by first | exact R_fieldAddr rfl (by first | exact .yes1 rfl rfl rfl rfl | exact .yes rfl rfl rfl rfl) rfl (.tmp rfl (by first | exact fun _ => rfl | exact id | simp)) fl90_1 | exact R_fieldAddr_pp rfl (by first | exact .yes1 rfl rfl rfl rfl | exact .yes rfl rfl rfl rfl) rfl (.tmp rfl (by first | exact fun _ => rfl | exact id | simp)) fl90_1 | exact R_fieldAddr_vw rfl (by first | exact .yes1 rfl rfl rfl rfl | exact .yes rfl rfl rfl rfl) rfl (.tmp rfl (by first | exact fun _ => rfl | exact id | simp)) fl90_1 | exact R_fieldAddr_pr rfl (by first | exact .yes1 rfl rfl rfl rfl | exact .yes rfl rfl rfl rfl) rfl (.tmp rfl (by first | exact fun _ => rfl | exact id | simp)) fl90_1)) rfl ?_
  refine AWl.put ((by first | exact R_load rfl (by first | exact .yes1 rfl rfl rfl rfl | exact .yes rfl rfl rfl rfl) rfl (.tmp rfl (by first | exact fun _ => rfl | exact id | simp)) ty3 rfl rfl | exact R_load_pp rfl (by first | exact .yes1 rfl rfl rfl rfl | exact .yes rfl rfl rfl rfl) rfl (.tmp rfl (by first | exact fun _ => rfl | exact id | simp)) rfl ty3 rfl rfl | exact R_load_vw rfl (by first | exact .yes1 rfl rfl rfl rfl | exact .yes rfl rfl rfl rfl) rfl (.tmp rfl (by first | exact fun _ => rfl | exact id | simp)) ty3 rfl rfl | exact R_load_pr rfl (by first | exact .yes1 rfl rfl rfl rfl | exact .yes rfl rfl rfl rfl) rfl (.tmp rfl (by first | exact fun _ => rfl | exact id | simp)) rfl (by first | assumption | exact map_get (by assumption)) ty3 rfl rfl)) rfl ?_
  refine AWl.put ((by first | exact R_fieldAddr rfl (by first | exact .yes1 rfl rfl rfl rfl | exact .yes rfl rfl rfl rfl) rfl (.tmp rfl (by first | exact fun _ => rfl | exact id | simp)) fl90_1 | exact R_fieldAddr_pp rfl (by first | exact .yes1 rfl rfl rfl rfl | exact .yes rfl rfl rfl rfl) rfl (.tmp rfl (by first | exact fun _ => rfl | exact id | simp)) fl90_1 | exact R_fieldAddr_vw rfl (by first | exact .yes1 rfl rfl rfl rfl | exact .yes rfl rfl rfl rfl) rfl (.tmp rfl (by first | exact fun _ => rfl | exact id | simp)) fl90_1 | exact R_fieldAddr_pr rfl (by first | exact .yes1 rfl rfl rfl rfl | exact .yes rfl rfl rfl rfl) rfl (.tmp rfl (by first | exact fun _ => rfl | exact id | simp)) fl90_1)) rfl ?_
  refine AWl.put ((by first | exact R_load rfl (by first | exact .yes1 rfl rfl rfl rfl | exact .yes rfl rfl rfl rfl) rfl (.tmp rfl (by first | exact fun _ => rfl | exact id | simp)) ty3 rfl rfl | exact R_load_pp rfl (by first | exact .yes1 rfl rfl rfl rfl | exact .yes rfl rfl rfl rfl) rfl (.tmp rfl (by first | exact fun _ => rfl | exact id | simp)) rfl ty3 rfl rfl | exact R_load_vw rfl (by first | exact .yes1 rfl rfl rfl rfl | exact .yes rfl rfl rfl rfl) rfl (.tmp rfl (by first | exact fun _ => rfl | exact id | simp)) ty3 rfl rfl | exact R_load_pr rfl (by first | exact .yes1 rfl rfl rfl rfl | exact .yes rfl rfl rfl rfl) rfl (.tmp rfl (by first | exact fun _ => rfl | exact id | simp)) rfl (by first | assumption | exact map_get (by assumption)) ty3 rfl rfl)) rfl ?_
  refine AWl.put (R_lt rfl (by first | exact .yes1 rfl rfl rfl rfl | exact .yes rfl rfl rfl rfl) rfl (.tmp rfl (by first | exact fun _ => rfl | exact id | simp)) (.tmp rfl (by first | exact fun _ => rfl | exact id | simp))) rfl ?_
  refine AWl.put (R_and rfl (by first | exact .not1 rfl rfl rfl rfl | exact .not rfl rfl rfl rfl) rfl (.tmp rfl (by first | exact fun _ => rfl | exact id | simp)) (.tmp rfl (by first | exact fun _ => rfl | exact id | simp))) rfl ?_
  refine AWl.put (R_or rfl (.no rfl) rfl (.tmp rfl fun _ => rfl) (.tmp rfl (by first | exact fun _ => rfl | exact id | simp))) rfl ?_
  refine AWl.put (R_assign rfl (.no rfl) rfl (.tmp rfl fun _ => rfl)) rfl ?_
  refine AWl.nil ?_
  refine AW.ret ?_
  refine Res.v rfl rfl ?_
  rfl
theorem findI_pair (l : List TPair) (p : TPair) : l.any (fun x => decide (x = p)) = decide (p ∈ l) := by
  rw [Bool.eq_iff_iff, List.any_eq_true]
  simp
theorem specl15Has (l : List TPair) (p : TPair) : FnT Tryd.prog 65 [.one (.sl 2 (l.map cPair)), .agg (cPair p)] (.a (.one (.v (.bool (decide (p ∈ l)))))) := by
  refine FnT.walk Tryd.func65 rfl (by kernel_rfl) Tryd.ntmps65 rfl fun hlen w0 => ?_
  try simp [cPair, cToken, cExpr, cEdge, cGraph, cStep, cWalk, cChange, cBatch, cHistory, cPositions, cAutomaton, cProductStep, cPathAtom, cConjunction, cView, cDelta, cRegistered, cRegistry] at hlen
  refine AW.seq ?_
  refine AW.region ?_
  refine AWl.put (R_boxz rfl rfl rfl (.tmp rfl fun _ => rfl) (ts := _) (by first | rfl | exact cells_t1 _ | exact cells_t2 _)) rfl ?_
  refine AWl.put (R_assign rfl (.no rfl) rfl (.const rfl)) rfl ?_
  refine AWl.nil ?_
  refine AW.seq ?_
  refine AW.seq ?_
  refine AW.region ?_
  refine AWl.put (R_assign rfl (.no rfl) rfl (.const rfl)) rfl ?_
  refine AWl.nil ?_
  refine AW.block ?_
  refine AW.loop1 (fun (k : Nat) => (k ≤ l.length ∧ ∀ j y, j < k → l[j]? = some y → (!decide (y = p)) = true) ∧ True) (fun (k : Nat) => ⟨_, [(5, (true, .a (.one (.t (.v (.int .i64 (k : Nat))))))), (0, _), (3, _)], []⟩) (fun (k : Nat) => l.length - k) (0) ⟨⟨Nat.zero_le _, fun j y hj => absurd hj (Nat.not_lt_zero j)⟩, trivial⟩ (Le.sub0 rfl ⟨rfl, rfl, rfl, trivial⟩ trivial) ?_
  rintro k ⟨hk, he⟩
  refine AW.seq ?_
  refine AW.seq ?_
  refine AW.region ?_
  refine AWl.put (R_move rfl (.no rfl) rfl (.tmp rfl fun _ => rfl)) rfl ?_
  refine AWl.put (R_move rfl (.no rfl) rfl (.tmp rfl fun _ => rfl)) rfl ?_
  refine AWl.put ((by first | exact R_lenm rfl (.no rfl) rfl (.tmp rfl fun _ => rfl) (by first | exact .t | exact .rf rfl | exact .vw | exact .nil) Tryd.underlying33 | exact R_len rfl (.no rfl) rfl (.tmp rfl fun _ => rfl) (by first | exact .t | exact .rf rfl | exact .vw | exact .nil) Tryd.underlying33)) rfl ?_
  refine AWl.put (R_lt rfl (.no rfl) rfl (.tmp rfl fun _ => rfl) (.tmp rfl fun _ => rfl)) rfl ?_
  refine AWl.nil ?_
  refine AW.cond (.tmp rfl fun _ => rfl) (fun h9 => ?_) (fun h9 => ?_)
  · skip
    try simp at h9
    obtain ⟨x, hx⟩ : ∃ ξ, l[k]? = some ξ := ⟨_, List.getElem?_eq_getElem (by omega)⟩
    refine AW.skip ?_
    refine AW.seq ?_
    refine AW.block ?_
    refine AW.seq ?_
    refine AW.drawn 6 (nthB [[], [], [0, 1], [0, 1, 2], [], [0, 1, 2, 3, 4]]) (by kernel_rfl) (by kernel_rfl) (by kernel_rfl) ?_
    refine DrawC.step rfl rfl rfl (Loc.of rfl fun σ' hs => R_move rfl (.no rfl) (hd_sup hs rfl) (.tmp (hs.slots _ _ rfl) fun _ => rfl)) ?_
    refine DrawC.step rfl rfl rfl (Loc.of rfl fun σ' hs => R_move rfl (.no rfl) (hd_sup hs rfl) (.tmp (hs.slots _ _ rfl) fun _ => rfl)) ?_
    refine DrawC.step rfl rfl rfl (Loc.of rfl fun σ' hs => (by first | exact R_indexAddr rfl (.no rfl) (hd_sup hs rfl) (.tmp (hs.slots _ _ rfl) fun _ => rfl) (.tmp (hs.slots _ _ rfl) fun _ => rfl) Tryd.underlying33 ty90 (fun _ => ⟨by omega, map_get hx⟩) | exact R_indexAddr_vw rfl (.no rfl) (hd_sup hs rfl) (.tmp (hs.slots _ _ rfl) fun _ => rfl) (.tmp (hs.slots _ _ rfl) fun _ => rfl) Tryd.underlying33 ty90 (fun _ => ⟨by omega, map_get hx⟩) | exact R_indexAddr_rf rfl (.no rfl) (hd_sup hs rfl) (.tmp (hs.slots _ _ rfl) fun _ => rfl) (hs.res _ _ rfl) (.tmp (hs.slots _ _ rfl) fun _ => rfl) Tryd.underlying33 ty90 (fun _ => ⟨by omega, map_get hx⟩))) ?_
    refine DrawC.step rfl rfl rfl (Loc.of rfl fun σ' hs => (by first | exact R_load rfl (.no rfl) (hd_sup hs rfl) (.tmp (hs.slots _ _ rfl) fun _ => rfl) ty90 rfl rfl | exact R_load_pp rfl (.no rfl) (hd_sup hs rfl) (.tmp (hs.slots _ _ rfl) fun _ => rfl) (hs.res _ _ rfl) ty90 rfl rfl | exact R_load_vw rfl (.no rfl) (hd_sup hs rfl) (.tmp (hs.slots _ _ rfl) fun _ => rfl) ty90 rfl rfl | exact R_load_pr rfl (.no rfl) (hd_sup hs rfl) (.tmp (hs.slots _ _ rfl) fun _ => rfl) (hs.res _ _ rfl) map_get hx ty90 rfl rfl)) ?_
    refine DrawC.step rfl rfl rfl (Loc.of rfl fun σ' hs => (by first | exact R_load rfl (.no rfl) (hd_sup hs rfl) (.tmp (hs.slots _ _ rfl) fun _ => rfl) ty90 rfl rfl | exact R_load_pp rfl (.no rfl) (hd_sup hs rfl) (.tmp (hs.slots _ _ rfl) fun _ => rfl) (hs.res _ _ rfl) ty90 rfl rfl | exact R_load_vw rfl (.no rfl) (hd_sup hs rfl) (.tmp (hs.slots _ _ rfl) fun _ => rfl) ty90 rfl rfl | exact R_load_pr rfl (.no rfl) (hd_sup hs rfl) (.tmp (hs.slots _ _ rfl) fun _ => rfl) (hs.res _ _ rfl) map_get hx ty90 rfl rfl)) ?_
    refine DrawC.step rfl rfl rfl (Loc.of rfl fun σ' hs => R_eqs rfl (.no rfl) (hd_sup hs rfl) (.tmp (hs.slots _ _ rfl) fun _ => rfl) (.tmp (hs.slots _ _ rfl) fun _ => rfl) rfl rfl (by kernel_rfl) (eqS90 _ _ _ _)) ?_
    refine DrawC.fin rfl rfl ?_
    refine AWl.nil ?_
    refine AW.cond (.tmp rfl fun _ => rfl) (fun h17 => ?_) (fun h17 => ?_)
    · skip
      try simp at h17
      refine AW.seq ?_
      refine AW.le (σ' := ⟨_, [(0, _), (3, _), (5, _)], []⟩) (Le.sub0 rfl ⟨rfl, rfl, rfl, trivial⟩ trivial) ?_
      refine AW.region ?_
      refine AWl.put (R_assign rfl (.no rfl) rfl (.const rfl)) rfl ?_
      refine AWl.nil ?_
      refine AW.ret ?_
      refine Res.v rfl rfl ?_
      rw [decide_eq_true (show p ∈ l by rw [← pair_eq.2 h17]; exact List.mem_of_getElem? hx)]
    · skip
      try simp at h17
      refine AW.skip ?_
      refine AW.le (σ' := ⟨_, [(0, _), (3, _), (5, _)], []⟩) (Le.sub0 rfl ⟨rfl, rfl, rfl, trivial⟩ trivial) ?_
      refine AW.region ?_
      refine AWl.put (R_move rfl (.no rfl) rfl (.tmp rfl fun _ => rfl)) rfl ?_
      refine AWl.put (R_add rfl (.no rfl) rfl (.tmp rfl fun _ => rfl) (.const rfl) (fun _ => by omega)) rfl ?_
      refine AWl.put (R_assign rfl (.no rfl) rfl (.tmp rfl fun _ => rfl)) rfl ?_
      refine AWl.nil ?_
      repeat (with_reducible refine BlockQ.nor ?_)
      refine Round1.next (k + 1) ⟨⟨by omega, each_succ hk.2 hx (by rw [decide_eq_false (fun e => h17 (pair_eq.1 e).1 (pair_eq.1 e).2)]; rfl)⟩, trivial⟩ (by omega) (Le.sub0 rfl ⟨rfl, rfl, rfl, trivial⟩ trivial)
  · skip
    try simp at h9
    refine AW.exit ?_
    refine AW.seq ?_
    refine AW.region ?_
    refine AWl.put (R_assign rfl (.no rfl) rfl (.const rfl)) rfl ?_
    refine AWl.nil ?_
    refine AW.ret ?_
    refine Res.v rfl rfl ?_
    rw [← findI_pair, any_not hk.2 (by omega)]
end Go.Proofs.YtibjbmjgmfiecaaDoor
