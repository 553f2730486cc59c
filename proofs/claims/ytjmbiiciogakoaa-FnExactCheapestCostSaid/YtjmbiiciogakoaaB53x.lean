/- The cheapest cost and the cheapest answer: both texts. -/
import Derived.Test.YtjmbiiciogakoaaB52x
import Derived.Test.YtjmbiiciogakoaaB27x
set_option linter.unusedVariables false
set_option linter.unusedSimpArgs false
set_option maxHeartbeats 1000000
set_option maxRecDepth 100000
namespace Go.Q
open Go.D
section
variable {E : Nat → List (Int × Int)} {G : Nat → Bool} {N : Nat}
theorem CI.ex (hE : ∀ i, i < N → ∀ e ∈ E i, (0 ≤ e.1 ∧ e.1 < N) ∧ 0 ≤ e.2 ∧ e.2 ≤ 9) : ∀ (m : Nat) (O : List Int), phi (9 * N + 1) O ≤ m → CI E G N O → ∃ O', CI E G N O' ∧ ∀ i, i < N → ∀ e ∈ E i, fixd O' i e
  | m, O, hm, h => by
    by_cases hf : ∀ i, i < N → ∀ e ∈ E i, fixd O i e
    · exact ⟨O, h, hf⟩
    · have hx : ∃ i e, i < N ∧ e ∈ E i ∧ ¬ fixd O i e := Classical.byContradiction fun hno => hf fun i hi e he => Classical.byContradiction fun hn => hno ⟨i, e, hi, he, hn⟩
      obtain ⟨i, ⟨z, c⟩, hi, he, hn⟩ := hx
      have hb := hE i hi _ he
      simp only at hb
      unfold fixd at hn
      simp only [not_or] at hn
      have hs := h.step hi he hb.1 hb.2 (by omega) (by omega)
      match m with
      | 0 => omega
      | m + 1 => exact CI.ex hE m _ (by omega) hs.1
theorem CW.ex {P0 : Nat} (hE : ∀ i, i < N → ∀ e ∈ E i, (0 ≤ e.1 ∧ e.1 < N) ∧ 0 ≤ e.2 ∧ e.2 ≤ 9) : ∀ (m : Nat) (W : List (Int × Int)), msW N P0 W ≤ m → CW E G N P0 W → WI E G N W → ∃ W', CW E G N P0 W' ∧ WI E G N W' ∧ ∀ i, i < N → ∀ e ∈ E i, fixw W' i e
  | m, W, hm, h, h' => by
    by_cases hf : ∀ i, i < N → ∀ e ∈ E i, fixw W i e
    · exact ⟨W, h, h', hf⟩
    · have hx : ∃ i e, i < N ∧ e ∈ E i ∧ ¬ fixw W i e := Classical.byContradiction fun hno => hf fun i hi e he => Classical.byContradiction fun hn => hno ⟨i, e, hi, he, hn⟩
      obtain ⟨i, ⟨z, c⟩, hi, he, hn⟩ := hx
      have hb := hE i hi _ he
      simp only at hb
      unfold fixw at hn
      simp only [not_or, Bool.not_eq_false] at hn
      have hs := h.step hi he hb.1 hb.2 (by omega) hn.2
      have hs' := h'.step hi he hb.1 hb.2.1 (by omega) hn.2
      match m with
      | 0 => omega
      | m + 1 => exact CW.ex hE m _ (by omega) hs.1 hs'
end
theorem edges_ec {g : TGraph} {a : TAutomaton} (ha : validA a = true) (hg : validG g = true) {l : List Int} (hl : areCosts l = true) : ∀ i, i < NPx g a → ∀ e ∈ edgesOf g a l i, (0 ≤ e.1 ∧ e.1 < (NPx g a : Int)) ∧ 0 ≤ e.2 ∧ e.2 ≤ 9 := fun i hi e he => ⟨edges_ok ha hg l (i := i) hi e he, edges_cost hg hl e he⟩
theorem costs_CI {g : TGraph} {a : TAutomaton} (ha : validA a = true) (hg : validG g = true) {l : List Int} (hl : areCosts l = true) (y : Int) : CI (edgesOf g a l) (goalOf g a y) (NPx g a) (costsOf g a l y) ∧ ∀ i, i < NPx g a → ∀ e ∈ edgesOf g a l i, fixd (costsOf g a l y) i e := by
  obtain ⟨O, h1, h2⟩ := CI.ex (G := goalOf g a y) (edges_ec ha hg hl) _ _ (Nat.le_refl _) costs0_CI
  have e : costsOf g a l y = O := leastL_eq (fun i hi e he => edges_ok ha hg l (i := i) hi e he) h1 h2
  rw [e]; exact ⟨h1, h2⟩
theorem weights_CW {g : TGraph} {a : TAutomaton} (ha : validA a = true) (hg : validG g = true) {l : List Int} (hl : areCosts l = true) (y : Int) : CW (edgesOf g a l) (goalOf g a y) (NPx g a) (P0 g a y) (weightsOf g a l y) ∧ WI (edgesOf g a l) (goalOf g a y) (NPx g a) (weightsOf g a l y) ∧ (∀ i, i < NPx g a → ∀ e ∈ edgesOf g a l i, fixw (weightsOf g a l y) i e) ∧ (weightsOf g a l y).map (·.1) = costsOf g a l y := by
  obtain ⟨W, h1, h2, h3⟩ := CW.ex (P0 := P0 g a y) (G := goalOf g a y) (edges_ec ha hg hl) _ _ (Nat.le_refl _) weights0_CW weights0_WI
  have e := weights_costs ha hg h1 h2 h3
  rw [e.1]; exact ⟨h1, h2, h3, by rw [← e.2, e.1]⟩
def cheapOk (g : TGraph) (a : TAutomaton) (l : List Int) (x y : Int) : Bool := goodB g a x 0 && (goodB g a y 0 && areCosts l)
noncomputable def cheapCost (g : TGraph) (a : TAutomaton) (l : List Int) (x y : Int) : Int := if cheapOk g a l x y then atI (costsOf g a l y) (x * a.Accept.length + a.Start) else -1
theorem cheapCost_rng (g : TGraph) (a : TAutomaton) (l : List Int) (x y : Int) : -1 ≤ cheapCost g a l x y ∧ cheapCost g a l x y ≤ 540 := by
  unfold cheapCost
  split
  · rename_i h
    unfold cheapOk at h
    simp only [Bool.and_eq_true] at h
    obtain ⟨hg, ha, hx⟩ := good_parts h.1
    have hs := start_ok ha hx
    have hci := (costs_CI ha hg h.2.2 y).1
    have := hci.at (i := (x * (a.Accept.length : Int) + a.Start).toNat) (by unfold NPx; omega)
    rw [Int.toNat_of_nonneg hs.1] at this
    have hN : NPx g a ≤ 60 := (prod_le ha hg).2
    omega
  · omega
theorem cheap_both {g : TGraph} {a : TAutomaton} {l : List Int} {x y : Int} : (areCosts l && bothB g a [x, y]) = cheapOk g a l x y := by
  unfold cheapOk
  rw [← both_good, ← both_good]
  unfold bothB
  simp only [List.all_cons, List.all_nil, Bool.and_true]
  cases areCosts l <;> cases inB x 0 ((g.Values.length : Int) - 1) <;> cases inB y 0 ((g.Values.length : Int) - 1) <;> cases validG g <;> cases validA a <;> rfl
noncomputable def chA (g : TGraph) (a : TAutomaton) (l : List Int) (x : Int) : Nat → Int × Int
  | 0 => (-1, -1)
  | k + 1 => if 0 ≤ cheapCost g a l x k ∧ ((chA g a l x k).1 < 0 ∨ cheapCost g a l x k < (chA g a l x k).2) then ((k : Int), cheapCost g a l x k) else chA g a l x k
theorem chA_bad {g : TGraph} {a : TAutomaton} {l : List Int} {x : Int} (h : goodB g a x 0 = false) : ∀ k, chA g a l x k = (-1, -1)
  | 0 => rfl
  | k + 1 => by
    rw [chA, chA_bad h k]
    have : cheapCost g a l x k = -1 := by unfold cheapCost cheapOk; rw [h]; rfl
    rw [this, if_neg (by omega)]
end Go.Q
namespace Go.Proofs.Ytjmbiiciogakoaa
open Go.RowKit Go.Q Go.D
theorem specCheapestCost (g : TGraph) (a : TAutomaton) (l : List Int) (x y : Int) : FnT Try.prog 14 [.agg (cGraph g), .agg (cAutomaton a), .one (.sl 1 (l.map cInt)), .one (.v (.int .i64 x)), .one (.v (.int .i64 y))] (.a (.one (.v (.int .i64 (cheapCost g a l x y))))) := by
  refine FnT.walk Try.func14 rfl (by kernel_rfl) Try.ntmps14 rfl fun hlen w0 => ?_
  try simp [cPair, cToken, cExpr, cEdge, cGraph, cStep, cWalk, cChange, cBatch, cHistory, cPositions, cAutomaton, cProductStep, cPathAtom, cConjunction, cView, cDelta, cRegistered, cRegistry] at hlen
  skip
  refine AW.seq ?_
  refine AW.region ?_
  refine AWl.put (R_boxz rfl rfl rfl (.tmp rfl fun _ => rfl) (ts := _) (by rfl)) rfl ?_
  refine AWl.put (R_boxz rfl rfl rfl (.tmp rfl fun _ => rfl) (ts := _) (by rfl)) rfl ?_
  refine AWl.put (R_assign rfl (.no rfl) rfl (.const rfl)) rfl ?_
  refine AWl.nil ?_
  refine AW.seq ?_
  refine AW.seq ?_
  refine AW.region ?_
  refine AWl.put ((by exact R_load rfl (.no rfl) rfl (.tmp rfl fun _ => rfl) ty35 rfl rfl)) rfl ?_
  refine AWl.put ((by exact R_load rfl (.no rfl) rfl (.tmp rfl fun _ => rfl) ty37 rfl rfl)) rfl ?_
  refine AWl.put (R_move rfl (.no rfl) rfl (.tmp rfl fun _ => rfl)) rfl ?_
  refine AWl.put (R_callz (FnT.fr (specl14Good g a x 0)) rfl (.no rfl) rfl (.cons (.tmp rfl fun _ => rfl) rfl (.cons (.tmp rfl fun _ => rfl) rfl (.cons (.tmp rfl fun _ => rfl) rfl (.cons (.const rfl) rfl .nil))))) rfl ?_
  refine AWl.put (R_not rfl (.no rfl) rfl (.tmp rfl fun _ => rfl)) rfl ?_
  refine AWl.put (R_move rfl (.no rfl) rfl (.tmp rfl fun _ => rfl)) rfl ?_
  refine AWl.put ((by exact R_load rfl (by exact .not1 rfl rfl rfl rfl) rfl (.tmp rfl (by exact fun _ => rfl)) ty35 rfl rfl)) rfl ?_
  refine AWl.put ((by exact R_load rfl (by exact .not1 rfl rfl rfl rfl) rfl (.tmp rfl (by exact fun _ => rfl)) ty37 rfl rfl)) rfl ?_
  refine AWl.put (R_move rfl (by exact .not1 rfl rfl rfl rfl) rfl (.tmp rfl (by exact fun _ => rfl))) rfl ?_
  refine AWl.put (R_callz (FnT.fr (specl14Good g a y 0)) rfl (by exact .not1 rfl rfl rfl rfl) rfl (.cons (.tmp rfl (by exact id)) rfl (.cons (.tmp rfl (by exact id)) rfl (.cons (.tmp rfl (by exact id)) rfl (.cons (.const rfl) rfl .nil))))) rfl ?_
  refine AWl.put (R_not rfl (by exact .not1 rfl rfl rfl rfl) rfl (.tmp rfl (by exact id))) rfl ?_
  refine AWl.put (R_or rfl (.no rfl) rfl (.tmp rfl fun _ => rfl) (.tmp rfl (by exact id))) rfl ?_
  refine AWl.put (R_move rfl (.no rfl) rfl (.tmp rfl fun _ => rfl)) rfl ?_
  refine AWl.put (R_move rfl (by exact .not1 rfl rfl rfl rfl) rfl (.tmp rfl (by exact fun _ => rfl))) rfl ?_
  refine AWl.put (R_callz (FnT.fr (specAreCosts l)) rfl (by exact .not1 rfl rfl rfl rfl) rfl (.cons (.tmp rfl (by exact id)) rfl .nil)) rfl ?_
  refine AWl.put (R_not rfl (by exact .not1 rfl rfl rfl rfl) rfl (.tmp rfl (by exact id))) rfl ?_
  refine AWl.put (R_or rfl (.no rfl) rfl (.tmp rfl fun _ => rfl) (.tmp rfl (by exact id))) rfl ?_
  refine AWl.nil ?_
  refine AW.cond (.tmp rfl fun _ => rfl) (fun h27 => ?_) (fun h27 => ?_)
  · skip
    try simp at h27
    have hno : cheapOk g a l x y = false := by (unfold cheapOk; revert h27; cases goodB g a x 0 <;> cases goodB g a y 0 <;> cases areCosts l <;> simp)
    refine AW.seq ?_
    refine AW.le (σ' := ⟨_, [(0, _), (1, _), (2, _), (3, _), (4, _), (5, _), (6, _), (10, _)], []⟩) (Le.sub0 rfl ⟨rfl, rfl, rfl, rfl, rfl, rfl, rfl, rfl, trivial⟩ trivial) ?_
    refine AW.region ?_
    refine AWl.put (R_assign rfl (.no rfl) rfl (.const rfl)) rfl ?_
    refine AWl.nil ?_
    refine AW.ret ?_
    refine Res.v rfl rfl ?_
    unfold cheapCost; rw [hno]; rfl
  · skip
    try simp at h27
    have hok : cheapOk g a l x y = true := by (unfold cheapOk; revert h27; cases goodB g a x 0 <;> cases goodB g a y 0 <;> cases areCosts l <;> simp)
    have hp := hok
    unfold cheapOk at hp; simp only [Bool.and_eq_true] at hp
    obtain ⟨hg, ha, hx⟩ := good_parts hp.1
    have hA := validA_len ha
    have hG := validG_len hg
    have hs := start_ok ha hx
    have hci := (costs_CI ha hg hp.2.2 y).1.len
    have hgi := atI_get (out := costsOf g a l y) (k := x * (a.Accept.length : Int) + a.Start) (by rw [hci]; unfold NPx; omega)
    have hxm : x * (a.Accept.length : Int) ≤ 60 ∧ 0 ≤ x * (a.Accept.length : Int) := ⟨Int.le_trans (Int.mul_le_mul (show x ≤ 5 by omega) (show (a.Accept.length : Int) ≤ 12 by omega) (by omega) (by omega)) (by omega), Int.mul_nonneg hx.1 (by omega)⟩
    refine AW.skip ?_
    refine AW.seq ?_
    refine AW.le (σ' := ⟨_, [(0, _), (1, _), (2, _), (3, _), (4, _), (5, _), (6, _), (10, _)], []⟩) (Le.sub0 rfl ⟨rfl, rfl, rfl, rfl, rfl, rfl, rfl, rfl, trivial⟩ trivial) ?_
    refine AW.drawn 16 (nthB [[], [], [], [], [0, 1, 2, 3], [], [], [6], [6, 7], [5, 6, 7, 8], [], [10], [5, 6, 7, 8, 9, 10, 11], [0, 1, 2, 3, 4, 5, 6, 7, 8, 9, 10, 11, 12], [0, 1, 2, 3, 4, 5, 6, 7, 8, 9, 10, 11, 12, 13], [0, 1, 2, 3, 4, 5, 6, 7, 8, 9, 10, 11, 12, 13, 14]]) (by kernel_rfl) (by kernel_rfl) (by kernel_rfl) ?_
    refine DrawC.step rfl rfl rfl (Loc.of rfl fun σ' hs => (by exact R_load rfl (.no rfl) (hd_sup hs rfl) (.tmp (hs.slots _ _ rfl) fun _ => rfl) ty35 rfl rfl)) ?_
    refine DrawC.step rfl rfl rfl (Loc.of rfl fun σ' hs => (by exact R_load rfl (.no rfl) (hd_sup hs rfl) (.tmp (hs.slots _ _ rfl) fun _ => rfl) ty37 rfl rfl)) ?_
    refine DrawC.step rfl rfl rfl (Loc.of rfl fun σ' hs => R_move rfl (.no rfl) (hd_sup hs rfl) (.tmp (hs.slots _ _ rfl) fun _ => rfl)) ?_
    refine DrawC.step rfl rfl rfl (Loc.of rfl fun σ' hs => R_move rfl (.no rfl) (hd_sup hs rfl) (.tmp (hs.slots _ _ rfl) fun _ => rfl)) ?_
    refine DrawC.step rfl rfl rfl (Loc.of rfl fun σ' hs => R_callz (FnT.fr (specl25Back g a ha hg l hp.2.2 y)) rfl (.no rfl) (hd_sup hs rfl) (.cons (.tmp (hs.slots _ _ rfl) fun _ => rfl) (readA_sup hs rfl) (.cons (.tmp (hs.slots _ _ rfl) fun _ => rfl) (readA_sup hs rfl) (.cons (.tmp (hs.slots _ _ rfl) fun _ => rfl) (readA_sup hs rfl) (.cons (.tmp (hs.slots _ _ rfl) fun _ => rfl) (readA_sup hs rfl) .nil))))) ?_
    refine DrawC.step rfl rfl rfl (Loc.of rfl fun σ' hs => R_move rfl (.no rfl) (hd_sup hs rfl) (.tmp (hs.slots _ _ rfl) fun _ => rfl)) ?_
    refine DrawC.step rfl rfl rfl (Loc.of rfl fun σ' hs => (by exact R_fieldAddr rfl (.no rfl) (hd_sup hs rfl) (.tmp (hs.slots _ _ rfl) fun _ => rfl) fl37_1)) ?_
    refine DrawC.step rfl rfl rfl (Loc.of rfl fun σ' hs => (by exact R_load rfl (.no rfl) (hd_sup hs rfl) (.tmp (hs.slots _ _ rfl) fun _ => rfl) ty26 rfl rfl)) ?_
    refine DrawC.step rfl rfl rfl (Loc.of rfl fun σ' hs => (by exact R_lenm rfl (.no rfl) (hd_sup hs rfl) (.tmp (hs.slots _ _ rfl) fun _ => rfl) (by exact .t) Try.underlying26)) ?_
    refine DrawC.step rfl rfl rfl (Loc.of rfl fun σ' hs => R_mul rfl (.no rfl) (hd_sup hs rfl) (.tmp (hs.slots _ _ rfl) fun _ => rfl) (.tmp (hs.slots _ _ rfl) fun _ => rfl) (fun _ => by omega)) ?_
    refine DrawC.step rfl rfl rfl (Loc.of rfl fun σ' hs => (by exact R_fieldAddr rfl (.no rfl) (hd_sup hs rfl) (.tmp (hs.slots _ _ rfl) fun _ => rfl) fl37_0)) ?_
    refine DrawC.step rfl rfl rfl (Loc.of rfl fun σ' hs => (by exact R_load rfl (.no rfl) (hd_sup hs rfl) (.tmp (hs.slots _ _ rfl) fun _ => rfl) ty3 rfl rfl)) ?_
    refine DrawC.step rfl rfl rfl (Loc.of rfl fun σ' hs => R_add rfl (.no rfl) (hd_sup hs rfl) (.tmp (hs.slots _ _ rfl) fun _ => rfl) (.tmp (hs.slots _ _ rfl) fun _ => rfl) (fun _ => by omega)) ?_
    refine DrawC.step rfl rfl rfl (Loc.of rfl fun σ' hs => (by exact R_indexAddr rfl (.no rfl) (hd_sup hs rfl) (.tmp (hs.slots _ _ rfl) fun _ => rfl) (.tmp (hs.slots _ _ rfl) fun _ => rfl) Try.underlying22 ty3 (fun _ => ⟨by omega, (map_get hgi)⟩))) ?_
    refine DrawC.step rfl rfl rfl (Loc.of rfl fun σ' hs => (by exact R_load rfl (.no rfl) (hd_sup hs rfl) (.tmp (hs.slots _ _ rfl) fun _ => rfl) ty3 rfl rfl)) ?_
    refine DrawC.step rfl rfl rfl (Loc.of rfl fun σ' hs => R_assign rfl (.no rfl) (hd_sup hs rfl) (.tmp (hs.slots _ _ rfl) fun _ => rfl)) ?_
    refine DrawC.fin rfl rfl ?_
    refine AWl.nil ?_
    refine AW.ret ?_
    refine Res.v rfl rfl ?_
    unfold cheapCost; rw [if_pos hok]
theorem implCheapestCost (g : TGraph) (a : TAutomaton) (l : List Int) (x y : Int) : FnT Try.prog 18 [.agg (cGraph g), .agg (cAutomaton a), .one (.sl 1 (l.map cInt)), .one (.v (.int .i64 x)), .one (.v (.int .i64 y))] (.a (.one (.v (.int .i64 (cheapCost g a l x y))))) := by
  refine FnT.walk Try.func18 rfl (by kernel_rfl) Try.ntmps18 rfl fun hlen w0 => ?_
  try simp [cPair, cToken, cExpr, cEdge, cGraph, cStep, cWalk, cChange, cBatch, cHistory, cPositions, cAutomaton, cProductStep, cPathAtom, cConjunction, cView, cDelta, cRegistered, cRegistry] at hlen
  skip
  refine AW.seq ?_
  refine AW.region ?_
  refine AWl.put (R_boxz rfl rfl rfl (.tmp rfl fun _ => rfl) (ts := _) (by rfl)) rfl ?_
  refine AWl.put (R_boxz rfl rfl rfl (.tmp rfl fun _ => rfl) (ts := _) (by rfl)) rfl ?_
  refine AWl.put (R_assign rfl (.no rfl) rfl (.const rfl)) rfl ?_
  refine AWl.nil ?_
  refine AW.seq ?_
  refine AW.seq ?_
  refine AW.region ?_
  refine AWl.put (R_move rfl (.no rfl) rfl (.tmp rfl fun _ => rfl)) rfl ?_
  refine AWl.put (R_callz (FnT.fr (implAreCosts l)) rfl (.no rfl) rfl (.cons (.tmp rfl fun _ => rfl) rfl .nil)) rfl ?_
  refine AWl.put (R_not rfl (.no rfl) rfl (.tmp rfl fun _ => rfl)) rfl ?_
  refine AWl.put (R_move rfl (.no rfl) rfl (.tmp rfl fun _ => rfl)) rfl ?_
  refine AWl.put ((by exact R_load rfl (by exact .not1 rfl rfl rfl rfl) rfl (.tmp rfl (by exact fun _ => rfl)) ty35 rfl rfl)) rfl ?_
  refine AWl.put ((by exact R_load rfl (by exact .not1 rfl rfl rfl rfl) rfl (.tmp rfl (by exact fun _ => rfl)) ty37 rfl rfl)) rfl ?_
  refine AWl.put (R_move rfl (by exact .not1 rfl rfl rfl rfl) rfl (.tmp rfl (by exact fun _ => rfl))) rfl ?_
  refine AWl.put (R_move rfl (by exact .not1 rfl rfl rfl rfl) rfl (.tmp rfl (by exact fun _ => rfl))) rfl ?_
  refine AWl.put (R_grd (by exact .not1 rfl rfl rfl rfl) rfl fun hq => R_listz (xs := [.tmp 17, .tmp 18]) (rows := [cInt x, cInt y]) rfl rfl rfl (.cons (.tmp rfl (by exact fun _ => hq)) rfl rfl (.cons (.tmp rfl (by exact fun _ => hq)) rfl rfl .nil)) Try.underlying22 in3 rfl rfl (rfl)) rfl ?_
  refine AWl.put (R_callz (FnT.fr (implbothOk g a [x, y])) rfl (by exact .not1 rfl rfl rfl rfl) rfl (.cons (.tmp rfl (by exact id)) rfl (.cons (.tmp rfl (by exact id)) rfl (.cons (.tmp rfl (by exact id)) rfl .nil)))) rfl ?_
  refine AWl.put (R_not rfl (by exact .not1 rfl rfl rfl rfl) rfl (.tmp rfl (by exact id))) rfl ?_
  refine AWl.put (R_or rfl (.no rfl) rfl (.tmp rfl fun _ => rfl) (.tmp rfl (by exact id))) rfl ?_
  refine AWl.nil ?_
  refine AW.cond (.tmp rfl fun _ => rfl) (fun h22 => ?_) (fun h22 => ?_)
  · skip
    try simp at h22
    have hno : cheapOk g a l x y = false := by (rw [← cheap_both]; revert h22; cases areCosts l <;> cases bothB g a [x, y] <;> simp)
    refine AW.seq ?_
    refine AW.le (σ' := ⟨_, [(0, _), (1, _), (2, _), (3, _), (4, _), (5, _), (6, _), (10, _)], []⟩) (Le.sub0 rfl ⟨rfl, rfl, rfl, rfl, rfl, rfl, rfl, rfl, trivial⟩ trivial) ?_
    refine AW.region ?_
    refine AWl.put (R_assign rfl (.no rfl) rfl (.const rfl)) rfl ?_
    refine AWl.nil ?_
    refine AW.ret ?_
    refine Res.v rfl rfl ?_
    unfold cheapCost; rw [hno]; rfl
  · skip
    try simp at h22
    have hok : cheapOk g a l x y = true := by (rw [← cheap_both]; revert h22; cases areCosts l <;> cases bothB g a [x, y] <;> simp)
    have hp := hok
    unfold cheapOk at hp; simp only [Bool.and_eq_true] at hp
    obtain ⟨hg, ha, hx⟩ := good_parts hp.1
    have hy := (good_parts hp.2.1).2.2
    have hA := validA_len ha
    have hG := validG_len hg
    have hs := start_ok ha hx
    have hwc := weights_CW ha hg hp.2.2 y
    have hwl := hwc.2.1.len
    have hgi := atW_get (W := weightsOf g a l y) (k := x * (a.Accept.length : Int) + a.Start) (by rw [hwl]; unfold NPx; omega)
    have hxm : x * (a.Accept.length : Int) ≤ 60 ∧ 0 ≤ x * (a.Accept.length : Int) := ⟨Int.le_trans (Int.mul_le_mul (show x ≤ 5 by omega) (show (a.Accept.length : Int) ≤ 12 by omega) (by omega) (by omega)) (by omega), Int.mul_nonneg hx.1 (by omega)⟩
    refine AW.skip ?_
    refine AW.seq ?_
    refine AW.le (σ' := ⟨_, [(0, _), (1, _), (2, _), (3, _), (4, _), (5, _), (6, _), (10, _)], []⟩) (Le.sub0 rfl ⟨rfl, rfl, rfl, rfl, rfl, rfl, rfl, rfl, trivial⟩ trivial) ?_
    refine AW.drawn 17 (nthB [[], [], [], [], [0, 1, 2, 3], [], [], [6], [6, 7], [5, 6, 7, 8], [], [10], [5, 6, 7, 8, 9, 10, 11], [0, 1, 2, 3, 4, 5, 6, 7, 8, 9, 10, 11, 12], [0, 1, 2, 3, 4, 5, 6, 7, 8, 9, 10, 11, 12, 13], [0, 1, 2, 3, 4, 5, 6, 7, 8, 9, 10, 11, 12, 13, 14], [0, 1, 2, 3, 4, 5, 6, 7, 8, 9, 10, 11, 12, 13, 14, 15]]) (by kernel_rfl) (by kernel_rfl) (by kernel_rfl) ?_
    refine DrawC.step rfl rfl rfl (Loc.of rfl fun σ' hs => (by exact R_load rfl (.no rfl) (hd_sup hs rfl) (.tmp (hs.slots _ _ rfl) fun _ => rfl) ty35 rfl rfl)) ?_
    refine DrawC.step rfl rfl rfl (Loc.of rfl fun σ' hs => (by exact R_load rfl (.no rfl) (hd_sup hs rfl) (.tmp (hs.slots _ _ rfl) fun _ => rfl) ty37 rfl rfl)) ?_
    refine DrawC.step rfl rfl rfl (Loc.of rfl fun σ' hs => R_move rfl (.no rfl) (hd_sup hs rfl) (.tmp (hs.slots _ _ rfl) fun _ => rfl)) ?_
    refine DrawC.step rfl rfl rfl (Loc.of rfl fun σ' hs => R_move rfl (.no rfl) (hd_sup hs rfl) (.tmp (hs.slots _ _ rfl) fun _ => rfl)) ?_
    refine DrawC.step rfl rfl rfl (Loc.of rfl fun σ' hs => R_callz (FnT.fr (implweights g a ha hg l hp.2.2 y hy)) rfl (.no rfl) (hd_sup hs rfl) (.cons (.tmp (hs.slots _ _ rfl) fun _ => rfl) (readA_sup hs rfl) (.cons (.tmp (hs.slots _ _ rfl) fun _ => rfl) (readA_sup hs rfl) (.cons (.tmp (hs.slots _ _ rfl) fun _ => rfl) (readA_sup hs rfl) (.cons (.tmp (hs.slots _ _ rfl) fun _ => rfl) (readA_sup hs rfl) .nil))))) ?_
    refine DrawC.step rfl rfl rfl (Loc.of rfl fun σ' hs => R_move rfl (.no rfl) (hd_sup hs rfl) (.tmp (hs.slots _ _ rfl) fun _ => rfl)) ?_
    refine DrawC.step rfl rfl rfl (Loc.of rfl fun σ' hs => (by exact R_fieldAddr rfl (.no rfl) (hd_sup hs rfl) (.tmp (hs.slots _ _ rfl) fun _ => rfl) fl37_1)) ?_
    refine DrawC.step rfl rfl rfl (Loc.of rfl fun σ' hs => (by exact R_load rfl (.no rfl) (hd_sup hs rfl) (.tmp (hs.slots _ _ rfl) fun _ => rfl) ty26 rfl rfl)) ?_
    refine DrawC.step rfl rfl rfl (Loc.of rfl fun σ' hs => (by exact R_lenm rfl (.no rfl) (hd_sup hs rfl) (.tmp (hs.slots _ _ rfl) fun _ => rfl) (by exact .t) Try.underlying26)) ?_
    refine DrawC.step rfl rfl rfl (Loc.of rfl fun σ' hs => R_mul rfl (.no rfl) (hd_sup hs rfl) (.tmp (hs.slots _ _ rfl) fun _ => rfl) (.tmp (hs.slots _ _ rfl) fun _ => rfl) (fun _ => by omega)) ?_
    refine DrawC.step rfl rfl rfl (Loc.of rfl fun σ' hs => (by exact R_fieldAddr rfl (.no rfl) (hd_sup hs rfl) (.tmp (hs.slots _ _ rfl) fun _ => rfl) fl37_0)) ?_
    refine DrawC.step rfl rfl rfl (Loc.of rfl fun σ' hs => (by exact R_load rfl (.no rfl) (hd_sup hs rfl) (.tmp (hs.slots _ _ rfl) fun _ => rfl) ty3 rfl rfl)) ?_
    refine DrawC.step rfl rfl rfl (Loc.of rfl fun σ' hs => R_add rfl (.no rfl) (hd_sup hs rfl) (.tmp (hs.slots _ _ rfl) fun _ => rfl) (.tmp (hs.slots _ _ rfl) fun _ => rfl) (fun _ => by omega)) ?_
    refine DrawC.step rfl rfl rfl (Loc.of rfl fun σ' hs => (by exact R_indexAddr rfl (.no rfl) (hd_sup hs rfl) (.tmp (hs.slots _ _ rfl) fun _ => rfl) (.tmp (hs.slots _ _ rfl) fun _ => rfl) Try.underlying89 ty88 (fun _ => ⟨by omega, (map_get hgi)⟩))) ?_
    refine DrawC.step rfl rfl rfl (Loc.of rfl fun σ' hs => (by exact R_fieldAddr rfl (.no rfl) (hd_sup hs rfl) (.tmp (hs.slots _ _ rfl) fun _ => rfl) fl88_0)) ?_
    refine DrawC.step rfl rfl rfl (Loc.of rfl fun σ' hs => (by exact R_load rfl (.no rfl) (hd_sup hs rfl) (.tmp (hs.slots _ _ rfl) fun _ => rfl) ty3 rfl rfl)) ?_
    refine DrawC.step rfl rfl rfl (Loc.of rfl fun σ' hs => R_assign rfl (.no rfl) (hd_sup hs rfl) (.tmp (hs.slots _ _ rfl) fun _ => rfl)) ?_
    refine DrawC.fin rfl rfl ?_
    refine AWl.nil ?_
    refine AW.ret ?_
    refine Res.v rfl rfl ?_
    unfold cheapCost; rw [if_pos hok, ← hwc.2.2.2, ← atW_fst]
theorem specCheapestAnswer (g : TGraph) (a : TAutomaton) (l : List Int) (x : Int) : FnT Try.prog 22 [.agg (cGraph g), .agg (cAutomaton a), .one (.sl 1 (l.map cInt)), .one (.v (.int .i64 x))] (.tup [.one (.v (.int .i64 (chA g a l x g.Values.length).1)), .one (.v (.int .i64 (chA g a l x g.Values.length).2))]) := by
  refine FnT.walk Try.func22 rfl (by kernel_rfl) Try.ntmps22 rfl fun hlen w0 => ?_
  try simp [cPair, cToken, cExpr, cEdge, cGraph, cStep, cWalk, cChange, cBatch, cHistory, cPositions, cAutomaton, cProductStep, cPathAtom, cConjunction, cView, cDelta, cRegistered, cRegistry] at hlen
  skip
  refine AW.seq ?_
  refine AW.region ?_
  refine AWl.put (R_boxz rfl rfl rfl (.tmp rfl fun _ => rfl) (ts := _) (by rfl)) rfl ?_
  refine AWl.put (R_boxz rfl rfl rfl (.tmp rfl fun _ => rfl) (ts := _) (by rfl)) rfl ?_
  refine AWl.put (R_assign rfl (.no rfl) rfl (.const rfl)) rfl ?_
  refine AWl.put (R_assign rfl (.no rfl) rfl (.const rfl)) rfl ?_
  refine AWl.nil ?_
  refine AW.seq ?_
  refine AW.region ?_
  refine AWl.put (R_assign rfl (.no rfl) rfl (.const rfl)) rfl ?_
  refine AWl.nil ?_
  refine AW.seq ?_
  refine AW.region ?_
  refine AWl.put (R_assign rfl (.no rfl) rfl (.const rfl)) rfl ?_
  refine AWl.nil ?_
  refine AW.seq ?_
  refine AW.seq ?_
  refine AW.region ?_
  refine AWl.put (R_assign rfl (.no rfl) rfl (.const rfl)) rfl ?_
  refine AWl.nil ?_
  refine AW.block ?_
  refine AW.loop3 (fun (k : Nat) (n : Int) (m : Int) => (k ≤ g.Values.length) ∧ chA g a l x k = (n, m)) (fun (k : Nat) (n : Int) (m : Int) => ⟨_, [(12, (true, .a (.one (.t (.v (.int .i64 (k : Nat))))))), (10, (true, .a (.one (.t (.v (.int .i64 n)))))), (11, (true, .a (.one (.t (.v (.int .i64 m)))))), (2, _), (3, _), (4, _), (5, _), (8, _), (9, _)], []⟩) (fun (k : Nat) (n : Int) (m : Int) => g.Values.length - k) (0) (-1) (-1) ⟨Nat.zero_le _, rfl⟩ (Le.sub0 rfl ⟨rfl, rfl, rfl, rfl, rfl, rfl, rfl, rfl, rfl, trivial⟩ trivial) ?_
  rintro k n m ⟨hk, he⟩
  refine AW.seq ?_
  refine AW.seq ?_
  refine AW.region ?_
  refine AWl.put (R_move rfl (.no rfl) rfl (.tmp rfl fun _ => rfl)) rfl ?_
  refine AWl.put ((by exact R_fieldAddr rfl (.no rfl) rfl (.tmp rfl fun _ => rfl) fl35_0)) rfl ?_
  refine AWl.put ((by exact R_load rfl (.no rfl) rfl (.tmp rfl fun _ => rfl) ty22 rfl rfl)) rfl ?_
  refine AWl.put ((by exact R_lenm rfl (.no rfl) rfl (.tmp rfl fun _ => rfl) (by exact .t) Try.underlying22)) rfl ?_
  refine AWl.put (R_lt rfl (.no rfl) rfl (.tmp rfl fun _ => rfl) (.tmp rfl fun _ => rfl)) rfl ?_
  refine AWl.put (R_move rfl (.no rfl) rfl (.tmp rfl fun _ => rfl)) rfl ?_
  refine AWl.put ((by exact R_load rfl (by exact .yes1 rfl rfl rfl rfl) rfl (.tmp rfl (by exact fun _ => rfl)) ty35 rfl rfl)) rfl ?_
  refine AWl.put ((by exact R_load rfl (by exact .yes1 rfl rfl rfl rfl) rfl (.tmp rfl (by exact fun _ => rfl)) ty37 rfl rfl)) rfl ?_
  refine AWl.put (R_move rfl (by exact .yes1 rfl rfl rfl rfl) rfl (.tmp rfl (by exact fun _ => rfl))) rfl ?_
  refine AWl.put (R_callz (FnT.fr (specl14Good g a x 0)) rfl (by exact .yes1 rfl rfl rfl rfl) rfl (.cons (.tmp rfl (by exact id)) rfl (.cons (.tmp rfl (by exact id)) rfl (.cons (.tmp rfl (by exact id)) rfl (.cons (.const rfl) rfl .nil))))) rfl ?_
  refine AWl.put (R_and rfl (.no rfl) rfl (.tmp rfl fun _ => rfl) (.tmp rfl (by exact id))) rfl ?_
  refine AWl.nil ?_
  refine AW.cond (.tmp rfl fun _ => rfl) (fun h24 => ?_) (fun h24 => ?_)
  · skip
    try simp at h24
    have hkV : k < g.Values.length := by (have := h24; first | omega | (simp at this; omega))
    have hcr := cheapCost_rng g a l x (k : Int)
    refine AW.skip ?_
    refine AW.seq ?_
    refine AW.block ?_
    refine AW.seq ?_
    refine AW.le (σ' := ⟨_, [(2, _), (3, _), (4, _), (5, _), (8, _), (9, _), (10, _), (11, _), (12, _)], []⟩) (Le.sub0 rfl ⟨rfl, rfl, rfl, rfl, rfl, rfl, rfl, rfl, rfl, trivial⟩ trivial) ?_
    refine AW.region ?_
    refine AWl.put ((by exact R_load rfl (.no rfl) rfl (.tmp rfl fun _ => rfl) ty35 rfl rfl)) rfl ?_
    refine AWl.put ((by exact R_load rfl (.no rfl) rfl (.tmp rfl fun _ => rfl) ty37 rfl rfl)) rfl ?_
    refine AWl.put (R_move rfl (.no rfl) rfl (.tmp rfl fun _ => rfl)) rfl ?_
    refine AWl.put (R_move rfl (.no rfl) rfl (.tmp rfl fun _ => rfl)) rfl ?_
    refine AWl.put (R_move rfl (.no rfl) rfl (.tmp rfl fun _ => rfl)) rfl ?_
    refine AWl.put (R_callz (FnT.fr (specCheapestCost g a l x (k : Int))) rfl (.no rfl) rfl (.cons (.tmp rfl fun _ => rfl) rfl (.cons (.tmp rfl fun _ => rfl) rfl (.cons (.tmp rfl fun _ => rfl) rfl (.cons (.tmp rfl fun _ => rfl) rfl (.cons (.tmp rfl fun _ => rfl) rfl .nil)))))) rfl ?_
    refine AWl.put (R_assign rfl (.no rfl) rfl (.tmp rfl fun _ => rfl)) rfl ?_
    refine AWl.nil ?_
    refine AW.seq ?_
    refine AW.le (σ' := ⟨_, [(2, _), (3, _), (4, _), (5, _), (8, _), (9, _), (10, _), (11, _), (12, _), (13, _)], []⟩) (Le.sub0 rfl ⟨rfl, rfl, rfl, rfl, rfl, rfl, rfl, rfl, rfl, rfl, trivial⟩ trivial) ?_
    refine AW.region ?_
    refine AWl.put (R_move rfl (.no rfl) rfl (.tmp rfl fun _ => rfl)) rfl ?_
    refine AWl.put (R_ge rfl (.no rfl) rfl (.tmp rfl fun _ => rfl) (.const rfl)) rfl ?_
    refine AWl.put (R_move rfl (.no rfl) rfl (.tmp rfl fun _ => rfl)) rfl ?_
    refine AWl.put (R_move rfl (by exact .yes1 rfl rfl rfl rfl) rfl (.tmp rfl (by exact fun _ => rfl))) rfl ?_
    refine AWl.put (R_lt rfl (by exact .yes1 rfl rfl rfl rfl) rfl (.tmp rfl (by exact id)) (.const rfl)) rfl ?_
    refine AWl.put (R_move rfl (by exact .yes1 rfl rfl rfl rfl) rfl (.tmp rfl (by exact id))) rfl ?_
    refine AWl.put (R_move rfl (by exact .not rfl rfl rfl rfl) rfl (.tmp rfl (by exact fun _ => rfl))) rfl ?_
    refine AWl.put (R_move rfl (by exact .not rfl rfl rfl rfl) rfl (.tmp rfl (by exact fun _ => rfl))) rfl ?_
    refine AWl.put (R_lt rfl (by exact .not rfl rfl rfl rfl) rfl (.tmp rfl (by exact id)) (.tmp rfl (by exact id))) rfl ?_
    refine AWl.put (R_or rfl (by exact .yes1 rfl rfl rfl rfl) rfl (.tmp rfl (by exact id)) (.tmp rfl (by exact id))) rfl ?_
    refine AWl.put (R_and rfl (.no rfl) rfl (.tmp rfl fun _ => rfl) (.tmp rfl (by exact id))) rfl ?_
    refine AWl.nil ?_
    refine AW.cond (.tmp rfl fun _ => rfl) (fun h43 => ?_) (fun h43 => ?_)
    · skip
      try simp at h43
      refine AW.seq ?_
      refine AW.le (σ' := ⟨_, [(2, _), (3, _), (4, _), (5, _), (8, _), (9, _), (10, _), (11, _), (12, _), (13, _)], []⟩) (Le.sub0 rfl ⟨rfl, rfl, rfl, rfl, rfl, rfl, rfl, rfl, rfl, rfl, trivial⟩ trivial) ?_
      refine AW.region ?_
      refine AWl.put (R_move rfl (.no rfl) rfl (.tmp rfl fun _ => rfl)) rfl ?_
      refine AWl.put (R_assign rfl (.no rfl) rfl (.tmp rfl fun _ => rfl)) rfl ?_
      refine AWl.nil ?_
      refine AW.region ?_
      refine AWl.put (R_move rfl (.no rfl) rfl (.tmp rfl fun _ => rfl)) rfl ?_
      refine AWl.put (R_assign rfl (.no rfl) rfl (.tmp rfl fun _ => rfl)) rfl ?_
      refine AWl.nil ?_
      refine AW.region ?_
      refine AWl.put (R_move rfl (.no rfl) rfl (.tmp rfl fun _ => rfl)) rfl ?_
      refine AWl.put (R_add rfl (.no rfl) rfl (.tmp rfl fun _ => rfl) (.const rfl) (fun _ => by omega)) rfl ?_
      refine AWl.put (R_assign rfl (.no rfl) rfl (.tmp rfl fun _ => rfl)) rfl ?_
      refine AWl.nil ?_
      repeat (with_reducible refine BlockQ.nor ?_)
      refine Round3.next (k + 1) ((k : Int)) (cheapCost g a l x k) ⟨by omega, (by rw [chA, he, if_pos (by simpa using h43)])⟩ (by omega) (Le.sub0 rfl ⟨rfl, rfl, rfl, rfl, rfl, rfl, rfl, rfl, rfl, trivial⟩ trivial)
    · skip
      try simp at h43
      refine AW.skip ?_
      refine AW.le (σ' := ⟨_, [(2, _), (3, _), (4, _), (5, _), (8, _), (9, _), (10, _), (11, _), (12, _), (13, _)], []⟩) (Le.sub0 rfl ⟨rfl, rfl, rfl, rfl, rfl, rfl, rfl, rfl, rfl, rfl, trivial⟩ trivial) ?_
      refine AW.region ?_
      refine AWl.put (R_move rfl (.no rfl) rfl (.tmp rfl fun _ => rfl)) rfl ?_
      refine AWl.put (R_add rfl (.no rfl) rfl (.tmp rfl fun _ => rfl) (.const rfl) (fun _ => by omega)) rfl ?_
      refine AWl.put (R_assign rfl (.no rfl) rfl (.tmp rfl fun _ => rfl)) rfl ?_
      refine AWl.nil ?_
      repeat (with_reducible refine BlockQ.nor ?_)
      refine Round3.next (k + 1) (n) (m) ⟨by omega, (by rw [chA, he, if_neg (by simpa using h43)])⟩ (by omega) (Le.sub0 rfl ⟨rfl, rfl, rfl, rfl, rfl, rfl, rfl, rfl, rfl, trivial⟩ trivial)
  · skip
    try simp at h24
    have hend : chA g a l x k = chA g a l x g.Values.length := by (cases hb : goodB g a x 0; (rw [chA_bad hb, chA_bad hb]); (rw [hb] at h24; rw [show k = g.Values.length by first | omega | (simp at h24; omega)]))
    refine AW.exit ?_
    refine AW.seq ?_
    refine AW.le (σ' := ⟨_, [(2, _), (3, _), (4, _), (5, _), (8, _), (9, _), (10, _), (11, _), (12, _)], []⟩) (Le.sub0 rfl ⟨rfl, rfl, rfl, rfl, rfl, rfl, rfl, rfl, rfl, trivial⟩ trivial) ?_
    refine AW.region ?_
    refine AWl.put (R_move rfl (.no rfl) rfl (.tmp rfl fun _ => rfl)) rfl ?_
    refine AWl.put (R_move rfl (.no rfl) rfl (.tmp rfl fun _ => rfl)) rfl ?_
    refine AWl.put (R_assign rfl (.no rfl) rfl (.tmp rfl fun _ => rfl)) rfl ?_
    refine AWl.put (R_assign rfl (.no rfl) rfl (.tmp rfl fun _ => rfl)) rfl ?_
    refine AWl.nil ?_
    refine AW.ret ?_
    refine Res.many rfl (.tmp rfl (.tmp rfl .nil)) rfl ?_ (by simp)
    rw [← hend, he]; rfl
theorem implCheapestAnswer (g : TGraph) (a : TAutomaton) (l : List Int) (x : Int) : FnT Try.prog 23 [.agg (cGraph g), .agg (cAutomaton a), .one (.sl 1 (l.map cInt)), .one (.v (.int .i64 x))] (.tup [.one (.v (.int .i64 (chA g a l x g.Values.length).1)), .one (.v (.int .i64 (chA g a l x g.Values.length).2))]) := by
  refine FnT.walk Try.func23 rfl (by kernel_rfl) Try.ntmps23 rfl fun hlen w0 => ?_
  try simp [cPair, cToken, cExpr, cEdge, cGraph, cStep, cWalk, cChange, cBatch, cHistory, cPositions, cAutomaton, cProductStep, cPathAtom, cConjunction, cView, cDelta, cRegistered, cRegistry] at hlen
  skip
  refine AW.seq ?_
  refine AW.region ?_
  refine AWl.put (R_boxz rfl rfl rfl (.tmp rfl fun _ => rfl) (ts := _) (by rfl)) rfl ?_
  refine AWl.put (R_boxz rfl rfl rfl (.tmp rfl fun _ => rfl) (ts := _) (by rfl)) rfl ?_
  refine AWl.put (R_assign rfl (.no rfl) rfl (.const rfl)) rfl ?_
  refine AWl.put (R_assign rfl (.no rfl) rfl (.const rfl)) rfl ?_
  refine AWl.nil ?_
  refine AW.seq ?_
  refine AW.region ?_
  refine AWl.put (R_assign rfl (.no rfl) rfl (.const rfl)) rfl ?_
  refine AWl.put (R_assign rfl (.no rfl) rfl (.const rfl)) rfl ?_
  refine AWl.nil ?_
  refine AW.seq ?_
  refine AW.seq ?_
  refine AW.region ?_
  refine AWl.put ((by exact R_fieldAddr rfl (.no rfl) rfl (.tmp rfl fun _ => rfl) fl35_0)) rfl ?_
  refine AWl.put ((by exact R_load rfl (.no rfl) rfl (.tmp rfl fun _ => rfl) ty22 rfl rfl)) rfl ?_
  refine AWl.put ((by exact R_lenm rfl (.no rfl) rfl (.tmp rfl fun _ => rfl) (by exact .t) Try.underlying22)) rfl ?_
  refine AWl.put (R_move rfl (.no rfl) rfl (.const rfl)) rfl ?_
  refine AWl.nil ?_
  refine AW.block ?_
  refine AW.loop3 (fun (k : Nat) (n : Int) (m : Int) => (k ≤ g.Values.length) ∧ chA g a l x k = (n, m)) (fun (k : Nat) (n : Int) (m : Int) => ⟨_, [(17, (true, .a (.one (.t (.v (.int .i64 (k : Nat))))))), (10, (true, .a (.one (.t (.v (.int .i64 n)))))), (11, (true, .a (.one (.t (.v (.int .i64 m)))))), (2, _), (3, _), (4, _), (5, _), (8, _), (9, _), (16, _)], []⟩) (fun (k : Nat) (n : Int) (m : Int) => g.Values.length - k) (0) (-1) (-1) ⟨Nat.zero_le _, rfl⟩ (Le.sub0 rfl ⟨rfl, rfl, rfl, rfl, rfl, rfl, rfl, rfl, rfl, rfl, trivial⟩ trivial) ?_
  rintro k n m ⟨hk, he⟩
  refine AW.seq ?_
  refine AW.region ?_
  refine AWl.put (R_lt rfl (.no rfl) rfl (.tmp rfl fun _ => rfl) (.tmp rfl fun _ => rfl)) rfl ?_
  refine AWl.nil ?_
  refine AW.seq ?_
  refine AW.cond (.tmp rfl fun _ => rfl) (fun h18 => ?_) (fun h18 => ?_)
  · skip
    try simp at h18
    have hcr := cheapCost_rng g a l x (k : Int)
    refine AW.skip ?_
    refine AW.seq ?_
    refine AW.block ?_
    refine AW.seq ?_
    refine AW.region ?_
    refine AWl.put (R_move rfl (.no rfl) rfl (.tmp rfl fun _ => rfl)) rfl ?_
    refine AWl.put (R_assign rfl (.no rfl) rfl (.tmp rfl fun _ => rfl)) rfl ?_
    refine AWl.nil ?_
    refine AW.seq ?_
    refine AW.region ?_
    refine AWl.put ((by exact R_load rfl (.no rfl) rfl (.tmp rfl fun _ => rfl) ty35 rfl rfl)) rfl ?_
    refine AWl.put ((by exact R_load rfl (.no rfl) rfl (.tmp rfl fun _ => rfl) ty37 rfl rfl)) rfl ?_
    refine AWl.put (R_move rfl (.no rfl) rfl (.tmp rfl fun _ => rfl)) rfl ?_
    refine AWl.put (R_move rfl (.no rfl) rfl (.tmp rfl fun _ => rfl)) rfl ?_
    refine AWl.put (R_move rfl (.no rfl) rfl (.tmp rfl fun _ => rfl)) rfl ?_
    refine AWl.put (R_callz (FnT.fr (implCheapestCost g a l x (k : Int))) rfl (.no rfl) rfl (.cons (.tmp rfl fun _ => rfl) rfl (.cons (.tmp rfl fun _ => rfl) rfl (.cons (.tmp rfl fun _ => rfl) rfl (.cons (.tmp rfl fun _ => rfl) rfl (.cons (.tmp rfl fun _ => rfl) rfl .nil)))))) rfl ?_
    refine AWl.put (R_assign rfl (.no rfl) rfl (.tmp rfl fun _ => rfl)) rfl ?_
    refine AWl.nil ?_
    refine AW.seq ?_
    refine AW.le (σ' := ⟨_, [(2, _), (3, _), (4, _), (5, _), (8, _), (9, _), (10, _), (11, _), (12, _), (13, _), (16, _), (17, _)], []⟩) (Le.sub0 rfl ⟨rfl, rfl, rfl, rfl, rfl, rfl, rfl, rfl, rfl, rfl, rfl, rfl, trivial⟩ trivial) ?_
    refine AW.region ?_
    refine AWl.put (R_move rfl (.no rfl) rfl (.tmp rfl fun _ => rfl)) rfl ?_
    refine AWl.put (R_ge rfl (.no rfl) rfl (.tmp rfl fun _ => rfl) (.const rfl)) rfl ?_
    refine AWl.put (R_move rfl (.no rfl) rfl (.tmp rfl fun _ => rfl)) rfl ?_
    refine AWl.put (R_move rfl (by exact .yes1 rfl rfl rfl rfl) rfl (.tmp rfl (by exact fun _ => rfl))) rfl ?_
    refine AWl.put (R_lt rfl (by exact .yes1 rfl rfl rfl rfl) rfl (.tmp rfl (by exact id)) (.const rfl)) rfl ?_
    refine AWl.put (R_move rfl (by exact .yes1 rfl rfl rfl rfl) rfl (.tmp rfl (by exact id))) rfl ?_
    refine AWl.put (R_move rfl (by exact .not rfl rfl rfl rfl) rfl (.tmp rfl (by exact fun _ => rfl))) rfl ?_
    refine AWl.put (R_move rfl (by exact .not rfl rfl rfl rfl) rfl (.tmp rfl (by exact fun _ => rfl))) rfl ?_
    refine AWl.put (R_lt rfl (by exact .not rfl rfl rfl rfl) rfl (.tmp rfl (by exact id)) (.tmp rfl (by exact id))) rfl ?_
    refine AWl.put (R_or rfl (by exact .yes1 rfl rfl rfl rfl) rfl (.tmp rfl (by exact id)) (.tmp rfl (by exact id))) rfl ?_
    refine AWl.put (R_and rfl (.no rfl) rfl (.tmp rfl fun _ => rfl) (.tmp rfl (by exact id))) rfl ?_
    refine AWl.nil ?_
    refine AW.cond (.tmp rfl fun _ => rfl) (fun h36 => ?_) (fun h36 => ?_)
    · skip
      try simp at h36
      refine AW.le (σ' := ⟨_, [(2, _), (3, _), (4, _), (5, _), (8, _), (9, _), (10, _), (11, _), (12, _), (13, _), (16, _), (17, _)], []⟩) (Le.sub0 rfl ⟨rfl, rfl, rfl, rfl, rfl, rfl, rfl, rfl, rfl, rfl, rfl, rfl, trivial⟩ trivial) ?_
      refine AW.region ?_
      refine AWl.put (R_move rfl (.no rfl) rfl (.tmp rfl fun _ => rfl)) rfl ?_
      refine AWl.put (R_move rfl (.no rfl) rfl (.tmp rfl fun _ => rfl)) rfl ?_
      refine AWl.put (R_assign rfl (.no rfl) rfl (.tmp rfl fun _ => rfl)) rfl ?_
      refine AWl.put (R_assign rfl (.no rfl) rfl (.tmp rfl fun _ => rfl)) rfl ?_
      refine AWl.nil ?_
      refine AW.region ?_
      refine AWl.put (R_add rfl (.no rfl) rfl (.tmp rfl fun _ => rfl) (.const rfl) (fun _ => by omega)) rfl ?_
      refine AWl.put (R_move rfl (.no rfl) rfl (.tmp rfl fun _ => rfl)) rfl ?_
      refine AWl.nil ?_
      repeat (with_reducible refine BlockQ.nor ?_)
      refine Round3.next (k + 1) ((k : Int)) (cheapCost g a l x k) ⟨by omega, (by rw [chA, he, if_pos (by simpa using h36)])⟩ (by omega) (Le.sub0 rfl ⟨rfl, rfl, rfl, rfl, rfl, rfl, rfl, rfl, rfl, rfl, trivial⟩ trivial)
    · skip
      try simp at h36
      refine AW.skip ?_
      refine AW.le (σ' := ⟨_, [(2, _), (3, _), (4, _), (5, _), (8, _), (9, _), (10, _), (11, _), (12, _), (13, _), (16, _), (17, _)], []⟩) (Le.sub0 rfl ⟨rfl, rfl, rfl, rfl, rfl, rfl, rfl, rfl, rfl, rfl, rfl, rfl, trivial⟩ trivial) ?_
      refine AW.region ?_
      refine AWl.put (R_add rfl (.no rfl) rfl (.tmp rfl fun _ => rfl) (.const rfl) (fun _ => by omega)) rfl ?_
      refine AWl.put (R_move rfl (.no rfl) rfl (.tmp rfl fun _ => rfl)) rfl ?_
      refine AWl.nil ?_
      repeat (with_reducible refine BlockQ.nor ?_)
      refine Round3.next (k + 1) (n) (m) ⟨by omega, (by rw [chA, he, if_neg (by simpa using h36)])⟩ (by omega) (Le.sub0 rfl ⟨rfl, rfl, rfl, rfl, rfl, rfl, rfl, rfl, rfl, rfl, trivial⟩ trivial)
  · skip
    try simp at h18
    refine AW.exit ?_
    refine AW.seq ?_
    refine AW.region ?_
    refine AWl.put (R_move rfl (.no rfl) rfl (.tmp rfl fun _ => rfl)) rfl ?_
    refine AWl.put (R_move rfl (.no rfl) rfl (.tmp rfl fun _ => rfl)) rfl ?_
    refine AWl.put (R_assign rfl (.no rfl) rfl (.tmp rfl fun _ => rfl)) rfl ?_
    refine AWl.put (R_assign rfl (.no rfl) rfl (.tmp rfl fun _ => rfl)) rfl ?_
    refine AWl.nil ?_
    refine AW.ret ?_
    refine Res.many rfl (.tmp rfl (.tmp rfl .nil)) rfl ?_ (by simp)
    rw [show g.Values.length = k by omega, he]; rfl
end Go.Proofs.Ytjmbiiciogakoaa
