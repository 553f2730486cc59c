/- Distances to a node: the spec's text. -/
import Derived.Test.YtbfejakbaijmhaaB49xa
import Derived.Test.YtbfejakbaijmhaaAbsSxa
set_option linter.unusedVariables false
set_option linter.unusedSimpArgs false
set_option maxHeartbeats 1000000
set_option maxRecDepth 100000
namespace Go.Q
open Go.D
theorem nx_any {g : TGraph} {a : TAutomaton} (O1 : List Int) (d : Int) (i : Nat) : ((nxN g a i).any fun z => decide (atI O1 z = d - 1)) = (stepsOf g a ((i : Int) / (a.Accept.length : Int)) ((i : Int) % (a.Accept.length : Int))).any fun e => decide (atI O1 (e.Node * (a.Accept.length : Int) + e.State) = d - 1) := by
  rw [nxN_steps, List.any_map]; rfl
noncomputable def backOf (g : TGraph) (a : TAutomaton) (y : Int) : List Int := distOf (nxN g a) (goalOf g a y) (NPx g a)
theorem negs_le' {O : List Int} {N : Nat} (h : O.length = N) : negs O ≤ N := by rw [← h]; exact negs_le O
end Go.Q
namespace Go.Proofs.Ytbfejakbaijmhaa
open Go.RowKit Go.Q Go.D
theorem specl14Back (g : TGraph) (a : TAutomaton) (ha : validA a = true) (hg : validG g = true) (y : Int) : FnT Try.prog 135 [.agg (cGraph g), .agg (cAutomaton a), .one (.v (.int .i64 y))] (.a (.one (.sl 1 ((backOf g a y).map cInt)))) := by
  refine FnT.walk Try.func135 rfl (by kernel_rfl) Try.ntmps135 rfl fun hlen w0 => ?_
  try simp [cPair, cToken, cExpr, cEdge, cGraph, cStep, cWalk, cChange, cBatch, cHistory, cPositions, cAutomaton, cProductStep, cPathAtom, cConjunction, cView, cDelta, cRegistered, cRegistry] at hlen
  have hA := validA_len ha
  have hG := validG_len hg
  have hN : NPx g a ≤ 60 := Nat.mul_le_mul (by omega : a.Accept.length ≤ 12) (by omega : g.Values.length ≤ 5)
  have hcm : (g.Values.length : Int) * (a.Accept.length : Int) = ((NPx g a : Nat) : Int) := by unfold NPx; rw [Nat.mul_comm]; simp
  have hnk : ∀ p, p < NPx g a → ∀ k ∈ nxN g a p, 0 ≤ k ∧ k < (NPx g a : Int) := fun p hp => nxN_ok ha hg hp
  have hc0l := costs0_len g a y (NPx g a)
  refine AW.seq ?_
  refine AW.region ?_
  refine AWl.put (R_boxz rfl rfl rfl (.tmp rfl fun _ => rfl) (ts := _) (by rfl)) rfl ?_
  refine AWl.put (R_boxz rfl rfl rfl (.tmp rfl fun _ => rfl) (ts := _) (by rfl)) rfl ?_
  refine AWl.put (R_assign rfl (.no rfl) rfl (.const rfl)) rfl ?_
  refine AWl.nilS (i := 6) 20001 1 rfl rfl ?_
  refine AWl.nil ?_
  refine AW.seq ?_
  refine AW.region ?_
  refine AWl.put ((by exact R_fieldAddr rfl (.no rfl) rfl (.tmp rfl fun _ => rfl) fl37_1)) rfl ?_
  refine AWl.put ((by exact R_load rfl (.no rfl) rfl (.tmp rfl fun _ => rfl) ty26 rfl rfl)) rfl ?_
  refine AWl.put ((by exact R_lenm rfl (.no rfl) rfl (.tmp rfl fun _ => rfl) (by exact .t) Try.underlying26)) rfl ?_
  refine AWl.put (R_assign rfl (.no rfl) rfl (.tmp rfl fun _ => rfl)) rfl ?_
  refine AWl.nil ?_
  refine AW.seq ?_
  refine AW.region ?_
  refine AWl.add (R_empty 20 rfl rfl rfl Try.underlying22 ty3 rfl) rfl ?_
  refine AWl.put (R_assign rfl (.no rfl) rfl (.tmp rfl fun _ => rfl)) rfl ?_
  refine AWl.nil ?_
  refine AW.seq ?_
  refine AW.seq ?_
  refine AW.region ?_
  refine AWl.put (R_assign rfl (.no rfl) rfl (.const rfl)) rfl ?_
  refine AWl.nil ?_
  refine AW.block ?_
  refine AW.loop1 (fun (k : Nat) => (k ≤ NPx g a) ∧ True) (fun (k : Nat) => ⟨_, [(9, (true, .a (.one (.t (.v (.int .i64 (k : Nat))))))), (8, (true, .a (.one (.rf 20)))), (2, _), (3, _), (4, _), (6, _), (7, _)], [(20, .row 1 ((costs0 g a y k).map cInt))]⟩) (fun (k : Nat) => NPx g a - k) (0) ⟨Nat.zero_le _, trivial⟩ (Le.sub0 rfl ⟨rfl, rfl, rfl, rfl, rfl, rfl, rfl, trivial⟩ ⟨rfl, trivial⟩) ?_
  rintro k ⟨hk, he⟩
  refine AW.seq ?_
  refine AW.seq ?_
  refine AW.region ?_
  refine AWl.put (R_move rfl (.no rfl) rfl (.tmp rfl fun _ => rfl)) rfl ?_
  refine AWl.put ((by exact R_fieldAddr rfl (.no rfl) rfl (.tmp rfl fun _ => rfl) fl35_0)) rfl ?_
  refine AWl.put ((by exact R_load rfl (.no rfl) rfl (.tmp rfl fun _ => rfl) ty22 rfl rfl)) rfl ?_
  refine AWl.put ((by exact R_lenm rfl (.no rfl) rfl (.tmp rfl fun _ => rfl) (by exact .t) Try.underlying22)) rfl ?_
  refine AWl.put (R_move rfl (.no rfl) rfl (.tmp rfl fun _ => rfl)) rfl ?_
  refine AWl.put (R_mul rfl (.no rfl) rfl (.tmp rfl fun _ => rfl) (.tmp rfl fun _ => rfl) (fun _ => ⟨by omega, by omega⟩)) rfl ?_
  refine AWl.put (R_lt rfl (.no rfl) rfl (.tmp rfl fun _ => rfl) (.tmp rfl fun _ => rfl)) rfl ?_
  refine AWl.nil ?_
  refine AW.cond (.tmp rfl fun _ => rfl) (fun h27 => ?_) (fun h27 => ?_)
  · skip
    try simp at h27
    have hdm := nd_ok (p := k) hA.1 (show k < NPx g a by omega)
    obtain ⟨v, hv⟩ : ∃ v, g.Values[((k : Int) / (a.Accept.length : Int)).toNat]? = some v := ⟨_, List.getElem?_eq_getElem (by omega)⟩
    have hcl := costs0_len g a y k
    refine AW.skip ?_
    refine AW.seq ?_
    refine AW.block ?_
    refine AW.seq ?_
    refine AW.le (σ' := ⟨_, [(2, _), (3, _), (4, _), (6, _), (7, _), (8, _), (9, _)], [(20, _)]⟩) (Le.sub0 rfl ⟨rfl, rfl, rfl, rfl, rfl, rfl, rfl, trivial⟩ ⟨rfl, trivial⟩) ?_
    refine AW.region ?_
    refine AWl.put (R_assign rfl (.no rfl) rfl (.const rfl)) rfl ?_
    refine AWl.nil ?_
    refine AW.seq ?_
    refine AW.seq ?_
    refine AW.drawn 16 (nthB [[], [], [0, 1], [], [0, 1, 2, 3], [0, 1, 2, 3, 4], [0, 1, 2, 3, 4, 5], [0, 1, 2, 3, 4, 5], [0, 1, 2, 3, 4, 5], [0, 1, 2, 3, 4, 5], [0, 1, 2, 3, 4, 5, 8, 9], [0, 1, 2, 3, 4, 5], [0, 1, 2, 3, 4, 5], [0, 1, 2, 3, 4, 5, 11, 12], [0, 1, 2, 3, 4, 5, 6, 7, 8, 9, 10, 11, 12, 13], [0, 1, 2, 3, 4, 5, 6, 7, 8, 9, 10, 11, 12, 13, 14]]) (by kernel_rfl) (by kernel_rfl) (by kernel_rfl) ?_
    refine DrawC.step rfl rfl rfl (Loc.of rfl fun σ' hs => R_move rfl (.no rfl) (hd_sup hs rfl) (.tmp (hs.slots _ _ rfl) fun _ => rfl)) ?_
    refine DrawC.step rfl rfl rfl (Loc.of rfl fun σ' hs => R_move rfl (.no rfl) (hd_sup hs rfl) (.tmp (hs.slots _ _ rfl) fun _ => rfl)) ?_
    refine DrawC.step rfl rfl rfl (Loc.of rfl fun σ' hs => R_quo rfl (.no rfl) (hd_sup hs rfl) (.tmp (hs.slots _ _ rfl) fun _ => rfl) (.tmp (hs.slots _ _ rfl) fun _ => rfl) (fun _ => by omega)) ?_
    refine DrawC.step rfl rfl rfl (Loc.of rfl fun σ' hs => R_move rfl (.no rfl) (hd_sup hs rfl) (.tmp (hs.slots _ _ rfl) fun _ => rfl)) ?_
    refine DrawC.step rfl rfl rfl (Loc.of rfl fun σ' hs => R_eq rfl (.no rfl) (hd_sup hs rfl) (.tmp (hs.slots _ _ rfl) fun _ => rfl) (.tmp (hs.slots _ _ rfl) fun _ => rfl)) ?_
    refine DrawC.step rfl rfl rfl (Loc.of rfl fun σ' hs => R_move rfl (.no rfl) (hd_sup hs rfl) (.tmp (hs.slots _ _ rfl) fun _ => rfl)) ?_
    refine DrawC.step rfl rfl rfl (Loc.of rfl fun σ' hs => (by exact R_load rfl (by exact .yes1 rfl rfl (hs.slots _ _ rfl) (by rw [hs.n]; rfl)) (hd_sup hs rfl) (.tmp (hs.slots _ _ rfl) (by exact fun _ => rfl)) ty35 rfl rfl)) ?_
    refine DrawC.step rfl rfl rfl (Loc.of rfl fun σ' hs => (by exact R_load rfl (by exact .yes1 rfl rfl (hs.slots _ _ rfl) (by rw [hs.n]; rfl)) (hd_sup hs rfl) (.tmp (hs.slots _ _ rfl) (by exact fun _ => rfl)) ty37 rfl rfl)) ?_
    refine DrawC.step rfl rfl rfl (Loc.of rfl fun σ' hs => R_move rfl (by exact .yes1 rfl rfl (hs.slots _ _ rfl) (by rw [hs.n]; rfl)) (hd_sup hs rfl) (.tmp (hs.slots _ _ rfl) (by exact fun _ => rfl))) ?_
    refine DrawC.step rfl rfl rfl (Loc.of rfl fun σ' hs => R_move rfl (by exact .yes1 rfl rfl (hs.slots _ _ rfl) (by rw [hs.n]; rfl)) (hd_sup hs rfl) (.tmp (hs.slots _ _ rfl) (by exact fun _ => rfl))) ?_
    refine DrawC.step rfl rfl rfl (Loc.of rfl fun σ' hs => R_quo rfl (by exact .yes1 rfl rfl (hs.slots _ _ rfl) (by rw [hs.n]; rfl)) (hd_sup hs rfl) (.tmp (hs.slots _ _ rfl) (by exact id)) (.tmp (hs.slots _ _ rfl) (by exact id)) (fun hq => by first | omega | (simp at hq; omega))) ?_
    refine DrawC.step rfl rfl rfl (Loc.of rfl fun σ' hs => R_move rfl (by exact .yes1 rfl rfl (hs.slots _ _ rfl) (by rw [hs.n]; rfl)) (hd_sup hs rfl) (.tmp (hs.slots _ _ rfl) (by exact fun _ => rfl))) ?_
    refine DrawC.step rfl rfl rfl (Loc.of rfl fun σ' hs => R_move rfl (by exact .yes1 rfl rfl (hs.slots _ _ rfl) (by rw [hs.n]; rfl)) (hd_sup hs rfl) (.tmp (hs.slots _ _ rfl) (by exact fun _ => rfl))) ?_
    refine DrawC.step rfl rfl rfl (Loc.of rfl fun σ' hs => R_rem rfl (by exact .yes1 rfl rfl (hs.slots _ _ rfl) (by rw [hs.n]; rfl)) (hd_sup hs rfl) (.tmp (hs.slots _ _ rfl) (by exact id)) (.tmp (hs.slots _ _ rfl) (by exact id)) (fun hq => by first | omega | (simp at hq; omega))) ?_
    refine DrawC.step rfl rfl rfl (Loc.of rfl fun σ' hs => R_callz (FnT.fr (specl14Accepts g a ha hg ((k : Int) / (a.Accept.length : Int)) ((k : Int) % (a.Accept.length : Int)) v (by omega) hv (by omega))) rfl (by exact .yes1 rfl rfl (hs.slots _ _ rfl) (by rw [hs.n]; rfl)) (hd_sup hs rfl) (.cons (.tmp (hs.slots _ _ rfl) (by exact id)) (readA_sup hs rfl) (.cons (.tmp (hs.slots _ _ rfl) (by exact id)) (readA_sup hs rfl) (.cons (.tmp (hs.slots _ _ rfl) (by exact id)) (readA_sup hs rfl) (.cons (.tmp (hs.slots _ _ rfl) (by exact id)) (readA_sup hs rfl) .nil))))) ?_
    refine DrawC.step rfl rfl rfl (Loc.of rfl fun σ' hs => R_and rfl (.no rfl) (hd_sup hs rfl) (.tmp (hs.slots _ _ rfl) fun _ => rfl) (.tmp (hs.slots _ _ rfl) (by exact id))) ?_
    refine DrawC.fin rfl rfl ?_
    refine AWl.nil ?_
    refine AW.condJ ⟨_, [(2, _), (3, _), (4, _), (6, _), (7, _), (8, _), (9, _), (10, true, .a (.one (.t (.v (.int .i64 (if goalOf g a y k then 0 else -1))))))], [(20, _)]⟩ (.tmp rfl fun _ => rfl) (fun h45 => ?_) (fun h45 => Le.sub0 rfl ⟨rfl, rfl, rfl, rfl, rfl, rfl, rfl, congrArg (fun z : Int => some (true, S.a (A.one (E.t (.v (.int .i64 z)))))) (show (-1 : Int) = _ by unfold goalOf; rw [hv, Option.getD_some, if_neg (by rw [h45]; simp)]), trivial⟩ ⟨rfl, trivial⟩) ?_
    · skip
      skip
      refine AW.le (σ' := ⟨_, [(2, _), (3, _), (4, _), (6, _), (7, _), (8, _), (9, _), (10, _)], [(20, _)]⟩) (Le.sub0 rfl ⟨rfl, rfl, rfl, rfl, rfl, rfl, rfl, rfl, trivial⟩ ⟨rfl, trivial⟩) ?_
      refine AW.region ?_
      refine AWl.put (R_assign rfl (.no rfl) rfl (.const rfl)) rfl ?_
      refine AWl.nil ?_
      exact Le.sub0 rfl ⟨rfl, rfl, rfl, rfl, rfl, rfl, rfl, congrArg (fun z : Int => some (true, S.a (A.one (E.t (.v (.int .i64 z)))))) (show (0 : Int) = _ by unfold goalOf; rw [hv, Option.getD_some, if_pos h45]), trivial⟩ ⟨rfl, trivial⟩
    refine AW.region ?_
    refine AWl.put (R_move rfl (.no rfl) rfl (.tmp rfl fun _ => rfl)) rfl ?_
    refine AWl.put (R_move rfl (.no rfl) rfl (.tmp rfl fun _ => rfl)) rfl ?_
    refine AWl.put (R_listz (xs := [.tmp 47]) (rows := [cInt (if goalOf g a y k then 0 else -1)]) rfl rfl rfl (.cons (.tmp rfl fun _ => rfl) rfl rfl .nil) Try.underlying22 in3 rfl rfl (rfl)) rfl ?_
    refine AWl.chgput (R_append rfl rfl rfl (.tmp rfl fun _ => rfl) rfl (.tmp rfl fun _ => rfl) (by exact .t) (by rfl) Try.underlying22 in3 rfl (by (simp [chunk]; omega)) (by (unfold maxLen; simp [chunk]; omega))) rfl ?_
    refine AWl.le (σ' := ⟨_, [(2, _), (3, _), (4, _), (6, _), (7, _), (8, _), (9, _), (10, _), (49, _)], [(20, _)]⟩) (Le.sub0 rfl ⟨rfl, rfl, rfl, rfl, rfl, rfl, rfl, rfl, rfl, trivial⟩ ⟨rfl, trivial⟩) ?_
    refine AWl.put (R_assign rfl (.no rfl) rfl (.tmp rfl fun _ => rfl)) rfl ?_
    refine AWl.nil ?_
    refine AW.region ?_
    refine AWl.put (R_move rfl (.no rfl) rfl (.tmp rfl fun _ => rfl)) rfl ?_
    refine AWl.put (R_add rfl (.no rfl) rfl (.tmp rfl fun _ => rfl) (.const rfl) (fun _ => by omega)) rfl ?_
    refine AWl.put (R_assign rfl (.no rfl) rfl (.tmp rfl fun _ => rfl)) rfl ?_
    refine AWl.nil ?_
    repeat (with_reducible refine BlockQ.nor ?_)
    refine Round1.next (k + 1) ⟨by omega, trivial⟩ (by omega) (Le.sub0 rfl ⟨rfl, rfl, rfl, rfl, rfl, rfl, rfl, trivial⟩ ⟨(by (refine congrArg (fun r => some (R.row 1 r)) ?_; rw [costs0_succ]; simp; done)), trivial⟩)
  · skip
    try simp at h27
    refine AW.exit ?_
    refine AW.seq ?_
    refine AW.le (σ' := ⟨_, [(2, _), (3, _), (4, _), (6, _), (7, _), (8, _), (9, _)], [(20, .row 1 ((costs0 g a y (NPx g a)).map cInt))]⟩) (Le.sub0 rfl ⟨rfl, rfl, rfl, rfl, rfl, rfl, rfl, trivial⟩ ⟨by rw [show k = NPx g a by omega]; rfl, trivial⟩) ?_
    refine AW.region ?_
    refine AWl.add (R_empty 50 rfl rfl rfl Try.underlying181 ty149 rfl) rfl ?_
    refine AWl.put (R_assign rfl (.no rfl) rfl (.tmp rfl fun _ => rfl)) rfl ?_
    refine AWl.nil ?_
    refine AW.seq ?_
    refine AW.seq ?_
    refine AW.region ?_
    refine AWl.put (R_assign rfl (.no rfl) rfl (.const rfl)) rfl ?_
    refine AWl.nil ?_
    refine AW.block ?_
    refine AW.loop1 (fun (q : Nat) => (q ≤ NPx g a) ∧ True) (fun (q : Nat) => ⟨_, [(12, (true, .a (.one (.t (.v (.int .i64 (q : Nat))))))), (8, (true, .a (.one (.rf 20)))), (11, (true, .a (.one (.rf 50)))), (3, _), (4, _), (6, _), (7, _)], [(20, .row 1 ((costs0 g a y (NPx g a)).map cInt)), (50, .row 1 ((stepsL g a q).map cProductStepS))]⟩) (fun (q : Nat) => NPx g a - q) (0) ⟨Nat.zero_le _, trivial⟩ (Le.sub0 rfl ⟨rfl, rfl, rfl, rfl, rfl, rfl, rfl, trivial⟩ ⟨rfl, rfl, trivial⟩) ?_
    rintro q ⟨hk1, he1⟩
    refine AW.seq ?_
    refine AW.seq ?_
    refine AW.region ?_
    refine AWl.put (R_move rfl (.no rfl) rfl (.tmp rfl fun _ => rfl)) rfl ?_
    refine AWl.put (R_move rfl (.no rfl) rfl (.tmp rfl fun _ => rfl)) rfl ?_
    refine AWl.put ((by exact R_lenm rfl (.no rfl) rfl (.tmp rfl fun _ => rfl) (by exact .rf rfl) Try.underlying22)) rfl ?_
    refine AWl.put (R_lt rfl (.no rfl) rfl (.tmp rfl fun _ => rfl) (.tmp rfl fun _ => rfl)) rfl ?_
    refine AWl.nil ?_
    refine AW.cond (.tmp rfl fun _ => rfl) (fun h54 => ?_) (fun h54 => ?_)
    · skip
      try simp at h54
      have hqN : q < NPx g a := by omega
      have hdq := nd_ok (p := q) hA.1 (show q < NPx g a from hqN)
      obtain ⟨vq, hvq⟩ : ∃ v, g.Values[((q : Int) / (a.Accept.length : Int)).toNat]? = some v := ⟨_, List.getElem?_eq_getElem (by omega)⟩
      have hSl := steps_len g a ((q : Int) / (a.Accept.length : Int)) ((q : Int) % (a.Accept.length : Int))
      have hsl : (stepsL g a q).length = q := by unfold stepsL; simp
      refine AW.skip ?_
      refine AW.seq ?_
      refine AW.block ?_
      refine AW.le (σ' := ⟨_, [(3, _), (4, _), (6, _), (7, _), (8, _), (11, _), (12, _), (51, _), (52, _), (53, _), (54, _)], [(20, _), (50, _)]⟩) (Le.sub0 rfl ⟨rfl, rfl, rfl, rfl, rfl, rfl, rfl, rfl, rfl, rfl, rfl, trivial⟩ ⟨rfl, rfl, trivial⟩) ?_
      refine AW.mixn 13 10 5 [1, 2, 3, 4, 5, 6, 7, 8, 9] [0] [[], [], [], [], [], [3, 4], [], [], [6, 7], [1, 2, 3, 4, 5, 6, 7, 8], [1, 2, 3, 4, 5, 6, 7, 8, 9], [0, 1, 2, 3, 4, 5, 6, 7, 8, 9, 10], [0, 1, 2, 3, 4, 5, 6, 7, 8, 9, 10, 11]] [[1, 2, 3, 4, 5, 6, 7, 8, 9], [0, 1, 2, 3, 4, 5, 6, 7, 8, 9], [1, 2, 3, 4, 5, 6, 7, 8, 9, 10], [0, 1, 2, 3, 4, 5, 6, 7, 8, 9, 10], [0, 1, 2, 3, 4, 5, 6, 7, 8, 9, 10, 11], [0, 1, 2, 3, 4, 5, 6, 7, 8, 9, 10, 11, 12]] [(0, 0, 1), (0, 10, 2), (1, 10, 3), (2, 0, 3), (3, 11, 4), (4, 12, 5)] [(0, [1, 2, 3, 4, 5, 6, 7, 8, 9]), (1, [0, 1, 2, 3, 4, 5, 6, 7, 8, 9])] (by kernel_rfl) (by kernel_rfl) (by kernel_rfl) (by kernel_rfl) rfl rfl ?_
      refine DrawG.step rfl rfl (Loc.of rfl fun σ' hs => R_move rfl (.no rfl) (hd_sup hs rfl) (.tmp (hs.slots _ _ rfl) fun _ => rfl)) ?_
      refine DrawG.step rfl rfl (Loc.of rfl fun σ' hs => (by exact R_load rfl (.no rfl) (hd_sup hs rfl) (.tmp (hs.slots _ _ rfl) fun _ => rfl) ty35 rfl rfl)) ?_
      refine DrawG.step rfl rfl (Loc.of rfl fun σ' hs => (by exact R_load rfl (.no rfl) (hd_sup hs rfl) (.tmp (hs.slots _ _ rfl) fun _ => rfl) ty37 rfl rfl)) ?_
      refine DrawG.step rfl rfl (Loc.of rfl fun σ' hs => R_move rfl (.no rfl) (hd_sup hs rfl) (.tmp (hs.slots _ _ rfl) fun _ => rfl)) ?_
      refine DrawG.step rfl rfl (Loc.of rfl fun σ' hs => R_move rfl (.no rfl) (hd_sup hs rfl) (.tmp (hs.slots _ _ rfl) fun _ => rfl)) ?_
      refine DrawG.step rfl rfl (Loc.of rfl fun σ' hs => R_quo rfl (.no rfl) (hd_sup hs rfl) (.tmp (hs.slots _ _ rfl) fun _ => rfl) (.tmp (hs.slots _ _ rfl) fun _ => rfl) (fun _ => by omega)) ?_
      refine DrawG.step rfl rfl (Loc.of rfl fun σ' hs => R_move rfl (.no rfl) (hd_sup hs rfl) (.tmp (hs.slots _ _ rfl) fun _ => rfl)) ?_
      refine DrawG.step rfl rfl (Loc.of rfl fun σ' hs => R_move rfl (.no rfl) (hd_sup hs rfl) (.tmp (hs.slots _ _ rfl) fun _ => rfl)) ?_
      refine DrawG.step rfl rfl (Loc.of rfl fun σ' hs => R_rem rfl (.no rfl) (hd_sup hs rfl) (.tmp (hs.slots _ _ rfl) fun _ => rfl) (.tmp (hs.slots _ _ rfl) fun _ => rfl) (fun _ => by omega)) ?_
      refine DrawG.step rfl rfl (Loc.ofs rfl fun σ' hs hf => R_call 6600 (specl14Steps g a ha hg ((q : Int) / (a.Accept.length : Int)) ((q : Int) % (a.Accept.length : Int)) vq (by omega) hvq (by omega)) rfl rfl (hd_sup hs rfl) (.cons (.tmp (hs.slots _ _ rfl) fun _ => rfl) (readA_sup hs rfl) (.cons (.tmp (hs.slots _ _ rfl) fun _ => rfl) (readA_sup hs rfl) (.cons (.tmp (hs.slots _ _ rfl) fun _ => rfl) (readA_sup hs rfl) (.cons (.tmp (hs.slots _ _ rfl) fun _ => rfl) (readA_sup hs rfl) .nil)))) rfl (all_fresh hf)) ?_
      refine DrawG.fin rfl (FinX.mk rfl rfl ?_)
      refine MixD.add ⟨_, [(3, _), (4, _), (6, _), (7, _), (8, _), (11, _), (12, _), (54, _), (58, _), (59, _), (60, _), (61, _), (62, _), (63, _), (64, _), (65, _), (66, _)], [(20, _), (50, _), (6600, _)]⟩ rfl (Le.sub0 rfl ⟨rfl, rfl, rfl, rfl, rfl, rfl, rfl, rfl, rfl, rfl, rfl, rfl, rfl, rfl, rfl, rfl, rfl, trivial⟩ ⟨rfl, rfl, rfl, trivial⟩) ?_
      refine MixD.add ⟨_, [(3, _), (4, _), (6, _), (7, _), (8, _), (11, _), (12, _), (54, _), (57, _), (58, _), (59, _), (60, _), (61, _), (62, _), (63, _), (64, _), (65, _), (66, _)], [(20, _), (50, _), (6600, _)]⟩ rfl (Le.sub0 rfl ⟨rfl, rfl, rfl, rfl, rfl, rfl, rfl, rfl, rfl, rfl, rfl, rfl, rfl, rfl, rfl, rfl, rfl, rfl, trivial⟩ ⟨rfl, rfl, rfl, trivial⟩) ?_
      refine MixD.go ?_
      apply Dag.old (i := 0)
      case ha => rfl
      case ho => rfl
      case hb => rfl
      case hE =>
        intro w9
        refine AWl.put (R_move rfl (.no rfl) rfl (.tmp rfl fun _ => rfl)) rfl ?_
        refine AWl.nil ?_
        exact Le.sub0 rfl ⟨rfl, rfl, rfl, rfl, rfl, rfl, rfl, rfl, rfl, rfl, rfl, rfl, rfl, rfl, rfl, rfl, rfl, rfl, trivial⟩ ⟨rfl, rfl, rfl, trivial⟩
      apply Dag.new (i := 10)
      case ha => rfl
      case ho => rfl
      case hb => rfl
      case hE =>
        intro w9
        refine AWl.absadd (R_list (xs := [.tmp 66]) 67 rfl rfl rfl (.cons (.tmp rfl fun _ => rfl) rfl rfl .nil) Try.underlying181 in149 rfl rfl rfl rfl) rfl ?_
        refine AWl.nil ?_
        exact Le.sub0 (σ' := ⟨_, [(3, _), (4, _), (6, _), (7, _), (8, _), (11, _), (12, _), (54, _), (67, _)], [(20, _), (50, _), (67, _)]⟩) rfl ⟨rfl, rfl, rfl, rfl, rfl, rfl, rfl, rfl, rfl, trivial⟩ ⟨rfl, rfl, rfl, trivial⟩
      apply Dag.new (i := 10)
      case ha => rfl
      case ho => rfl
      case hb => rfl
      case hE =>
        intro w9
        refine AWl.absadd (R_list (xs := [.tmp 66]) 67 rfl rfl rfl (.cons (.tmp rfl fun _ => rfl) rfl rfl .nil) Try.underlying181 in149 rfl rfl rfl rfl) rfl ?_
        refine AWl.nil ?_
        exact Le.sub0 (σ' := ⟨_, [(3, _), (4, _), (6, _), (7, _), (8, _), (11, _), (12, _), (54, _), (57, _), (67, _)], [(20, _), (50, _), (67, _)]⟩) rfl ⟨rfl, rfl, rfl, rfl, rfl, rfl, rfl, rfl, rfl, rfl, trivial⟩ ⟨rfl, rfl, rfl, trivial⟩
      apply Dag.old (i := 0)
      case ha => rfl
      case ho => rfl
      case hb => rfl
      case hE =>
        intro w9
        refine AWl.put (R_move rfl (.no rfl) rfl (.tmp rfl fun _ => rfl)) rfl ?_
        refine AWl.nil ?_
        exact Le.sub0 rfl ⟨rfl, rfl, rfl, rfl, rfl, rfl, rfl, rfl, rfl, rfl, trivial⟩ ⟨rfl, rfl, rfl, trivial⟩
      apply Dag.new (i := 11)
      case ha => rfl
      case ho => rfl
      case hb => rfl
      case hE =>
        intro w9
        refine AWl.abschgput (R_append_own rfl rfl rfl (.tmp rfl fun _ => rfl) rfl (.tmp rfl fun _ => rfl) rfl rfl Try.underlying181 in149 rfl (by (simp [chunk]; omega)) (by (unfold maxLen; simp [chunk]; omega))) rfl ?_
        refine AWl.nil ?_
        exact Le.sub0 (σ' := ⟨_, [(3, _), (4, _), (6, _), (7, _), (8, _), (11, _), (12, _), (54, _), (68, _)], [(20, _), (50, _)]⟩) rfl ⟨rfl, rfl, rfl, rfl, rfl, rfl, rfl, rfl, rfl, trivial⟩ ⟨rfl, rfl, trivial⟩
      apply Dag.new (i := 12)
      case ha => rfl
      case ho => rfl
      case hb => rfl
      case hE =>
        intro w9
        refine AWl.put (R_assign rfl (.no rfl) rfl (.tmp rfl fun _ => rfl)) rfl ?_
        refine AWl.nil ?_
        exact Le.sub0 (σ' := ⟨_, [(3, _), (4, _), (6, _), (7, _), (8, _), (11, _), (12, _), (54, _)], [(20, _), (50, _)]⟩) rfl ⟨rfl, rfl, rfl, rfl, rfl, rfl, rfl, rfl, trivial⟩ ⟨rfl, rfl, trivial⟩
      refine Dag.fin (k := 5) rfl ?_
      refine AWl.nil ?_
      refine AW.region ?_
      refine AWl.put (R_move rfl (.no rfl) rfl (.tmp rfl fun _ => rfl)) rfl ?_
      refine AWl.put (R_add rfl (.no rfl) rfl (.tmp rfl fun _ => rfl) (.const rfl) (fun _ => by omega)) rfl ?_
      refine AWl.put (R_assign rfl (.no rfl) rfl (.tmp rfl fun _ => rfl)) rfl ?_
      refine AWl.nil ?_
      repeat (with_reducible refine BlockQ.nor ?_)
      refine Round1.next (q + 1) ⟨by omega, trivial⟩ (by omega) (Le.sub0 rfl ⟨rfl, rfl, rfl, rfl, rfl, rfl, rfl, trivial⟩ ⟨(by rfl), (by (refine congrArg (fun r => some (R.row 1 r)) ?_; rw [stepsL_succ]; simp; rfl)), trivial⟩)
    · skip
      try simp at h54
      refine AW.exit ?_
      refine AW.seq ?_
      refine AW.le (σ' := ⟨_, [(3, _), (4, _), (6, _), (7, _), (8, _), (11, _), (12, _)], [(20, .row 1 ((costs0 g a y (NPx g a)).map cInt)), (50, .row 1 ((stepsL g a (NPx g a)).map cProductStepS))]⟩) (Le.sub0 rfl ⟨rfl, rfl, rfl, rfl, rfl, rfl, rfl, trivial⟩ ⟨rfl, by rw [show q = NPx g a by omega]; rfl, trivial⟩) ?_
      refine AW.region ?_
      refine AWl.put (R_assign rfl (.no rfl) rfl (.const rfl)) rfl ?_
      refine AWl.nil ?_
      refine AW.seq ?_
      refine AW.seq ?_
      refine AW.region ?_
      refine AWl.put (R_assign rfl (.no rfl) rfl (.const rfl)) rfl ?_
      refine AWl.nil ?_
      refine AW.block ?_
      refine AW.loop3 (fun (O : List Int) (d : Int) (ch : Bool) => (DistI (nxN g a) (goalOf g a y) (NPx g a) d O ∧ 1 ≤ d ∧ d + (negs O : Int) ≤ (NPx g a : Int) + 1 + (if ch then 0 else 1) ∧ (ch = false → IsDist (nxN g a) (goalOf g a y) (NPx g a) O)) ∧ True) (fun (O : List Int) (d : Int) (ch : Bool) => ⟨_, [(13, (true, .a (.one (.t (.v (.bool ch)))))), (14, (true, .a (.one (.t (.v (.int .i64 d)))))), (8, (true, .a (.one (.rf 20)))), (11, (true, .a (.one (.rf 50)))), (6, _), (7, _)], [(20, .row 1 (O.map cInt)), (50, .row 1 ((stepsL g a (NPx g a)).map cProductStepS))]⟩) (fun (O : List Int) (d : Int) (ch : Bool) => 2 * negs O + (if ch then 1 else 0)) (costs0 g a y (NPx g a)) (1) (true) ⟨⟨dist0_I hnk, by omega, by have := negs_le' hc0l; simp; omega, fun h => by cases h⟩, trivial⟩ (Le.sub0 rfl ⟨rfl, rfl, rfl, rfl, rfl, rfl, trivial⟩ ⟨rfl, rfl, trivial⟩) ?_
      rintro O d ch ⟨hk2, he2⟩
      refine AW.seq ?_
      refine AW.seq ?_
      refine AW.region ?_
      refine AWl.put (R_move rfl (.no rfl) rfl (.tmp rfl fun _ => rfl)) rfl ?_
      refine AWl.nil ?_
      refine AW.cond (.tmp rfl fun _ => rfl) (fun h69 => ?_) (fun h69 => ?_)
      · skip
        try simp at h69
        refine AW.skip ?_
        refine AW.seq ?_
        refine AW.block ?_
        refine AW.seq ?_
        refine AW.region ?_
        refine AWl.put (R_assign rfl (.no rfl) rfl (.const rfl)) rfl ?_
        refine AWl.nil ?_
        refine AW.seq ?_
        refine AW.region ?_
        refine AWl.put (R_assign rfl (.no rfl) rfl (.const rfl)) rfl ?_
        refine AWl.nil ?_
        refine AW.block ?_
        refine AW.loop3 (fun (i : Nat) (O1 : List Int) (c1 : Bool) => (i ≤ NPx g a ∧ DistM (nxN g a) (NPx g a) d O O1 i ∧ (c1 = false → O1 = O) ∧ (c1 = true → negs O1 < negs O)) ∧ True) (fun (i : Nat) (O1 : List Int) (c1 : Bool) => ⟨_, [(15, (true, .a (.one (.t (.v (.int .i64 (i : Nat))))))), (13, (true, .a (.one (.t (.v (.bool c1)))))), (6, _), (7, _), (8, _), (11, _), (14, _)], [(20, .row 1 (O1.map cInt)), (50, .row 1 ((stepsL g a (NPx g a)).map cProductStepS))]⟩) (fun (i : Nat) (O1 : List Int) (c1 : Bool) => NPx g a - i) (0) (O) (false) ⟨⟨Nat.zero_le _, DistM.start hk2.1, fun _ => rfl, fun h => by cases h⟩, trivial⟩ (Le.sub0 rfl ⟨rfl, rfl, rfl, rfl, rfl, rfl, rfl, trivial⟩ ⟨rfl, rfl, trivial⟩) ?_
        rintro i O1 c1 ⟨hk3, he3⟩
        refine AW.seq ?_
        refine AW.seq ?_
        refine AW.region ?_
        refine AWl.put (R_move rfl (.no rfl) rfl (.tmp rfl fun _ => rfl)) rfl ?_
        refine AWl.put (R_move rfl (.no rfl) rfl (.tmp rfl fun _ => rfl)) rfl ?_
        refine AWl.put ((by exact R_lenm rfl (.no rfl) rfl (.tmp rfl fun _ => rfl) (by exact .rf rfl) Try.underlying22)) rfl ?_
        refine AWl.put (R_lt rfl (.no rfl) rfl (.tmp rfl fun _ => rfl) (.tmp rfl fun _ => rfl)) rfl ?_
        refine AWl.nil ?_
        refine AW.cond (.tmp rfl fun _ => rfl) (fun h75 => ?_) (fun h75 => ?_)
        · skip
          try simp at h75
          have hO1 := hk3.2.1.len
          have hiN : i < NPx g a := by omega
          have hdi := nd_ok (p := i) hA.1 (show i < NPx g a by omega)
          obtain ⟨vi, hvi⟩ : ∃ v, g.Values[((i : Int) / (a.Accept.length : Int)).toNat]? = some v := ⟨_, List.getElem?_eq_getElem (by omega)⟩
          have hrow : (stepsL g a (NPx g a))[i]? = some (stepsOf g a ((i : Int) / a.Accept.length) ((i : Int) % a.Accept.length)) := by unfold stepsL; rw [List.getElem?_map, List.getElem?_range hiN]; rfl
          have hSl2 := steps_len g a ((i : Int) / (a.Accept.length : Int)) ((i : Int) % (a.Accept.length : Int))
          have hal : (arcsAt g ((i : Int) / (a.Accept.length : Int))).length ≤ 24 := Nat.le_trans (arcsL_len _ _) (by omega)
          refine AW.skip ?_
          refine AW.seq ?_
          refine AW.block ?_
          refine AW.seq ?_
          refine AW.region ?_
          refine AWl.put (R_assign rfl (.no rfl) rfl (.const rfl)) rfl ?_
          refine AWl.nil ?_
          refine AW.block ?_
          refine AW.loop3 (fun (j : Nat) (O2 : List Int) (c2 : Bool) => (j ≤ (stepsOf g a ((i : Int) / a.Accept.length) ((i : Int) % a.Accept.length)).length ∧ O2.length = NPx g a ∧ OneAt (stepsOf g a ((i : Int) / a.Accept.length) ((i : Int) % a.Accept.length)) (fun e O => decide (atI O (e.Node * (a.Accept.length : Int) + e.State) = d - 1)) i d O1 c1 j O2 c2) ∧ True) (fun (j : Nat) (O2 : List Int) (c2 : Bool) => ⟨_, [(16, (true, .a (.one (.t (.v (.int .i64 (j : Nat))))))), (13, (true, .a (.one (.t (.v (.bool c2)))))), (6, _), (7, _), (8, _), (11, _), (14, _), (15, _)], [(20, .row 1 (O2.map cInt)), (50, .row 1 ((stepsL g a (NPx g a)).map cProductStepS))]⟩) (fun (j : Nat) (O2 : List Int) (c2 : Bool) => (stepsOf g a ((i : Int) / a.Accept.length) ((i : Int) % a.Accept.length)).length - j) (0) (O1) (c1) ⟨⟨Nat.zero_le _, hO1, .still (by simp)⟩, trivial⟩ (Le.sub0 rfl ⟨rfl, rfl, rfl, rfl, rfl, rfl, rfl, rfl, trivial⟩ ⟨rfl, rfl, trivial⟩) ?_
          rintro j O2 c2 ⟨hk4, he4⟩
          refine AW.seq ?_
          refine AW.seq ?_
          refine AW.region ?_
          refine AWl.put (R_move rfl (.no rfl) rfl (.tmp rfl fun _ => rfl)) rfl ?_
          refine AWl.put (R_move rfl (.no rfl) rfl (.tmp rfl fun _ => rfl)) rfl ?_
          refine AWl.put (R_move rfl (.no rfl) rfl (.tmp rfl fun _ => rfl)) rfl ?_
          refine AWl.put ((by exact R_indexAddr_rf rfl (.no rfl) rfl (.tmp rfl fun _ => rfl) rfl (.tmp rfl fun _ => rfl) Try.underlying181 ty149 (fun _ => ⟨by omega, (by exact map_get hrow)⟩))) rfl ?_
          refine AWl.put ((by exact R_load_pr rfl (.no rfl) rfl (.tmp rfl fun _ => rfl) rfl (by exact map_get hrow) ty149 rfl rfl)) rfl ?_
          refine AWl.put ((by exact R_lenm rfl (.no rfl) rfl (.tmp rfl fun _ => rfl) (by exact .vw) Try.underlying149)) rfl ?_
          refine AWl.put (R_lt rfl (.no rfl) rfl (.tmp rfl fun _ => rfl) (.tmp rfl fun _ => rfl)) rfl ?_
          refine AWl.put (R_move rfl (.no rfl) rfl (.tmp rfl fun _ => rfl)) rfl ?_
          refine AWl.put (R_move rfl (by exact .yes1 rfl rfl rfl rfl) rfl (.tmp rfl (by exact fun _ => rfl))) rfl ?_
          refine AWl.put (R_move rfl (by exact .yes1 rfl rfl rfl rfl) rfl (.tmp rfl (by exact fun _ => rfl))) rfl ?_
          refine AWl.put ((by exact R_indexAddr_rf rfl (by exact .yes1 rfl rfl rfl rfl) rfl (.tmp rfl (by exact id)) rfl (.tmp rfl (by exact id)) Try.underlying22 ty3 (fun hq => by (try simp at hq); exact ⟨by omega, (by exact map_get (atI_get (out := O2) (k := (i : Int)) (by omega)))⟩))) rfl ?_
          refine AWl.put ((by exact R_load_pr rfl (by exact .yes1 rfl rfl rfl rfl) rfl (.tmp rfl (by exact id)) rfl (by exact map_get (atI_get (out := O2) (k := (i : Int)) (by omega))) ty3 rfl rfl)) rfl ?_
          refine AWl.put (R_lt rfl (by exact .yes1 rfl rfl rfl rfl) rfl (.tmp rfl (by exact id)) (.const rfl)) rfl ?_
          refine AWl.put (R_and rfl (.no rfl) rfl (.tmp rfl fun _ => rfl) (.tmp rfl (by exact id))) rfl ?_
          refine AWl.nil ?_
          refine AW.cond (.tmp rfl fun _ => rfl) (fun h91 => ?_) (fun h91 => ?_)
          · skip
            try simp at h91
            obtain ⟨z, hz⟩ : ∃ ξ, (stepsOf g a ((i : Int) / (a.Accept.length : Int)) ((i : Int) % (a.Accept.length : Int)))[j]? = some ξ := ⟨_, List.getElem?_eq_getElem (by omega)⟩
            have hzo := steps_ok ha hg hvi (by omega) z (List.mem_of_getElem? hz)
            have hzm : 0 ≤ z.Node * (a.Accept.length : Int) := Int.mul_nonneg hzo.1 (by omega)
            have hzk : z.Node * (a.Accept.length : Int) + z.State ∈ nxN g a i := by rw [nxN_steps]; exact List.mem_map.2 ⟨z, List.mem_of_getElem? hz, rfl⟩
            have hkk := hnk i hiN _ hzk
            have hgz := atI_get (out := O2) (k := z.Node * (a.Accept.length : Int) + z.State) (by omega)
            have hgi := atI_get (out := O2) (k := (i : Int)) (by omega)
            have hnx := hk4.2.2.next (by omega) (by omega) (by omega) hz
            refine AW.skip ?_
            refine AW.seq ?_
            refine AW.block ?_
            refine AW.seq ?_
            refine AW.le (σ' := ⟨_, [(6, _), (7, _), (8, _), (11, _), (13, _), (14, _), (15, _), (16, _)], [(20, _), (50, _)]⟩) (Le.sub0 rfl ⟨rfl, rfl, rfl, rfl, rfl, rfl, rfl, rfl, trivial⟩ ⟨rfl, rfl, trivial⟩) ?_
            refine AW.drawn 25 (nthB [[], [], [], [1, 2], [1, 2, 3], [], [1, 2, 3, 4, 5], [1, 2, 3, 4, 5, 6], [1, 2, 3, 4, 5, 6, 7], [], [1, 2, 3, 4, 5, 6, 7, 8, 9], [], [], [11, 12], [11, 12, 13], [], [11, 12, 13, 14, 15], [11, 12, 13, 14, 15, 16], [11, 12, 13, 14, 15, 16, 17], [1, 2, 3, 4, 5, 6, 7, 8, 9, 10, 11, 12, 13, 14, 15, 16, 17, 18], [0, 1, 2, 3, 4, 5, 6, 7, 8, 9, 10, 11, 12, 13, 14, 15, 16, 17, 18, 19], [0, 1, 2, 3, 4, 5, 6, 7, 8, 9, 10, 11, 12, 13, 14, 15, 16, 17, 18, 19, 20], [], [22], [0, 1, 2, 3, 4, 5, 6, 7, 8, 9, 10, 11, 12, 13, 14, 15, 16, 17, 18, 19, 20, 21, 22, 23]]) (by kernel_rfl) (by kernel_rfl) (by kernel_rfl) ?_
            refine DrawC.step rfl rfl rfl (Loc.of rfl fun σ' hs => R_move rfl (.no rfl) (hd_sup hs rfl) (.tmp (hs.slots _ _ rfl) fun _ => rfl)) ?_
            refine DrawC.step rfl rfl rfl (Loc.of rfl fun σ' hs => R_move rfl (.no rfl) (hd_sup hs rfl) (.tmp (hs.slots _ _ rfl) fun _ => rfl)) ?_
            refine DrawC.step rfl rfl rfl (Loc.of rfl fun σ' hs => R_move rfl (.no rfl) (hd_sup hs rfl) (.tmp (hs.slots _ _ rfl) fun _ => rfl)) ?_
            refine DrawC.step rfl rfl rfl (Loc.of rfl fun σ' hs => (by exact R_indexAddr_rf rfl (.no rfl) (hd_sup hs rfl) (.tmp (hs.slots _ _ rfl) fun _ => rfl) (hs.res _ _ rfl) (.tmp (hs.slots _ _ rfl) fun _ => rfl) Try.underlying181 ty149 (fun _ => ⟨by omega, (by exact map_get hrow)⟩))) ?_
            refine DrawC.step rfl rfl rfl (Loc.of rfl fun σ' hs => (by exact R_load_pr rfl (.no rfl) (hd_sup hs rfl) (.tmp (hs.slots _ _ rfl) fun _ => rfl) (hs.res _ _ rfl) (by exact map_get hrow) ty149 rfl rfl)) ?_
            refine DrawC.step rfl rfl rfl (Loc.of rfl fun σ' hs => R_move rfl (.no rfl) (hd_sup hs rfl) (.tmp (hs.slots _ _ rfl) fun _ => rfl)) ?_
            refine DrawC.step rfl rfl rfl (Loc.of rfl fun σ' hs => (by exact R_indexAddr_vw rfl (.no rfl) (hd_sup hs rfl) (.tmp (hs.slots _ _ rfl) fun _ => rfl) (.tmp (hs.slots _ _ rfl) fun _ => rfl) Try.underlying149 ty152 (fun _ => ⟨by omega, (by exact map_get hz)⟩))) ?_
            refine DrawC.step rfl rfl rfl (Loc.of rfl fun σ' hs => (by exact R_fieldAddr_vw rfl (.no rfl) (hd_sup hs rfl) (.tmp (hs.slots _ _ rfl) fun _ => rfl) fl152_1)) ?_
            refine DrawC.step rfl rfl rfl (Loc.of rfl fun σ' hs => (by exact R_load_vw rfl (.no rfl) (hd_sup hs rfl) (.tmp (hs.slots _ _ rfl) fun _ => rfl) ty3 rfl rfl)) ?_
            refine DrawC.step rfl rfl rfl (Loc.of rfl fun σ' hs => R_move rfl (.no rfl) (hd_sup hs rfl) (.tmp (hs.slots _ _ rfl) fun _ => rfl)) ?_
            refine DrawC.step rfl rfl rfl (Loc.of rfl fun σ' hs => R_mul rfl (.no rfl) (hd_sup hs rfl) (.tmp (hs.slots _ _ rfl) fun _ => rfl) (.tmp (hs.slots _ _ rfl) fun _ => rfl) (fun _ => by omega)) ?_
            refine DrawC.step rfl rfl rfl (Loc.of rfl fun σ' hs => R_move rfl (.no rfl) (hd_sup hs rfl) (.tmp (hs.slots _ _ rfl) fun _ => rfl)) ?_
            refine DrawC.step rfl rfl rfl (Loc.of rfl fun σ' hs => R_move rfl (.no rfl) (hd_sup hs rfl) (.tmp (hs.slots _ _ rfl) fun _ => rfl)) ?_
            refine DrawC.step rfl rfl rfl (Loc.of rfl fun σ' hs => (by exact R_indexAddr_rf rfl (.no rfl) (hd_sup hs rfl) (.tmp (hs.slots _ _ rfl) fun _ => rfl) (hs.res _ _ rfl) (.tmp (hs.slots _ _ rfl) fun _ => rfl) Try.underlying181 ty149 (fun _ => ⟨by omega, (by exact map_get hrow)⟩))) ?_
            refine DrawC.step rfl rfl rfl (Loc.of rfl fun σ' hs => (by exact R_load_pr rfl (.no rfl) (hd_sup hs rfl) (.tmp (hs.slots _ _ rfl) fun _ => rfl) (hs.res _ _ rfl) (by exact map_get hrow) ty149 rfl rfl)) ?_
            refine DrawC.step rfl rfl rfl (Loc.of rfl fun σ' hs => R_move rfl (.no rfl) (hd_sup hs rfl) (.tmp (hs.slots _ _ rfl) fun _ => rfl)) ?_
            refine DrawC.step rfl rfl rfl (Loc.of rfl fun σ' hs => (by exact R_indexAddr_vw rfl (.no rfl) (hd_sup hs rfl) (.tmp (hs.slots _ _ rfl) fun _ => rfl) (.tmp (hs.slots _ _ rfl) fun _ => rfl) Try.underlying149 ty152 (fun _ => ⟨by omega, (by exact map_get hz)⟩))) ?_
            refine DrawC.step rfl rfl rfl (Loc.of rfl fun σ' hs => (by exact R_fieldAddr_vw rfl (.no rfl) (hd_sup hs rfl) (.tmp (hs.slots _ _ rfl) fun _ => rfl) fl152_2)) ?_
            refine DrawC.step rfl rfl rfl (Loc.of rfl fun σ' hs => (by exact R_load_vw rfl (.no rfl) (hd_sup hs rfl) (.tmp (hs.slots _ _ rfl) fun _ => rfl) ty3 rfl rfl)) ?_
            refine DrawC.step rfl rfl rfl (Loc.of rfl fun σ' hs => R_add rfl (.no rfl) (hd_sup hs rfl) (.tmp (hs.slots _ _ rfl) fun _ => rfl) (.tmp (hs.slots _ _ rfl) fun _ => rfl) (fun _ => by omega)) ?_
            refine DrawC.step rfl rfl rfl (Loc.of rfl fun σ' hs => (by exact R_indexAddr_rf rfl (.no rfl) (hd_sup hs rfl) (.tmp (hs.slots _ _ rfl) fun _ => rfl) (hs.res _ _ rfl) (.tmp (hs.slots _ _ rfl) fun _ => rfl) Try.underlying22 ty3 (fun _ => ⟨by omega, (by exact map_get hgz)⟩))) ?_
            refine DrawC.step rfl rfl rfl (Loc.of rfl fun σ' hs => (by exact R_load_pr rfl (.no rfl) (hd_sup hs rfl) (.tmp (hs.slots _ _ rfl) fun _ => rfl) (hs.res _ _ rfl) (by exact map_get hgz) ty3 rfl rfl)) ?_
            refine DrawC.step rfl rfl rfl (Loc.of rfl fun σ' hs => R_move rfl (.no rfl) (hd_sup hs rfl) (.tmp (hs.slots _ _ rfl) fun _ => rfl)) ?_
            refine DrawC.step rfl rfl rfl (Loc.of rfl fun σ' hs => R_sub rfl (.no rfl) (hd_sup hs rfl) (.tmp (hs.slots _ _ rfl) fun _ => rfl) (.const rfl) (fun _ => by omega)) ?_
            refine DrawC.step rfl rfl rfl (Loc.of rfl fun σ' hs => R_eq rfl (.no rfl) (hd_sup hs rfl) (.tmp (hs.slots _ _ rfl) fun _ => rfl) (.tmp (hs.slots _ _ rfl) fun _ => rfl)) ?_
            refine DrawC.fin rfl rfl ?_
            refine AWl.nil ?_
            refine AW.cond (.tmp rfl fun _ => rfl) (fun h118 => ?_) (fun h118 => ?_)
            · skip
              try simp at h118
              refine AW.seq ?_
              refine AW.le (σ' := ⟨_, [(6, _), (7, _), (8, _), (11, _), (13, _), (14, _), (15, _), (16, _)], [(20, _), (50, _)]⟩) (Le.sub0 rfl ⟨rfl, rfl, rfl, rfl, rfl, rfl, rfl, rfl, trivial⟩ ⟨rfl, rfl, trivial⟩) ?_
              refine AW.region ?_
              refine AWl.put (R_move rfl (.no rfl) rfl (.tmp rfl fun _ => rfl)) rfl ?_
              refine AWl.put (R_move rfl (.no rfl) rfl (.tmp rfl fun _ => rfl)) rfl ?_
              refine AWl.put (R_move rfl (.no rfl) rfl (.tmp rfl fun _ => rfl)) rfl ?_
              refine AWl.put ((by exact R_indexAddr_rf rfl (.no rfl) rfl (.tmp rfl fun _ => rfl) rfl (.tmp rfl fun _ => rfl) Try.underlying22 ty3 (fun _ => ⟨by omega, (by exact map_get (atI_get (out := O2) (k := (i : Int)) (by omega)))⟩))) rfl ?_
              refine AWl.absupd (R_store_pr rfl rfl rfl (.tmp rfl fun _ => rfl) rfl (.tmp rfl fun _ => rfl) rfl (by exact map_get (atI_get (out := O2) (k := (i : Int)) (by omega))) ty3 rfl rfl rfl rfl) ?_
              refine AWl.nil ?_
              refine AW.region ?_
              refine AWl.put (R_assign rfl (.no rfl) rfl (.const rfl)) rfl ?_
              refine AWl.nil ?_
              refine AW.region ?_
              refine AWl.put (R_move rfl (.no rfl) rfl (.tmp rfl fun _ => rfl)) rfl ?_
              refine AWl.put (R_add rfl (.no rfl) rfl (.tmp rfl fun _ => rfl) (.const rfl) (fun _ => by omega)) rfl ?_
              refine AWl.put (R_assign rfl (.no rfl) rfl (.tmp rfl fun _ => rfl)) rfl ?_
              refine AWl.nil ?_
              repeat (with_reducible refine BlockQ.nor ?_)
              refine Round3.next (j + 1) (O2.set i d) (true) ⟨⟨by omega, by rw [List.length_set]; omega, hnx.1 (by simpa using h118)⟩, trivial⟩ (by omega) (Le.sub0 rfl ⟨rfl, rfl, rfl, rfl, rfl, rfl, rfl, rfl, trivial⟩ ⟨(by (refine congrArg (fun r => some (R.row 1 r)) ?_; simp [List.map_set, cInt]; done)), (by rfl), trivial⟩)
            · skip
              try simp at h118
              refine AW.skip ?_
              refine AW.le (σ' := ⟨_, [(6, _), (7, _), (8, _), (11, _), (13, _), (14, _), (15, _), (16, _)], [(20, _), (50, _)]⟩) (Le.sub0 rfl ⟨rfl, rfl, rfl, rfl, rfl, rfl, rfl, rfl, trivial⟩ ⟨rfl, rfl, trivial⟩) ?_
              refine AW.region ?_
              refine AWl.put (R_move rfl (.no rfl) rfl (.tmp rfl fun _ => rfl)) rfl ?_
              refine AWl.put (R_add rfl (.no rfl) rfl (.tmp rfl fun _ => rfl) (.const rfl) (fun _ => by omega)) rfl ?_
              refine AWl.put (R_assign rfl (.no rfl) rfl (.tmp rfl fun _ => rfl)) rfl ?_
              refine AWl.nil ?_
              repeat (with_reducible refine BlockQ.nor ?_)
              refine Round3.next (j + 1) (O2) (c2) ⟨⟨by omega, hk4.2.1, hnx.2 (by simpa using h118)⟩, trivial⟩ (by omega) (Le.sub0 rfl ⟨rfl, rfl, rfl, rfl, rfl, rfl, rfl, rfl, trivial⟩ ⟨(by rfl), (by rfl), trivial⟩)
          · skip
            try simp at h91
            have hfin := hk4.2.2.fin (nx := nxN g a) (by omega) (by omega) (nx_any O1 d i) (by omega)
            refine AW.exit ?_
            refine AW.le (σ' := ⟨_, [(6, _), (7, _), (8, _), (11, _), (13, _), (14, _), (15, _), (16, _)], [(20, _), (50, _)]⟩) (Le.sub0 rfl ⟨rfl, rfl, rfl, rfl, rfl, rfl, rfl, rfl, trivial⟩ ⟨rfl, rfl, trivial⟩) ?_
            refine AW.region ?_
            refine AWl.put (R_move rfl (.no rfl) rfl (.tmp rfl fun _ => rfl)) rfl ?_
            refine AWl.put (R_add rfl (.no rfl) rfl (.tmp rfl fun _ => rfl) (.const rfl) (fun _ => by omega)) rfl ?_
            refine AWl.put (R_assign rfl (.no rfl) rfl (.tmp rfl fun _ => rfl)) rfl ?_
            refine AWl.nil ?_
            repeat (with_reducible refine BlockQ.nor ?_)
            refine Round3.next (i + 1) (O2) (c2) ⟨⟨by omega, hfin.1 ▸ hk3.2.1.step (by omega) hnk hk2.1 hiN, fun h => (hfin.2.1 h).1.trans (hk3.2.2.1 (hfin.2.1 h).2), fun h => (by rcases hfin.2.2.1 h with h7 | h7; (have := hk3.2.2.2 h7; have := hfin.2.2.2; omega); (by_cases h8 : c1 = true; (have := hk3.2.2.2 h8; omega); (rw [hk3.2.2.1 (by simpa using h8)] at h7; exact h7)))⟩, trivial⟩ (by omega) (Le.sub0 rfl ⟨rfl, rfl, rfl, rfl, rfl, rfl, rfl, trivial⟩ ⟨(by rfl), (by rfl), trivial⟩)
        · skip
          try simp at h75
          have hO1 := hk3.2.1.len
          have hM := hk3.2.1
          rw [show i = NPx g a by omega] at hM
          refine AW.exit ?_
          refine AW.region ?_
          refine AWl.put (R_move rfl (.no rfl) rfl (.tmp rfl fun _ => rfl)) rfl ?_
          refine AWl.put (R_add rfl (.no rfl) rfl (.tmp rfl fun _ => rfl) (.const rfl) (fun _ => by omega)) rfl ?_
          refine AWl.put (R_assign rfl (.no rfl) rfl (.tmp rfl fun _ => rfl)) rfl ?_
          refine AWl.nil ?_
          repeat (with_reducible refine BlockQ.nor ?_)
          refine Round3.next (O1) (d + 1) (c1) ⟨⟨hM.done (by omega) hnk hk2.1, by omega, (by have h5 := hk2.2.2.1; rw [h69] at h5; have h6 := hk3.2.2.2; have h7 := hk3.2.2.1; cases c1; (rw [h7 rfl]; simp at h5 ⊢; omega); (have h8 := h6 rfl; simp at h5 ⊢; omega)), fun h => (by have e := hk3.2.2.1 h; rw [e] at hM ⊢; exact DistM.stay hk2.1 hM)⟩, trivial⟩ (by have h6 := hk3.2.2.2; have h5 := hk3.2.2.1; rw [h69]; cases c1; (rw [h5 rfl]; simp); (have h7 := h6 rfl; simp; omega)) (Le.sub0 rfl ⟨rfl, rfl, rfl, rfl, rfl, rfl, trivial⟩ ⟨(by rfl), (by rfl), trivial⟩)
      · skip
        try simp at h69
        refine AW.exit ?_
        refine AW.seq ?_
        refine AW.region ?_
        refine AWl.put (R_move rfl (.no rfl) rfl (.tmp rfl fun _ => rfl)) rfl ?_
        refine AWl.put (R_assign rfl (.no rfl) rfl (.tmp rfl fun _ => rfl)) rfl ?_
        refine AWl.nil ?_
        refine AW.ret ?_
        refine Res.one rfl (.tmp rfl .nil) rfl ?_
        (unfold backOf; rw [distOf_eq hnk (hk2.2.2.2 (by simpa using h69))]; rfl)
end Go.Proofs.Ytbfejakbaijmhaa
