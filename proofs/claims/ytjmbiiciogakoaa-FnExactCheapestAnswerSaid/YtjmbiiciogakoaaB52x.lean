/- The least costs to a node: the program's text, and both searches' ends. -/
import Derived.Test.YtjmbiiciogakoaaB51x
import Derived.Test.YtjmbiiciogakoaaB45x
import Derived.Test.YtjmbiiciogakoaaAbsRx
set_option linter.unusedVariables false
set_option linter.unusedSimpArgs false
set_option maxHeartbeats 1000000
set_option maxRecDepth 100000
namespace Go.Q
open Go.D
def cW (w : Int × Int) : List T := [.v (.int .i64 w.1), .v (.int .i64 w.2)]
/-- How far a round has come. -/
structure RI (g : TGraph) (a : TAutomaton) (l : List Int) (y : Int) (V W : List (Int × Int)) (ag : Bool) : Prop where
  cw : CW (edgesOf g a l) (goalOf g a y) (NPx g a) (P0 g a y) W
  wi : WI (edgesOf g a l) (goalOf g a y) (NPx g a) W
  lt : ag = true → msW (NPx g a) (P0 g a y) W < msW (NPx g a) (P0 g a y) V
  eq : ag = false → W = V
section
variable {g : TGraph} {a : TAutomaton} {l : List Int} {y : Int} {V W : List (Int × Int)} {ag : Bool}
theorem RI.step (h : RI g a l y V W ag) {i : Nat} {z c : Int} (hi : i < NPx g a) (he : (z, c) ∈ edgesOf g a l i) (hz : 0 ≤ z ∧ z < NPx g a) (hc : 0 ≤ c ∧ c ≤ 9) (hd : 0 ≤ (atW W z).1) (hl : lessW ((atW W z).1 + c, (atW W z).2 + 1) (atW W (i : Int)) = true) : RI g a l y V (W.set i ((atW W z).1 + c, (atW W z).2 + 1)) true := by
  have h1 := h.cw.step hi he hz hc hd hl
  refine ⟨h1.1, h.wi.step hi he hz hc.1 hd hl, fun _ => ?_, fun h => by cases h⟩
  cases ag with
  | true => exact Nat.lt_trans h1.2 (h.lt rfl)
  | false => have := h.eq rfl; subst this; exact h1.2
def fixT (n : Int) (V : List (Int × Int)) (i : Nat) (y : TArc) (c : Int) (bs : List Int) : Prop := ∀ t ∈ bs, fixw V i (y.to * n + t, c)
def fixA (g : TGraph) (a : TAutomaton) (l : List Int) (V : List (Int × Int)) (i : Nat) (v : Int) (ys : List TArc) : Prop := ∀ y ∈ ys, fixT a.Accept.length V i y (l[y.letter.toNat]?.getD 0) (bitsI (aft1 a ((i : Int) % a.Accept.length) v y.letter))
theorem fixT_at {n : Int} {V : List (Int × Int)} {i : Nat} {y : TArc} {c t : Int} {bs : List Int} {u : Nat} (h : fixT n V i y c (bs.take u)) (ht : bs[u]? = some t) (hf : fixw V i (y.to * n + t, c)) : fixT n V i y c (bs.take (u + 1)) := by
  intro q hq
  rw [take_at ht] at hq
  rcases List.mem_append.1 hq with hq | hq
  · exact h q hq
  · rw [List.mem_singleton] at hq; subst hq; exact hf
theorem fixA_at {V : List (Int × Int)} {i : Nat} {v : Int} {ys : List TArc} {j : Nat} {y : TArc} (h : fixA g a l V i v (ys.take j)) (hy : ys[j]? = some y) (hf : fixT a.Accept.length V i y (l[y.letter.toNat]?.getD 0) (bitsI (aft1 a ((i : Int) % a.Accept.length) v y.letter))) : fixA g a l V i v (ys.take (j + 1)) := by
  intro q hq
  rw [take_at hy] at hq
  rcases List.mem_append.1 hq with hq | hq
  · exact h q hq
  · rw [List.mem_singleton] at hq; subst hq; exact hf
theorem fixA_all (hg : validG g = true) (hl : areCosts l = true) {i : Nat} {v : Int} (hv : g.Values[((i : Int) / (a.Accept.length : Int)).toNat]? = some v) (h : fixA g a l V i v (arcsAt g ((i : Int) / a.Accept.length))) : ∀ e ∈ edgesOf g a l i, fixw V i e := by
  intro e he
  obtain ⟨y, hy, t, ht, rfl⟩ := (edges_arcs hg hl hv e).1 he
  exact h y hy t ht
def fixI (g : TGraph) (a : TAutomaton) (l : List Int) (V : List (Int × Int)) (i : Nat) : Prop := ∀ p, p < i → ∀ e ∈ edgesOf g a l p, fixw V p e
theorem fixI_at {i : Nat} (h : fixI g a l V i) (hf : ∀ e ∈ edgesOf g a l i, fixw V i e) : fixI g a l V (i + 1) := fun p hp => by
  rcases Nat.lt_succ_iff_lt_or_eq.1 hp with h7 | h7
  · exact h p h7
  · subst h7; exact hf
end
end Go.Q
namespace Go.Proofs.Ytjmbiiciogakoaa
open Go.RowKit Go.Q Go.D
theorem implless (w v : Int × Int) : FnT Try.prog 118 [.agg (cW w), .agg (cW v)] (.a (.one (.v (.bool (lessW w v))))) := by
  refine FnT.walk Try.func118 rfl (by kernel_rfl) Try.ntmps118 rfl fun hlen w0 => ?_
  try simp [cPair, cToken, cExpr, cEdge, cGraph, cStep, cWalk, cChange, cBatch, cHistory, cPositions, cAutomaton, cProductStep, cPathAtom, cConjunction, cView, cDelta, cRegistered, cRegistry] at hlen
  refine AW.seq ?_
  refine AW.region ?_
  refine AWl.put (R_boxz rfl rfl rfl (.tmp rfl fun _ => rfl) (ts := _) (by rfl)) rfl ?_
  refine AWl.put (R_boxz rfl rfl rfl (.tmp rfl fun _ => rfl) (ts := _) (by rfl)) rfl ?_
  refine AWl.put (R_assign rfl (.no rfl) rfl (.const rfl)) rfl ?_
  refine AWl.nil ?_
  refine AW.seq ?_
  refine AW.region ?_
  refine AWl.put ((by exact R_fieldAddr rfl (.no rfl) rfl (.tmp rfl fun _ => rfl) fl88_0)) rfl ?_
  refine AWl.put ((by exact R_load rfl (.no rfl) rfl (.tmp rfl fun _ => rfl) ty3 rfl rfl)) rfl ?_
  refine AWl.put (R_lt rfl (.no rfl) rfl (.tmp rfl fun _ => rfl) (.const rfl)) rfl ?_
  refine AWl.put (R_move rfl (.no rfl) rfl (.tmp rfl fun _ => rfl)) rfl ?_
  refine AWl.put ((by exact R_fieldAddr rfl (by exact .not1 rfl rfl rfl rfl) rfl (.tmp rfl (by exact fun _ => rfl)) fl88_0)) rfl ?_
  refine AWl.put ((by exact R_load rfl (by exact .not1 rfl rfl rfl rfl) rfl (.tmp rfl (by exact id)) ty3 rfl rfl)) rfl ?_
  refine AWl.put ((by exact R_fieldAddr rfl (by exact .not1 rfl rfl rfl rfl) rfl (.tmp rfl (by exact fun _ => rfl)) fl88_0)) rfl ?_
  refine AWl.put ((by exact R_load rfl (by exact .not1 rfl rfl rfl rfl) rfl (.tmp rfl (by exact id)) ty3 rfl rfl)) rfl ?_
  refine AWl.put (R_lt rfl (by exact .not1 rfl rfl rfl rfl) rfl (.tmp rfl (by exact id)) (.tmp rfl (by exact id))) rfl ?_
  refine AWl.put (R_or rfl (.no rfl) rfl (.tmp rfl fun _ => rfl) (.tmp rfl (by exact id))) rfl ?_
  refine AWl.put (R_move rfl (.no rfl) rfl (.tmp rfl fun _ => rfl)) rfl ?_
  refine AWl.put ((by exact R_fieldAddr rfl (by exact .not1 rfl rfl rfl rfl) rfl (.tmp rfl (by exact fun _ => rfl)) fl88_0)) rfl ?_
  refine AWl.put ((by exact R_load rfl (by exact .not1 rfl rfl rfl rfl) rfl (.tmp rfl (by exact id)) ty3 rfl rfl)) rfl ?_
  refine AWl.put ((by exact R_fieldAddr rfl (by exact .not1 rfl rfl rfl rfl) rfl (.tmp rfl (by exact fun _ => rfl)) fl88_0)) rfl ?_
  refine AWl.put ((by exact R_load rfl (by exact .not1 rfl rfl rfl rfl) rfl (.tmp rfl (by exact id)) ty3 rfl rfl)) rfl ?_
  refine AWl.put (R_eq rfl (by exact .not1 rfl rfl rfl rfl) rfl (.tmp rfl (by exact id)) (.tmp rfl (by exact id))) rfl ?_
  refine AWl.put (R_move rfl (by exact .not1 rfl rfl rfl rfl) rfl (.tmp rfl (by exact id))) rfl ?_
  refine AWl.put ((by exact R_fieldAddr rfl (by exact .yes rfl rfl rfl rfl) rfl (.tmp rfl (by exact fun _ => rfl)) fl88_1)) rfl ?_
  refine AWl.put ((by exact R_load rfl (by exact .yes rfl rfl rfl rfl) rfl (.tmp rfl (by exact id)) ty3 rfl rfl)) rfl ?_
  refine AWl.put ((by exact R_fieldAddr rfl (by exact .yes rfl rfl rfl rfl) rfl (.tmp rfl (by exact fun _ => rfl)) fl88_1)) rfl ?_
  refine AWl.put ((by exact R_load rfl (by exact .yes rfl rfl rfl rfl) rfl (.tmp rfl (by exact id)) ty3 rfl rfl)) rfl ?_
  refine AWl.put (R_lt rfl (by exact .yes rfl rfl rfl rfl) rfl (.tmp rfl (by exact id)) (.tmp rfl (by exact id))) rfl ?_
  refine AWl.put (R_and rfl (by exact .not1 rfl rfl rfl rfl) rfl (.tmp rfl (by exact id)) (.tmp rfl (by exact id))) rfl ?_
  refine AWl.put (R_or rfl (.no rfl) rfl (.tmp rfl fun _ => rfl) (.tmp rfl (by exact id))) rfl ?_
  refine AWl.put (R_assign rfl (.no rfl) rfl (.tmp rfl fun _ => rfl)) rfl ?_
  refine AWl.nil ?_
  refine AW.ret ?_
  refine Res.v rfl rfl ?_
  (congr 1; unfold lessW; rw [Bool.or_assoc])
theorem implweights (g : TGraph) (a : TAutomaton) (ha : validA a = true) (hg : validG g = true) (l : List Int) (hl : areCosts l = true) (y : Int) (hy : 0 ≤ y ∧ y < g.Values.length) : FnT Try.prog 63 [.agg (cGraph g), .agg (cAutomaton a), .one (.sl 1 (l.map cInt)), .one (.v (.int .i64 y))] (.a (.one (.sl 2 ((weightsOf g a l y).map cW)))) := by
  refine FnT.walk Try.func63 rfl (by kernel_rfl) Try.ntmps63 rfl fun hlen w0 => ?_
  try simp [cPair, cToken, cExpr, cEdge, cGraph, cStep, cWalk, cChange, cBatch, cHistory, cPositions, cAutomaton, cProductStep, cPathAtom, cConjunction, cView, cDelta, cRegistered, cRegistry] at hlen
  have hA := validA_len ha
  have hG := validG_len hg
  have hP := pow_le_12 ha
  have hN : NPx g a ≤ 60 := Nat.mul_le_mul (by omega : a.Accept.length ≤ 12) (by omega : g.Values.length ≤ 5)
  have hcm : (a.Accept.length : Int) * (g.Values.length : Int) = ((NPx g a : Nat) : Int) := by unfold NPx; simp
  have hP0 : P0 g a y ≤ 32460 := P0_le hN
  obtain ⟨vy, hvy⟩ : ∃ v, g.Values[y.toNat]? = some v := ⟨_, List.getElem?_eq_getElem (by omega)⟩
  have hgl : ∀ q ∈ goalsL a y vy, 0 ≤ q ∧ q < (NPx g a : Int) := fun q hq => by (unfold goalsL at hq; obtain ⟨s, hs, rfl⟩ := List.mem_map.1 hq; have hs := List.mem_range.1 (List.mem_filter.1 hs).1; have h1 : (y + 1) * (a.Accept.length : Int) ≤ (g.Values.length : Int) * (a.Accept.length : Int) := Int.mul_le_mul_of_nonneg_right (by omega) (by omega); rw [Int.add_mul, Int.mul_comm (g.Values.length : Int)] at h1; have h2 : 0 ≤ y * (a.Accept.length : Int) := Int.mul_nonneg hy.1 (by omega); omega)
  have hgll : (goalsL a y vy).length ≤ 12 := by (unfold goalsL; rw [List.length_map]; exact Nat.le_trans (List.length_filter_le _ _) (by simp; omega))
  refine AW.seq ?_
  refine AW.region ?_
  refine AWl.put (R_boxz rfl rfl rfl (.tmp rfl fun _ => rfl) (ts := _) (by rfl)) rfl ?_
  refine AWl.put (R_boxz rfl rfl rfl (.tmp rfl fun _ => rfl) (ts := _) (by rfl)) rfl ?_
  refine AWl.put (R_assign rfl (.no rfl) rfl (.const rfl)) rfl ?_
  refine AWl.nilS (i := 8) 20001 2 rfl rfl ?_
  refine AWl.nil ?_
  refine AW.seq ?_
  refine AW.region ?_
  refine AWl.put ((by exact R_fieldAddr rfl (.no rfl) rfl (.tmp rfl fun _ => rfl) fl37_1)) rfl ?_
  refine AWl.put ((by exact R_load rfl (.no rfl) rfl (.tmp rfl fun _ => rfl) ty26 rfl rfl)) rfl ?_
  refine AWl.put ((by exact R_lenm rfl (.no rfl) rfl (.tmp rfl fun _ => rfl) (by exact .t) Try.underlying26)) rfl ?_
  refine AWl.put (R_assign rfl (.no rfl) rfl (.tmp rfl fun _ => rfl)) rfl ?_
  refine AWl.nil ?_
  refine AW.seq ?_
  refine AW.region ?_
  refine AWl.put (R_move rfl (.no rfl) rfl (.tmp rfl fun _ => rfl)) rfl ?_
  refine AWl.put ((by exact R_fieldAddr rfl (.no rfl) rfl (.tmp rfl fun _ => rfl) fl35_0)) rfl ?_
  refine AWl.put ((by exact R_load rfl (.no rfl) rfl (.tmp rfl fun _ => rfl) ty22 rfl rfl)) rfl ?_
  refine AWl.put ((by exact R_lenm rfl (.no rfl) rfl (.tmp rfl fun _ => rfl) (by exact .t) Try.underlying22)) rfl ?_
  refine AWl.put (R_mul rfl (.no rfl) rfl (.tmp rfl fun _ => rfl) (.tmp rfl fun _ => rfl) (fun _ => by omega)) rfl ?_
  refine AWl.add (R_makeSlice 31 rfl rfl rfl (.tmp rfl fun _ => rfl) Try.underlying89 in88 rfl rfl rfl rfl (by omega)) rfl ?_
  refine AWl.put (R_assign rfl (.no rfl) rfl (.tmp rfl fun _ => rfl)) rfl ?_
  refine AWl.nil ?_
  refine AW.seq ?_
  refine AW.seq ?_
  refine AW.le (σ' := ⟨_, [(0, _), (1, _), (2, _), (3, _), (4, _), (5, _), (8, _), (9, _), (10, _)], [(20001, _), (31, _)]⟩) (Le.sub0 rfl ⟨rfl, rfl, rfl, rfl, rfl, rfl, rfl, rfl, rfl, trivial⟩ ⟨rfl, rfl, trivial⟩) ?_
  refine AW.region ?_
  refine AWl.put (R_move rfl (.no rfl) rfl (.tmp rfl fun _ => rfl)) rfl ?_
  refine AWl.put ((by exact R_len rfl (.no rfl) rfl (.tmp rfl fun _ => rfl) (by exact .rf rfl) Try.underlying89)) rfl ?_
  refine AWl.put (R_move rfl (.no rfl) rfl (.const rfl)) rfl ?_
  refine AWl.nil ?_
  refine AW.block ?_
  refine AW.loop1 (fun (i : Nat) => (i ≤ NPx g a) ∧ True) (fun (i : Nat) => ⟨_, [(34, (true, .a (.one (.t (.v (.int .i64 (i : Nat))))))), (10, (true, .a (.one (.rf 31)))), (2, _), (3, _), (4, _), (5, _), (8, _), (9, _), (33, _)], [(31, .row 2 ((List.replicate i ((-1, 0) : Int × Int) ++ List.replicate (NPx g a - i) (0, 0)).map cW))]⟩) (fun (i : Nat) => NPx g a - i) (0) ⟨Nat.zero_le _, trivial⟩ (Le.sub0 rfl ⟨rfl, rfl, rfl, rfl, rfl, rfl, rfl, rfl, rfl, trivial⟩ ⟨(by refine congrArg (fun r => some (R.row 2 r)) ?_; first | (rw [hcm]; simp [cW]; done) | (rw [show i = NPx g a by first | omega | (simp at h35; omega)]; simp [zeroW]; done) | rfl), trivial⟩) ?_
  rintro i ⟨hk, he⟩
  refine AW.seq ?_
  refine AW.region ?_
  refine AWl.put (R_lt rfl (.no rfl) rfl (.tmp rfl fun _ => rfl) (.tmp rfl fun _ => rfl)) rfl ?_
  refine AWl.nil ?_
  refine AW.seq ?_
  refine AW.cond (.tmp rfl fun _ => rfl) (fun h35 => ?_) (fun h35 => ?_)
  · skip
    try simp at h35
    have hiN : i < NPx g a := by first | omega | (simp at h35; omega)
    have hgi : (List.replicate i ((-1, 0) : Int × Int) ++ List.replicate (NPx g a - i) (0, 0))[i]? = some (0, 0) := by (rw [List.getElem?_append_right (by simp), List.length_replicate, Nat.sub_self, List.getElem?_replicate_of_lt (by omega)])
    refine AW.skip ?_
    refine AW.seq ?_
    refine AW.block ?_
    refine AW.seq ?_
    refine AW.region ?_
    refine AWl.put (R_move rfl (.no rfl) rfl (.tmp rfl fun _ => rfl)) rfl ?_
    refine AWl.put (R_assign rfl (.no rfl) rfl (.tmp rfl fun _ => rfl)) rfl ?_
    refine AWl.nil ?_
    refine AW.region ?_
    refine AWl.put (R_move rfl (.no rfl) rfl (.tmp rfl fun _ => rfl)) rfl ?_
    refine AWl.put (R_move rfl (.no rfl) rfl (.tmp rfl fun _ => rfl)) rfl ?_
    refine AWl.put ((by exact R_indexAddr_rf rfl (.no rfl) rfl (.tmp rfl fun _ => rfl) rfl (.tmp rfl fun _ => rfl) Try.underlying89 ty88 (fun _ => ⟨by omega, (by exact map_get hgi)⟩))) rfl ?_
    refine AWl.put ((by exact R_fieldAddr_pr rfl (.no rfl) rfl (.tmp rfl fun _ => rfl) fl88_0)) rfl ?_
    refine AWl.absupd (R_store_pr rfl rfl rfl (.const rfl) rfl (.tmp rfl fun _ => rfl) rfl (map_get hgi) ty3 rfl rfl rfl rfl) ?_
    refine AWl.nil ?_
    refine AW.le (σ' := ⟨_, [(2, _), (3, _), (4, _), (5, _), (8, _), (9, _), (10, _), (11, _), (33, _), (34, _)], [(31, _)]⟩) (Le.sub0 rfl ⟨rfl, rfl, rfl, rfl, rfl, rfl, rfl, rfl, rfl, rfl, trivial⟩ ⟨rfl, trivial⟩) ?_
    refine AW.region ?_
    refine AWl.put (R_add rfl (.no rfl) rfl (.tmp rfl fun _ => rfl) (.const rfl) (fun _ => by omega)) rfl ?_
    refine AWl.put (R_move rfl (.no rfl) rfl (.tmp rfl fun _ => rfl)) rfl ?_
    refine AWl.nil ?_
    repeat (with_reducible refine BlockQ.nor ?_)
    refine Round1.next (i + 1) ⟨by omega, trivial⟩ (by omega) (Le.sub0 rfl ⟨rfl, rfl, rfl, rfl, rfl, rfl, rfl, rfl, rfl, trivial⟩ ⟨(by refine congrArg (fun r => some (R.row 2 r)) ?_; first | rfl | (show (List.map cW _).set i (cW (-1, 0)) = _; rw [← List.map_set, List.set_append_right _ _ (by simp), List.length_replicate, Nat.sub_self, show NPx g a - i = (NPx g a - (i + 1)) + 1 by omega, List.replicate_succ, List.set_cons_zero, List.replicate_succ', List.append_assoc]; rfl) | (rw [zeroW_at hq, List.map_set]; rfl) | (rw [List.map_set]; rfl)), trivial⟩)
  · skip
    try simp at h35
    refine AW.exit ?_
    refine AW.seq ?_
    refine AW.seq ?_
    refine AW.region ?_
    refine AWl.put ((by exact R_load rfl (.no rfl) rfl (.tmp rfl fun _ => rfl) ty35 rfl rfl)) rfl ?_
    refine AWl.put ((by exact R_load rfl (.no rfl) rfl (.tmp rfl fun _ => rfl) ty37 rfl rfl)) rfl ?_
    refine AWl.put (R_move rfl (.no rfl) rfl (.tmp rfl fun _ => rfl)) rfl ?_
    refine AWl.put (R_callz (FnT.fr (implgoals g a ha hg y vy hy.1 hvy)) rfl (.no rfl) rfl (.cons (.tmp rfl fun _ => rfl) rfl (.cons (.tmp rfl fun _ => rfl) rfl (.cons (.tmp rfl fun _ => rfl) rfl .nil)))) rfl ?_
    refine AWl.put ((by exact R_lenm rfl (.no rfl) rfl (.tmp rfl fun _ => rfl) (by exact .t) Try.underlying22)) rfl ?_
    refine AWl.put (R_move rfl (.no rfl) rfl (.const rfl)) rfl ?_
    refine AWl.nil ?_
    refine AW.block ?_
    refine AW.loop1 (fun (j : Nat) => (j ≤ (goalsL a y vy).length) ∧ True) (fun (j : Nat) => ⟨_, [(47, (true, .a (.one (.t (.v (.int .i64 (j : Nat))))))), (10, (true, .a (.one (.rf 31)))), (2, _), (4, _), (5, _), (8, _), (9, _), (45, _), (46, _)], [(31, .row 2 ((zeroW ((goalsL a y vy).take j) (List.replicate (NPx g a) (-1, 0))).map cW))]⟩) (fun (j : Nat) => (goalsL a y vy).length - j) (0) ⟨Nat.zero_le _, trivial⟩ (Le.sub0 rfl ⟨rfl, rfl, rfl, rfl, rfl, rfl, rfl, rfl, rfl, trivial⟩ ⟨(by refine congrArg (fun r => some (R.row 2 r)) ?_; first | (rw [hcm]; simp [cW]; done) | (rw [show i = NPx g a by first | omega | (simp at h35; omega)]; simp [zeroW]; done) | rfl), trivial⟩) ?_
    rintro j ⟨hk, he⟩
    refine AW.seq ?_
    refine AW.region ?_
    refine AWl.put (R_lt rfl (.no rfl) rfl (.tmp rfl fun _ => rfl) (.tmp rfl fun _ => rfl)) rfl ?_
    refine AWl.nil ?_
    refine AW.seq ?_
    refine AW.cond (.tmp rfl fun _ => rfl) (fun h48 => ?_) (fun h48 => ?_)
    · skip
      try simp at h48
      obtain ⟨q, hq⟩ : ∃ ξ, (goalsL a y vy)[j]? = some ξ := ⟨_, List.getElem?_eq_getElem (by omega)⟩
      have hqb := hgl q (List.mem_of_getElem? hq)
      obtain ⟨wq, hwq⟩ : ∃ ξ, (zeroW ((goalsL a y vy).take j) (List.replicate (NPx g a) (-1, 0)))[q.toNat]? = some ξ := ⟨_, List.getElem?_eq_getElem (by rw [zeroW_len]; simp; omega)⟩
      refine AW.skip ?_
      refine AW.seq ?_
      refine AW.block ?_
      refine AW.seq ?_
      refine AW.region ?_
      refine AWl.put ((by exact R_indexAddr rfl (.no rfl) rfl (.tmp rfl fun _ => rfl) (.tmp rfl fun _ => rfl) Try.underlying22 ty3 (fun _ => ⟨by omega, (by exact map_get hq)⟩))) rfl ?_
      refine AWl.put ((by exact R_load rfl (.no rfl) rfl (.tmp rfl fun _ => rfl) ty3 rfl rfl)) rfl ?_
      refine AWl.put (R_assign rfl (.no rfl) rfl (.tmp rfl fun _ => rfl)) rfl ?_
      refine AWl.nil ?_
      refine AW.region ?_
      refine AWl.put (R_move rfl (.no rfl) rfl (.tmp rfl fun _ => rfl)) rfl ?_
      refine AWl.put (R_move rfl (.no rfl) rfl (.tmp rfl fun _ => rfl)) rfl ?_
      refine AWl.put (R_build (ps := []) rfl rfl rfl in88 rfl rfl st88 .nil rfl) rfl ?_
      refine AWl.put ((by exact R_indexAddr_rf rfl (.no rfl) rfl (.tmp rfl fun _ => rfl) rfl (.tmp rfl fun _ => rfl) Try.underlying89 ty88 (fun _ => ⟨by omega, map_get hwq⟩))) rfl ?_
      refine AWl.absupd (R_store_pr rfl rfl rfl (.tmp rfl fun _ => rfl) rfl (.tmp rfl fun _ => rfl) rfl (map_get hwq) ty88 rfl rfl rfl rfl) ?_
      refine AWl.nil ?_
      refine AW.le (σ' := ⟨_, [(2, _), (4, _), (5, _), (8, _), (9, _), (10, _), (13, _), (45, _), (46, _), (47, _)], [(31, _)]⟩) (Le.sub0 rfl ⟨rfl, rfl, rfl, rfl, rfl, rfl, rfl, rfl, rfl, rfl, trivial⟩ ⟨rfl, trivial⟩) ?_
      refine AW.region ?_
      refine AWl.put (R_add rfl (.no rfl) rfl (.tmp rfl fun _ => rfl) (.const rfl) (fun _ => by omega)) rfl ?_
      refine AWl.put (R_move rfl (.no rfl) rfl (.tmp rfl fun _ => rfl)) rfl ?_
      refine AWl.nil ?_
      repeat (with_reducible refine BlockQ.nor ?_)
      refine Round1.next (j + 1) ⟨by omega, trivial⟩ (by omega) (Le.sub0 rfl ⟨rfl, rfl, rfl, rfl, rfl, rfl, rfl, rfl, rfl, trivial⟩ ⟨(by refine congrArg (fun r => some (R.row 2 r)) ?_; first | rfl | (show (List.map cW _).set i (cW (-1, 0)) = _; rw [← List.map_set, List.set_append_right _ _ (by simp), List.length_replicate, Nat.sub_self, show NPx g a - i = (NPx g a - (i + 1)) + 1 by omega, List.replicate_succ, List.set_cons_zero, List.replicate_succ', List.append_assoc]; rfl) | (rw [zeroW_at hq, List.map_set]; rfl) | (rw [List.map_set]; rfl)), trivial⟩)
    · skip
      try simp at h48
      refine AW.exit ?_
      refine AW.seq ?_
      refine AW.le (σ' := ⟨_, [(2, _), (4, _), (5, _), (8, _), (9, _), (10, _), (45, _), (46, _), (47, _)], [(31, .row 2 ((weights0 g a y).map cW))]⟩) (Le.sub0 rfl ⟨rfl, rfl, rfl, rfl, rfl, rfl, rfl, rfl, rfl, trivial⟩ ⟨by refine congrArg (fun r => some (R.row 2 r)) ?_; rw [List.take_of_length_le (by omega), show NPx g a = a.Accept.length * g.Values.length from rfl, zeroW_goals ha hy.1 hvy], trivial⟩) ?_
      refine AW.region ?_
      refine AWl.put ((by exact R_load rfl (.no rfl) rfl (.tmp rfl fun _ => rfl) ty35 rfl rfl)) rfl ?_
      refine AWl.put (R_callz (FnT.fr (implarcs g hg)) rfl (.no rfl) rfl (.cons (.tmp rfl fun _ => rfl) rfl .nil)) rfl ?_
      refine AWl.put (R_assign rfl (.no rfl) rfl (.tmp rfl fun _ => rfl)) rfl ?_
      refine AWl.nil ?_
      refine AW.seq ?_
      refine AW.seq ?_
      refine AW.region ?_
      refine AWl.put (R_assign rfl (.no rfl) rfl (.const rfl)) rfl ?_
      refine AWl.nil ?_
      refine AW.block ?_
      refine AW.loop2 (fun (V : List (Int × Int)) (ag : Bool) => (CW (edgesOf g a l) (goalOf g a y) (NPx g a) (P0 g a y) V ∧ WI (edgesOf g a l) (goalOf g a y) (NPx g a) V ∧ (ag = false → fixI g a l V (NPx g a))) ∧ True) (fun (V : List (Int × Int)) (ag : Bool) => ⟨_, [(15, (true, .a (.one (.t (.v (.bool ag)))))), (10, (true, .a (.one (.rf 31)))), (2, _), (4, _), (5, _), (8, _), (9, _), (14, _)], [(31, .row 2 (V.map cW))]⟩) (fun (V : List (Int × Int)) (ag : Bool) => 2 * msW (NPx g a) (P0 g a y) V + (if ag then 1 else 0)) (weights0 g a y) (true) ⟨⟨weights0_CW, weights0_WI, fun h => by cases h⟩, trivial⟩ (Le.sub0 rfl ⟨rfl, rfl, rfl, rfl, rfl, rfl, rfl, rfl, trivial⟩ ⟨(by refine congrArg (fun r => some (R.row 2 r)) ?_; first | (rw [hcm]; simp [cW]; done) | (rw [show i = NPx g a by first | omega | (simp at h35; omega)]; simp [zeroW]; done) | rfl), trivial⟩) ?_
      rintro V ag ⟨hk1, he1⟩
      refine AW.seq ?_
      refine AW.seq ?_
      refine AW.region ?_
      refine AWl.put (R_move rfl (.no rfl) rfl (.tmp rfl fun _ => rfl)) rfl ?_
      refine AWl.nil ?_
      refine AW.cond (.tmp rfl fun _ => rfl) (fun h58 => ?_) (fun h58 => ?_)
      · skip
        try simp at h58
        refine AW.skip ?_
        refine AW.block ?_
        refine AW.seq ?_
        refine AW.region ?_
        refine AWl.put (R_assign rfl (.no rfl) rfl (.const rfl)) rfl ?_
        refine AWl.nil ?_
        refine AW.seq ?_
        refine AW.region ?_
        refine AWl.put (R_move rfl (.no rfl) rfl (.tmp rfl fun _ => rfl)) rfl ?_
        refine AWl.put ((by exact R_lenm rfl (.no rfl) rfl (.tmp rfl fun _ => rfl) (by exact .rf rfl) Try.underlying89)) rfl ?_
        refine AWl.put (R_move rfl (.no rfl) rfl (.const rfl)) rfl ?_
        refine AWl.nil ?_
        refine AW.block ?_
        refine AW.loop3 (fun (i : Nat) (W : List (Int × Int)) (ag1 : Bool) => (i ≤ NPx g a ∧ RI g a l y V W ag1 ∧ (ag1 = false → fixI g a l V i)) ∧ True) (fun (i : Nat) (W : List (Int × Int)) (ag1 : Bool) => ⟨_, [(61, (true, .a (.one (.t (.v (.int .i64 (i : Nat))))))), (15, (true, .a (.one (.t (.v (.bool ag1)))))), (10, (true, .a (.one (.rf 31)))), (2, _), (4, _), (5, _), (8, _), (9, _), (14, _), (60, _)], [(31, .row 2 (W.map cW))]⟩) (fun (i : Nat) (W : List (Int × Int)) (ag1 : Bool) => NPx g a - i) (0) (V) (false) ⟨⟨Nat.zero_le _, ⟨hk1.1, hk1.2.1, fun h => (by cases h), fun _ => rfl⟩, fun _ p hp => absurd hp (Nat.not_lt_zero p)⟩, trivial⟩ (Le.sub0 rfl ⟨rfl, rfl, rfl, rfl, rfl, rfl, rfl, rfl, rfl, rfl, trivial⟩ ⟨(by refine congrArg (fun r => some (R.row 2 r)) ?_; first | (rw [hcm]; simp [cW]; done) | (rw [show i = NPx g a by first | omega | (simp at h35; omega)]; simp [zeroW]; done) | rfl), trivial⟩) ?_
        rintro i W ag1 ⟨hk2, he2⟩
        refine AW.seq ?_
        refine AW.region ?_
        refine AWl.put (R_lt rfl (.no rfl) rfl (.tmp rfl fun _ => rfl) (.tmp rfl fun _ => rfl)) rfl ?_
        refine AWl.nil ?_
        refine AW.seq ?_
        refine AW.cond (.tmp rfl fun _ => rfl) (fun h62 => ?_) (fun h62 => ?_)
        · skip
          try simp at h62
          have hVl := hk1.1.len
          have hiN : i < NPx g a := by omega
          have hdi := nd_ok (p := i) hA.1 (show i < NPx g a by omega)
          obtain ⟨vi, hvi⟩ : ∃ v, g.Values[((i : Int) / (a.Accept.length : Int)).toNat]? = some v := ⟨_, List.getElem?_eq_getElem (by omega)⟩
          have hvr := validG_val hg hvi
          have hxe : ((((i : Int) / (a.Accept.length : Int)).toNat : Nat) : Int) = (i : Int) / (a.Accept.length : Int) := Int.toNat_of_nonneg hdi.1.1
          have hx1 : (arcsV g)[((i : Int) / (a.Accept.length : Int)).toNat]? = some (arcsAt g ((i : Int) / (a.Accept.length : Int))) := by (unfold arcsV; rw [range_get _ (by omega), hxe])
          have hpw : 2 ^ ((i : Int) % (a.Accept.length : Int)).toNat < 2 ^ a.Accept.length := Nat.pow_lt_pow_right (by omega) (by omega)
          refine AW.skip ?_
          refine AW.seq ?_
          refine AW.block ?_
          refine AW.seq ?_
          refine AW.region ?_
          refine AWl.put (R_move rfl (.no rfl) rfl (.tmp rfl fun _ => rfl)) rfl ?_
          refine AWl.put (R_assign rfl (.no rfl) rfl (.tmp rfl fun _ => rfl)) rfl ?_
          refine AWl.nil ?_
          refine AW.seq ?_
          refine AW.region ?_
          refine AWl.put (R_move rfl (.no rfl) rfl (.tmp rfl fun _ => rfl)) rfl ?_
          refine AWl.put (R_move rfl (.no rfl) rfl (.tmp rfl fun _ => rfl)) rfl ?_
          refine AWl.put (R_move rfl (.no rfl) rfl (.tmp rfl fun _ => rfl)) rfl ?_
          refine AWl.put (R_quo rfl (.no rfl) rfl (.tmp rfl fun _ => rfl) (.tmp rfl fun _ => rfl) (fun _ => by omega)) rfl ?_
          refine AWl.put ((by exact R_indexAddr rfl (.no rfl) rfl (.tmp rfl fun _ => rfl) (.tmp rfl fun _ => rfl) Try.underlying101 ty103 (fun _ => ⟨by omega, (by exact map_get hx1)⟩))) rfl ?_
          refine AWl.put ((by exact R_load rfl (.no rfl) rfl (.tmp rfl fun _ => rfl) ty103 rfl rfl)) rfl ?_
          refine AWl.put ((by exact R_lenm rfl (.no rfl) rfl (.tmp rfl fun _ => rfl) (by exact .t) Try.underlying103)) rfl ?_
          refine AWl.put (R_move rfl (.no rfl) rfl (.const rfl)) rfl ?_
          refine AWl.nil ?_
          refine AW.block ?_
          refine AW.loop3 (fun (j : Nat) (W2 : List (Int × Int)) (ag2 : Bool) => (j ≤ (arcsAt g ((i : Int) / (a.Accept.length : Int))).length ∧ RI g a l y V W2 ag2 ∧ (ag2 = false → fixI g a l V i ∧ fixA g a l V i vi ((arcsAt g ((i : Int) / (a.Accept.length : Int))).take j))) ∧ True) (fun (j : Nat) (W2 : List (Int × Int)) (ag2 : Bool) => ⟨_, [(71, (true, .a (.one (.t (.v (.int .i64 (j : Nat))))))), (15, (true, .a (.one (.t (.v (.bool ag2)))))), (10, (true, .a (.one (.rf 31)))), (2, _), (4, _), (5, _), (8, _), (9, _), (14, _), (16, _), (60, _), (61, _), (69, _), (70, _)], [(31, .row 2 (W2.map cW))]⟩) (fun (j : Nat) (W2 : List (Int × Int)) (ag2 : Bool) => (arcsAt g ((i : Int) / (a.Accept.length : Int))).length - j) (0) (W) (ag1) ⟨⟨Nat.zero_le _, hk2.2.1, fun h => ⟨hk2.2.2 h, fun y hy => (by simp at hy)⟩⟩, trivial⟩ (Le.sub0 rfl ⟨rfl, rfl, rfl, rfl, rfl, rfl, rfl, rfl, rfl, rfl, rfl, rfl, rfl, rfl, trivial⟩ ⟨(by refine congrArg (fun r => some (R.row 2 r)) ?_; first | (rw [hcm]; simp [cW]; done) | (rw [show i = NPx g a by first | omega | (simp at h35; omega)]; simp [zeroW]; done) | rfl), trivial⟩) ?_
          rintro j W2 ag2 ⟨hk3, he3⟩
          refine AW.seq ?_
          refine AW.region ?_
          refine AWl.put (R_lt rfl (.no rfl) rfl (.tmp rfl fun _ => rfl) (.tmp rfl fun _ => rfl)) rfl ?_
          refine AWl.nil ?_
          refine AW.seq ?_
          refine AW.cond (.tmp rfl fun _ => rfl) (fun h72 => ?_) (fun h72 => ?_)
          · skip
            try simp at h72
            have hal : (arcsAt g ((i : Int) / (a.Accept.length : Int))).length ≤ 24 := Nat.le_trans (arcsL_len _ _) (by omega)
            obtain ⟨yy, hyy⟩ : ∃ ξ, (arcsAt g ((i : Int) / (a.Accept.length : Int)))[j]? = some ξ := ⟨_, List.getElem?_eq_getElem (by omega)⟩
            have hyo := arcsAt_ok hg hyy
            have hcl := cost_at hl hyo.1 hyo.2.1
            have haft : FnT Try.prog 74 [.agg (cAutomaton a), .one (.v (.int .i64 ((2 ^ ((i : Int) % (a.Accept.length : Int)).toNat : Nat) : Int))), .one (.v (.int .i64 vi)), .one (.v (.int .i64 yy.letter))] (.a (.one (.v (.int .i64 (aft1 a ((i : Int) % a.Accept.length) vi yy.letter : Nat))))) := by (have := implafter a ha (2 ^ ((i : Int) % (a.Accept.length : Int)).toNat) hpw vi yy.letter hvr (by omega); rwa [aftS_pow a vi yy.letter (by omega), Int.toNat_of_nonneg hdi.2.1] at this)
            have hafl := aft1_lt ha (s := (i : Int) % a.Accept.length) (v := vi) (k := yy.letter) hvr (by omega) (by omega)
            have hyb : yy.to * (a.Accept.length : Int) ≤ 60 ∧ 0 ≤ yy.to * (a.Accept.length : Int) := ⟨Int.le_trans (Int.mul_le_mul (show yy.to ≤ 5 by omega) (show (a.Accept.length : Int) ≤ 12 by omega) (by omega) (by omega)) (by omega), Int.mul_nonneg (by omega) (by omega)⟩
            refine AW.skip ?_
            refine AW.seq ?_
            refine AW.block ?_
            refine AW.seq ?_
            refine AW.region ?_
            refine AWl.put ((by exact R_indexAddr rfl (.no rfl) rfl (.tmp rfl fun _ => rfl) (.tmp rfl fun _ => rfl) Try.underlying103 ty105 (fun _ => ⟨by omega, (by exact map_get hyy)⟩))) rfl ?_
            refine AWl.put ((by exact R_load rfl (.no rfl) rfl (.tmp rfl fun _ => rfl) ty105 rfl rfl)) rfl ?_
            refine AWl.add (R_alloc 18 rfl rfl rfl in105 rfl rfl rfl) rfl ?_
            refine AWl.chgb (R_store_pb rfl rfl rfl (.tmp rfl fun _ => rfl) (.tmp rfl fun _ => rfl) rfl ty105 rfl rfl rfl (by kernel_rfl) rfl) ?_
            refine AWl.nil ?_
            refine AW.seq ?_
            refine AW.drawn 18 (nthB [[], [], [], [1, 2], [1, 2, 3], [], [5], [], [], [7, 8], [5, 6, 7, 8, 9], [5, 6, 7, 8, 9, 10], [], [12], [0, 1, 2, 3, 4, 5, 6, 7, 8, 9, 10, 11, 12, 13], [0, 1, 2, 3, 4, 5, 6, 7, 8, 9, 10, 11, 12, 13, 14], [0, 1, 2, 3, 4, 5, 6, 7, 8, 9, 10, 11, 12, 13, 14, 15], []]) (by kernel_rfl) (by kernel_rfl) (by kernel_rfl) ?_
            refine DrawC.step rfl rfl rfl (Loc.of rfl fun σ' hs => (by exact R_load rfl (.no rfl) (hd_sup hs rfl) (.tmp (hs.slots _ _ rfl) fun _ => rfl) ty37 rfl rfl)) ?_
            refine DrawC.step rfl rfl rfl (Loc.of rfl fun σ' hs => R_move rfl (.no rfl) (hd_sup hs rfl) (.tmp (hs.slots _ _ rfl) fun _ => rfl)) ?_
            refine DrawC.step rfl rfl rfl (Loc.of rfl fun σ' hs => R_move rfl (.no rfl) (hd_sup hs rfl) (.tmp (hs.slots _ _ rfl) fun _ => rfl)) ?_
            refine DrawC.step rfl rfl rfl (Loc.of rfl fun σ' hs => R_rem rfl (.no rfl) (hd_sup hs rfl) (.tmp (hs.slots _ _ rfl) fun _ => rfl) (.tmp (hs.slots _ _ rfl) fun _ => rfl) (fun _ => by omega)) ?_
            refine DrawC.step rfl rfl rfl (Loc.of rfl fun σ' hs => R_shlN rfl (.no rfl) (hd_sup hs rfl) (.const rfl) (.tmp (hs.slots _ _ rfl) fun _ => rfl) (fun _ => by omega)) ?_
            refine DrawC.step rfl rfl rfl (Loc.of rfl fun σ' hs => (by exact R_fieldAddr rfl (.no rfl) (hd_sup hs rfl) (.tmp (hs.slots _ _ rfl) fun _ => rfl) fl35_0)) ?_
            refine DrawC.step rfl rfl rfl (Loc.of rfl fun σ' hs => (by exact R_load rfl (.no rfl) (hd_sup hs rfl) (.tmp (hs.slots _ _ rfl) fun _ => rfl) ty22 rfl rfl)) ?_
            refine DrawC.step rfl rfl rfl (Loc.of rfl fun σ' hs => R_move rfl (.no rfl) (hd_sup hs rfl) (.tmp (hs.slots _ _ rfl) fun _ => rfl)) ?_
            refine DrawC.step rfl rfl rfl (Loc.of rfl fun σ' hs => R_move rfl (.no rfl) (hd_sup hs rfl) (.tmp (hs.slots _ _ rfl) fun _ => rfl)) ?_
            refine DrawC.step rfl rfl rfl (Loc.of rfl fun σ' hs => R_quo rfl (.no rfl) (hd_sup hs rfl) (.tmp (hs.slots _ _ rfl) fun _ => rfl) (.tmp (hs.slots _ _ rfl) fun _ => rfl) (fun _ => by omega)) ?_
            refine DrawC.step rfl rfl rfl (Loc.of rfl fun σ' hs => (by exact R_indexAddr rfl (.no rfl) (hd_sup hs rfl) (.tmp (hs.slots _ _ rfl) fun _ => rfl) (.tmp (hs.slots _ _ rfl) fun _ => rfl) Try.underlying22 ty3 (fun _ => ⟨by omega, (by exact map_get hvi)⟩))) ?_
            refine DrawC.step rfl rfl rfl (Loc.of rfl fun σ' hs => (by exact R_load rfl (.no rfl) (hd_sup hs rfl) (.tmp (hs.slots _ _ rfl) fun _ => rfl) ty3 rfl rfl)) ?_
            refine DrawC.step rfl rfl rfl (Loc.of rfl fun σ' hs => (by exact R_fieldAddr_pp rfl (.no rfl) (hd_sup hs rfl) (.tmp (hs.slots _ _ rfl) fun _ => rfl) fl105_1)) ?_
            refine DrawC.step rfl rfl rfl (Loc.of rfl fun σ' hs => (by exact R_load_pp rfl (.no rfl) (hd_sup hs rfl) (.tmp (hs.slots _ _ rfl) fun _ => rfl) (hs.res _ _ rfl) ty3 rfl rfl)) ?_
            refine DrawC.step rfl rfl rfl (Loc.of rfl fun σ' hs => R_callz (FnT.fr (haft)) rfl (.no rfl) (hd_sup hs rfl) (.cons (.tmp (hs.slots _ _ rfl) fun _ => rfl) (readA_sup hs rfl) (.cons (.tmp (hs.slots _ _ rfl) fun _ => rfl) (readA_sup hs rfl) (.cons (.tmp (hs.slots _ _ rfl) fun _ => rfl) (readA_sup hs rfl) (.cons (.tmp (hs.slots _ _ rfl) fun _ => rfl) (readA_sup hs rfl) .nil))))) ?_
            refine DrawC.step rfl rfl rfl (Loc.of rfl fun σ' hs => R_callz (FnT.fr (implmembers (aft1 a ((i : Int) % a.Accept.length) vi yy.letter) (by omega))) rfl (.no rfl) (hd_sup hs rfl) (.cons (.tmp (hs.slots _ _ rfl) fun _ => rfl) (readA_sup hs rfl) .nil)) ?_
            refine DrawC.step rfl rfl rfl (Loc.of rfl fun σ' hs => (by exact R_lenm rfl (.no rfl) (hd_sup hs rfl) (.tmp (hs.slots _ _ rfl) fun _ => rfl) (by exact .t) Try.underlying22)) ?_
            refine DrawC.step rfl rfl rfl (Loc.of rfl fun σ' hs => R_move rfl (.no rfl) (hd_sup hs rfl) (.const rfl)) ?_
            refine DrawC.fin rfl rfl ?_
            refine AWl.nil ?_
            refine AW.block ?_
            refine AW.loop3 (fun (u : Nat) (W3 : List (Int × Int)) (ag3 : Bool) => (u ≤ (bitsI (aft1 a ((i : Int) % a.Accept.length) vi yy.letter)).length ∧ RI g a l y V W3 ag3 ∧ (ag3 = false → fixI g a l V i ∧ fixA g a l V i vi ((arcsAt g ((i : Int) / (a.Accept.length : Int))).take j) ∧ fixT a.Accept.length V i yy (l[yy.letter.toNat]?.getD 0) ((bitsI (aft1 a ((i : Int) % a.Accept.length) vi yy.letter)).take u))) ∧ True) (fun (u : Nat) (W3 : List (Int × Int)) (ag3 : Bool) => ⟨_, [(92, (true, .a (.one (.t (.v (.int .i64 (u : Nat))))))), (15, (true, .a (.one (.t (.v (.bool ag3)))))), (10, (true, .a (.one (.rf 31)))), (2, _), (4, _), (5, _), (8, _), (9, _), (14, _), (16, _), (18, _), (60, _), (61, _), (69, _), (70, _), (71, _), (90, _), (91, _)], [(31, .row 2 (W3.map cW)), (18, .box [.t (.v (.int .i64 yy.step.Edge)), .t (.v (.bool yy.step.Inverse)), .t (.v (.int .i64 yy.letter)), .t (.v (.int .i64 yy.to))])]⟩) (fun (u : Nat) (W3 : List (Int × Int)) (ag3 : Bool) => (bitsI (aft1 a ((i : Int) % a.Accept.length) vi yy.letter)).length - u) (0) (W2) (ag2) ⟨⟨Nat.zero_le _, hk3.2.1, fun h => ⟨(hk3.2.2 h).1, (hk3.2.2 h).2, fun t ht => (by simp at ht)⟩⟩, trivial⟩ (Le.sub0 rfl ⟨rfl, rfl, rfl, rfl, rfl, rfl, rfl, rfl, rfl, rfl, rfl, rfl, rfl, rfl, rfl, rfl, rfl, rfl, trivial⟩ ⟨(by refine congrArg (fun r => some (R.row 2 r)) ?_; first | (rw [hcm]; simp [cW]; done) | (rw [show i = NPx g a by first | omega | (simp at h35; omega)]; simp [zeroW]; done) | rfl), rfl, trivial⟩) ?_
            rintro u W3 ag3 ⟨hk4, he4⟩
            refine AW.seq ?_
            refine AW.region ?_
            refine AWl.put (R_lt rfl (.no rfl) rfl (.tmp rfl fun _ => rfl) (.tmp rfl fun _ => rfl)) rfl ?_
            refine AWl.nil ?_
            refine AW.seq ?_
            refine AW.cond (.tmp rfl fun _ => rfl) (fun h93 => ?_) (fun h93 => ?_)
            · skip
              try simp at h93
              have hbl := bitsI_le (aft1 a ((i : Int) % a.Accept.length) vi yy.letter)
              obtain ⟨z, hz⟩ : ∃ ξ, (bitsI (aft1 a ((i : Int) % a.Accept.length) vi yy.letter))[u]? = some ξ := ⟨_, List.getElem?_eq_getElem (by omega)⟩
              obtain ⟨t, rfl, ht⟩ := bitsI_at hz
              have htn := bits_lt hafl (List.mem_of_getElem? ht)
              have hed : (yy.to * (a.Accept.length : Int) + (t : Int), l[yy.letter.toNat]?.getD 0) ∈ edgesOf g a l i := (edges_arcs hg hl hvi _).2 ⟨yy, List.mem_of_getElem? hyy, (t : Int), List.mem_of_getElem? hz, rfl⟩
              have hzr : 0 ≤ yy.to * (a.Accept.length : Int) + (t : Int) ∧ yy.to * (a.Accept.length : Int) + (t : Int) < ((NPx g a : Nat) : Int) := edges_ok ha hg l (i := i) hiN _ hed
              have hW3 := hk4.2.1.wi.len
              have hgz := atW_get (W := W3) (k := yy.to * (a.Accept.length : Int) + (t : Int)) (by omega)
              have hgi := atW_get (W := W3) (k := (i : Int)) (by omega)
              have hzA := hk4.2.1.cw.ci.hi _ (List.mem_map.2 ⟨_, List.mem_of_getElem? hgz, rfl⟩)
              have hzL := hk4.2.1.cw.ci.lo _ (List.mem_map.2 ⟨_, List.mem_of_getElem? hgz, rfl⟩)
              have hzS := hk4.2.1.cw.st _ (List.mem_of_getElem? hgz)
              refine AW.skip ?_
              refine AW.seq ?_
              refine AW.block ?_
              refine AW.seq ?_
              refine AW.region ?_
              refine AWl.put ((by exact R_indexAddr rfl (.no rfl) rfl (.tmp rfl fun _ => rfl) (.tmp rfl fun _ => rfl) Try.underlying22 ty3 (fun _ => ⟨by omega, (by exact map_get hz)⟩))) rfl ?_
              refine AWl.put ((by exact R_load rfl (.no rfl) rfl (.tmp rfl fun _ => rfl) ty3 rfl rfl)) rfl ?_
              refine AWl.put (R_assign rfl (.no rfl) rfl (.tmp rfl fun _ => rfl)) rfl ?_
              refine AWl.nil ?_
              refine AW.seq ?_
              refine AW.region ?_
              refine AWl.put (R_move rfl (.no rfl) rfl (.tmp rfl fun _ => rfl)) rfl ?_
              refine AWl.put ((by exact R_fieldAddr_pp rfl (.no rfl) rfl (.tmp rfl fun _ => rfl) fl105_2)) rfl ?_
              refine AWl.put ((by exact R_load_pp rfl (.no rfl) rfl (.tmp rfl fun _ => rfl) rfl ty3 rfl rfl)) rfl ?_
              refine AWl.put (R_move rfl (.no rfl) rfl (.tmp rfl fun _ => rfl)) rfl ?_
              refine AWl.put (R_mul rfl (.no rfl) rfl (.tmp rfl fun _ => rfl) (.tmp rfl fun _ => rfl) (fun _ => by omega)) rfl ?_
              refine AWl.put (R_move rfl (.no rfl) rfl (.tmp rfl fun _ => rfl)) rfl ?_
              refine AWl.put (R_add rfl (.no rfl) rfl (.tmp rfl fun _ => rfl) (.tmp rfl fun _ => rfl) (fun _ => by omega)) rfl ?_
              refine AWl.put ((by exact R_indexAddr_rf rfl (.no rfl) rfl (.tmp rfl fun _ => rfl) rfl (.tmp rfl fun _ => rfl) Try.underlying89 ty88 (fun _ => ⟨by omega, (by exact map_get hgz)⟩))) rfl ?_
              refine AWl.put ((by exact R_load_pr rfl (.no rfl) rfl (.tmp rfl fun _ => rfl) rfl (by exact map_get hgz) ty88 rfl rfl)) rfl ?_
              refine AWl.add (R_alloc 21 rfl rfl rfl in88 rfl rfl rfl) rfl ?_
              refine AWl.chgb (R_store_pb rfl rfl rfl (.tmp rfl fun _ => rfl) (.tmp rfl fun _ => rfl) rfl ty88 rfl rfl rfl (by kernel_rfl) rfl) ?_
              refine AWl.nil ?_
              refine AW.seq ?_
              refine AW.seq ?_
              refine AW.le (σ' := ⟨_, [(2, _), (4, _), (5, _), (8, _), (9, _), (10, _), (14, _), (15, _), (16, _), (18, _), (20, _), (21, _), (60, _), (61, _), (69, _), (70, _), (71, _), (90, _), (91, _), (92, _)], [(31, _), (18, _), (21, _)]⟩) (Le.sub0 rfl ⟨rfl, rfl, rfl, rfl, rfl, rfl, rfl, rfl, rfl, rfl, rfl, rfl, rfl, rfl, rfl, rfl, rfl, rfl, rfl, rfl, trivial⟩ ⟨rfl, rfl, rfl, trivial⟩) ?_
              refine AW.region ?_
              refine AWl.put ((by exact R_fieldAddr_pp rfl (.no rfl) rfl (.tmp rfl fun _ => rfl) fl88_0)) rfl ?_
              refine AWl.put ((by exact R_load_pp rfl (.no rfl) rfl (.tmp rfl fun _ => rfl) rfl ty3 rfl rfl)) rfl ?_
              refine AWl.put (R_lt rfl (.no rfl) rfl (.tmp rfl fun _ => rfl) (.const rfl)) rfl ?_
              refine AWl.nil ?_
              refine AW.cond (.tmp rfl fun _ => rfl) (fun h107 => ?_) (fun h107 => ?_)
              · skip
                try simp at h107
                refine AW.exit ?_
                refine AW.region ?_
                refine AWl.put (R_add rfl (.no rfl) rfl (.tmp rfl fun _ => rfl) (.const rfl) (fun _ => by omega)) rfl ?_
                refine AWl.put (R_move rfl (.no rfl) rfl (.tmp rfl fun _ => rfl)) rfl ?_
                refine AWl.nil ?_
                repeat (with_reducible refine BlockQ.nor ?_)
                refine Round3.next (u + 1) (W3) (ag3) ⟨⟨by omega, hk4.2.1, fun h => ⟨(hk4.2.2 h).1, (hk4.2.2 h).2.1, fixT_at (hk4.2.2 h).2.2 hz (by rw [← hk4.2.1.eq h]; exact .inl (by simpa using h107))⟩⟩, trivial⟩ (by omega) (Le.sub0 rfl ⟨rfl, rfl, rfl, rfl, rfl, rfl, rfl, rfl, rfl, rfl, rfl, rfl, rfl, rfl, rfl, rfl, rfl, rfl, trivial⟩ ⟨(by refine congrArg (fun r => some (R.row 2 r)) ?_; first | rfl | (show (List.map cW _).set i (cW (-1, 0)) = _; rw [← List.map_set, List.set_append_right _ _ (by simp), List.length_replicate, Nat.sub_self, show NPx g a - i = (NPx g a - (i + 1)) + 1 by omega, List.replicate_succ, List.set_cons_zero, List.replicate_succ', List.append_assoc]; rfl) | (rw [zeroW_at hq, List.map_set]; rfl) | (rw [List.map_set]; rfl)), (by rfl), trivial⟩)
              · skip
                try simp at h107
                refine AW.skip ?_
                refine AW.seq ?_
                refine AW.drawn 13 (nthB [[], [0], [], [], [3], [2, 3, 4], [2, 3, 4, 5], [0, 1, 2, 3, 4, 5, 6], [], [8], [8, 9], [0, 1, 2, 3, 4, 5, 6, 7, 8, 9, 10], []]) (by kernel_rfl) (by kernel_rfl) (by kernel_rfl) ?_
                refine DrawC.step rfl rfl rfl (Loc.of rfl fun σ' hs => (by exact R_fieldAddr_pp rfl (.no rfl) (hd_sup hs rfl) (.tmp (hs.slots _ _ rfl) fun _ => rfl) fl88_0)) ?_
                refine DrawC.step rfl rfl rfl (Loc.of rfl fun σ' hs => (by exact R_load_pp rfl (.no rfl) (hd_sup hs rfl) (.tmp (hs.slots _ _ rfl) fun _ => rfl) (hs.res _ _ rfl) ty3 rfl rfl)) ?_
                refine DrawC.step rfl rfl rfl (Loc.of rfl fun σ' hs => R_move rfl (.no rfl) (hd_sup hs rfl) (.tmp (hs.slots _ _ rfl) fun _ => rfl)) ?_
                refine DrawC.step rfl rfl rfl (Loc.of rfl fun σ' hs => (by exact R_fieldAddr_pp rfl (.no rfl) (hd_sup hs rfl) (.tmp (hs.slots _ _ rfl) fun _ => rfl) fl105_1)) ?_
                refine DrawC.step rfl rfl rfl (Loc.of rfl fun σ' hs => (by exact R_load_pp rfl (.no rfl) (hd_sup hs rfl) (.tmp (hs.slots _ _ rfl) fun _ => rfl) (hs.res _ _ rfl) ty3 rfl rfl)) ?_
                refine DrawC.step rfl rfl rfl (Loc.of rfl fun σ' hs => (by exact R_indexAddr rfl (.no rfl) (hd_sup hs rfl) (.tmp (hs.slots _ _ rfl) fun _ => rfl) (.tmp (hs.slots _ _ rfl) fun _ => rfl) Try.underlying22 ty3 (fun _ => ⟨by omega, (by exact map_get hcl.1)⟩))) ?_
                refine DrawC.step rfl rfl rfl (Loc.of rfl fun σ' hs => (by exact R_load rfl (.no rfl) (hd_sup hs rfl) (.tmp (hs.slots _ _ rfl) fun _ => rfl) ty3 rfl rfl)) ?_
                refine DrawC.step rfl rfl rfl (Loc.of rfl fun σ' hs => R_add rfl (.no rfl) (hd_sup hs rfl) (.tmp (hs.slots _ _ rfl) fun _ => rfl) (.tmp (hs.slots _ _ rfl) fun _ => rfl) (fun _ => by omega)) ?_
                refine DrawC.step rfl rfl rfl (Loc.of rfl fun σ' hs => (by exact R_fieldAddr_pp rfl (.no rfl) (hd_sup hs rfl) (.tmp (hs.slots _ _ rfl) fun _ => rfl) fl88_1)) ?_
                refine DrawC.step rfl rfl rfl (Loc.of rfl fun σ' hs => (by exact R_load_pp rfl (.no rfl) (hd_sup hs rfl) (.tmp (hs.slots _ _ rfl) fun _ => rfl) (hs.res _ _ rfl) ty3 rfl rfl)) ?_
                refine DrawC.step rfl rfl rfl (Loc.of rfl fun σ' hs => R_add rfl (.no rfl) (hd_sup hs rfl) (.tmp (hs.slots _ _ rfl) fun _ => rfl) (.const rfl) (fun _ => by omega)) ?_
                refine DrawC.step rfl rfl rfl (Loc.of rfl fun σ' hs => R_build (ps := [(0, .tmp 115), (1, .tmp 118)]) rfl rfl (hd_sup hs rfl) in88 rfl rfl st88 (.cons (.tmp (hs.slots _ _ rfl) fun _ => rfl) rfl rfl fp88_0 (.cons (.tmp (hs.slots _ _ rfl) fun _ => rfl) rfl rfl fp88_1 .nil)) rfl) ?_
                refine DrawC.step rfl rfl rfl (Loc.of1 rfl fun σ' hs hf => R_alloc 22 rfl rfl (hd_sup hs rfl) in88 rfl rfl hf) ?_
                refine DrawC.fin rfl rfl ?_
                refine AWl.chgb (R_store_pb rfl rfl rfl (.tmp rfl fun _ => rfl) (.tmp rfl fun _ => rfl) rfl ty88 rfl rfl rfl (by kernel_rfl) rfl) ?_
                refine AWl.nil ?_
                refine AW.seq ?_
                refine AW.le (σ' := ⟨_, [(2, _), (4, _), (5, _), (8, _), (9, _), (10, _), (14, _), (15, _), (16, _), (18, _), (20, _), (21, _), (22, _), (60, _), (61, _), (69, _), (70, _), (71, _), (90, _), (91, _), (92, _)], [(31, _), (18, _), (21, _), (22, _)]⟩) (Le.sub0 rfl ⟨rfl, rfl, rfl, rfl, rfl, rfl, rfl, rfl, rfl, rfl, rfl, rfl, rfl, rfl, rfl, rfl, rfl, rfl, rfl, rfl, rfl, trivial⟩ ⟨rfl, rfl, rfl, rfl, trivial⟩) ?_
                refine AW.drawn 6 (nthB [[], [], [], [1, 2], [1, 2, 3], [0, 1, 2, 3, 4]]) (by kernel_rfl) (by kernel_rfl) (by kernel_rfl) ?_
                refine DrawC.step rfl rfl rfl (Loc.of rfl fun σ' hs => (by exact R_load_pp rfl (.no rfl) (hd_sup hs rfl) (.tmp (hs.slots _ _ rfl) fun _ => rfl) (hs.res _ _ rfl) ty88 rfl rfl)) ?_
                refine DrawC.step rfl rfl rfl (Loc.of rfl fun σ' hs => R_move rfl (.no rfl) (hd_sup hs rfl) (.tmp (hs.slots _ _ rfl) fun _ => rfl)) ?_
                refine DrawC.step rfl rfl rfl (Loc.of rfl fun σ' hs => R_move rfl (.no rfl) (hd_sup hs rfl) (.tmp (hs.slots _ _ rfl) fun _ => rfl)) ?_
                refine DrawC.step rfl rfl rfl (Loc.of rfl fun σ' hs => (by exact R_indexAddr_rf rfl (.no rfl) (hd_sup hs rfl) (.tmp (hs.slots _ _ rfl) fun _ => rfl) (hs.res _ _ rfl) (.tmp (hs.slots _ _ rfl) fun _ => rfl) Try.underlying89 ty88 (fun _ => ⟨by omega, (by exact map_get hgi)⟩))) ?_
                refine DrawC.step rfl rfl rfl (Loc.of rfl fun σ' hs => (by exact R_load_pr rfl (.no rfl) (hd_sup hs rfl) (.tmp (hs.slots _ _ rfl) fun _ => rfl) (hs.res _ _ rfl) (by exact map_get hgi) ty88 rfl rfl)) ?_
                refine DrawC.step rfl rfl rfl (Loc.of rfl fun σ' hs => R_callz (FnT.fr (implless ((atW W3 (yy.to * (a.Accept.length : Int) + (t : Int))).1 + l[yy.letter.toNat]?.getD 0, (atW W3 (yy.to * (a.Accept.length : Int) + (t : Int))).2 + 1) (atW W3 (i : Int)))) rfl (.no rfl) (hd_sup hs rfl) (.cons (.tmp (hs.slots _ _ rfl) fun _ => rfl) (readA_sup hs rfl) (.cons (.tmp (hs.slots _ _ rfl) fun _ => rfl) (readA_sup hs rfl) .nil))) ?_
                refine DrawC.fin rfl rfl ?_
                refine AWl.nil ?_
                refine AW.cond (.tmp rfl fun _ => rfl) (fun h125 => ?_) (fun h125 => ?_)
                · skip
                  skip
                  refine AW.seq ?_
                  refine AW.le (σ' := ⟨_, [(2, _), (4, _), (5, _), (8, _), (9, _), (10, _), (14, _), (15, _), (16, _), (18, _), (20, _), (21, _), (22, _), (60, _), (61, _), (69, _), (70, _), (71, _), (90, _), (91, _), (92, _)], [(31, _), (18, _), (21, _), (22, _)]⟩) (Le.sub0 rfl ⟨rfl, rfl, rfl, rfl, rfl, rfl, rfl, rfl, rfl, rfl, rfl, rfl, rfl, rfl, rfl, rfl, rfl, rfl, rfl, rfl, rfl, trivial⟩ ⟨rfl, rfl, rfl, rfl, trivial⟩) ?_
                  refine AW.region ?_
                  refine AWl.put (R_move rfl (.no rfl) rfl (.tmp rfl fun _ => rfl)) rfl ?_
                  refine AWl.put (R_move rfl (.no rfl) rfl (.tmp rfl fun _ => rfl)) rfl ?_
                  refine AWl.put ((by exact R_load_pp rfl (.no rfl) rfl (.tmp rfl fun _ => rfl) rfl ty88 rfl rfl)) rfl ?_
                  refine AWl.put ((by exact R_indexAddr_rf rfl (.no rfl) rfl (.tmp rfl fun _ => rfl) rfl (.tmp rfl fun _ => rfl) Try.underlying89 ty88 (fun _ => ⟨by omega, (by exact map_get hgi)⟩))) rfl ?_
                  refine AWl.absupd (R_store_pr rfl rfl rfl (.tmp rfl fun _ => rfl) rfl (.tmp rfl fun _ => rfl) rfl (map_get hgi) ty88 rfl rfl rfl rfl) ?_
                  refine AWl.nil ?_
                  refine AW.region ?_
                  refine AWl.put (R_assign rfl (.no rfl) rfl (.const rfl)) rfl ?_
                  refine AWl.nil ?_
                  refine AW.region ?_
                  refine AWl.put (R_add rfl (.no rfl) rfl (.tmp rfl fun _ => rfl) (.const rfl) (fun _ => by omega)) rfl ?_
                  refine AWl.put (R_move rfl (.no rfl) rfl (.tmp rfl fun _ => rfl)) rfl ?_
                  refine AWl.nil ?_
                  repeat (with_reducible refine BlockQ.nor ?_)
                  refine Round3.next (u + 1) (W3.set i ((atW W3 (yy.to * (a.Accept.length : Int) + (t : Int))).1 + l[yy.letter.toNat]?.getD 0, (atW W3 (yy.to * (a.Accept.length : Int) + (t : Int))).2 + 1)) (true) ⟨⟨by omega, hk4.2.1.step hiN hed hzr hcl.2 (by simpa using h107) h125, fun h => (by cases h)⟩, trivial⟩ (by omega) (Le.sub0 rfl ⟨rfl, rfl, rfl, rfl, rfl, rfl, rfl, rfl, rfl, rfl, rfl, rfl, rfl, rfl, rfl, rfl, rfl, rfl, trivial⟩ ⟨(by refine congrArg (fun r => some (R.row 2 r)) ?_; first | rfl | (show (List.map cW _).set i (cW (-1, 0)) = _; rw [← List.map_set, List.set_append_right _ _ (by simp), List.length_replicate, Nat.sub_self, show NPx g a - i = (NPx g a - (i + 1)) + 1 by omega, List.replicate_succ, List.set_cons_zero, List.replicate_succ', List.append_assoc]; rfl) | (rw [zeroW_at hq, List.map_set]; rfl) | (rw [List.map_set]; rfl)), (by rfl), trivial⟩)
                · skip
                  skip
                  refine AW.skip ?_
                  refine AW.le (σ' := ⟨_, [(2, _), (4, _), (5, _), (8, _), (9, _), (10, _), (14, _), (15, _), (16, _), (18, _), (20, _), (21, _), (22, _), (60, _), (61, _), (69, _), (70, _), (71, _), (90, _), (91, _), (92, _)], [(31, _), (18, _), (21, _), (22, _)]⟩) (Le.sub0 rfl ⟨rfl, rfl, rfl, rfl, rfl, rfl, rfl, rfl, rfl, rfl, rfl, rfl, rfl, rfl, rfl, rfl, rfl, rfl, rfl, rfl, rfl, trivial⟩ ⟨rfl, rfl, rfl, rfl, trivial⟩) ?_
                  refine AW.region ?_
                  refine AWl.put (R_add rfl (.no rfl) rfl (.tmp rfl fun _ => rfl) (.const rfl) (fun _ => by omega)) rfl ?_
                  refine AWl.put (R_move rfl (.no rfl) rfl (.tmp rfl fun _ => rfl)) rfl ?_
                  refine AWl.nil ?_
                  repeat (with_reducible refine BlockQ.nor ?_)
                  refine Round3.next (u + 1) (W3) (ag3) ⟨⟨by omega, hk4.2.1, fun h => ⟨(hk4.2.2 h).1, (hk4.2.2 h).2.1, fixT_at (hk4.2.2 h).2.2 hz (by rw [← hk4.2.1.eq h]; exact .inr h125)⟩⟩, trivial⟩ (by omega) (Le.sub0 rfl ⟨rfl, rfl, rfl, rfl, rfl, rfl, rfl, rfl, rfl, rfl, rfl, rfl, rfl, rfl, rfl, rfl, rfl, rfl, trivial⟩ ⟨(by refine congrArg (fun r => some (R.row 2 r)) ?_; first | rfl | (show (List.map cW _).set i (cW (-1, 0)) = _; rw [← List.map_set, List.set_append_right _ _ (by simp), List.length_replicate, Nat.sub_self, show NPx g a - i = (NPx g a - (i + 1)) + 1 by omega, List.replicate_succ, List.set_cons_zero, List.replicate_succ', List.append_assoc]; rfl) | (rw [zeroW_at hq, List.map_set]; rfl) | (rw [List.map_set]; rfl)), (by rfl), trivial⟩)
            · skip
              try simp at h93
              refine AW.exit ?_
              refine AW.region ?_
              refine AWl.put (R_add rfl (.no rfl) rfl (.tmp rfl fun _ => rfl) (.const rfl) (fun _ => by omega)) rfl ?_
              refine AWl.put (R_move rfl (.no rfl) rfl (.tmp rfl fun _ => rfl)) rfl ?_
              refine AWl.nil ?_
              repeat (with_reducible refine BlockQ.nor ?_)
              refine Round3.next (j + 1) (W3) (ag3) ⟨⟨by omega, hk4.2.1, fun h => ⟨(hk4.2.2 h).1, fixA_at (hk4.2.2 h).2.1 hyy (by have h9 := (hk4.2.2 h).2.2; rwa [List.take_of_length_le (by omega)] at h9)⟩⟩, trivial⟩ (by omega) (Le.sub0 rfl ⟨rfl, rfl, rfl, rfl, rfl, rfl, rfl, rfl, rfl, rfl, rfl, rfl, rfl, rfl, trivial⟩ ⟨(by refine congrArg (fun r => some (R.row 2 r)) ?_; first | rfl | (show (List.map cW _).set i (cW (-1, 0)) = _; rw [← List.map_set, List.set_append_right _ _ (by simp), List.length_replicate, Nat.sub_self, show NPx g a - i = (NPx g a - (i + 1)) + 1 by omega, List.replicate_succ, List.set_cons_zero, List.replicate_succ', List.append_assoc]; rfl) | (rw [zeroW_at hq, List.map_set]; rfl) | (rw [List.map_set]; rfl)), trivial⟩)
          · skip
            try simp at h72
            refine AW.exit ?_
            refine AW.region ?_
            refine AWl.put (R_add rfl (.no rfl) rfl (.tmp rfl fun _ => rfl) (.const rfl) (fun _ => by omega)) rfl ?_
            refine AWl.put (R_move rfl (.no rfl) rfl (.tmp rfl fun _ => rfl)) rfl ?_
            refine AWl.nil ?_
            repeat (with_reducible refine BlockQ.nor ?_)
            refine Round3.next (i + 1) (W2) (ag2) ⟨⟨by omega, hk3.2.1, fun h => fixI_at (hk3.2.2 h).1 (fixA_all hg hl hvi (by have h9 := (hk3.2.2 h).2; rwa [List.take_of_length_le (by omega)] at h9))⟩, trivial⟩ (by omega) (Le.sub0 rfl ⟨rfl, rfl, rfl, rfl, rfl, rfl, rfl, rfl, rfl, rfl, trivial⟩ ⟨(by refine congrArg (fun r => some (R.row 2 r)) ?_; first | rfl | (show (List.map cW _).set i (cW (-1, 0)) = _; rw [← List.map_set, List.set_append_right _ _ (by simp), List.length_replicate, Nat.sub_self, show NPx g a - i = (NPx g a - (i + 1)) + 1 by omega, List.replicate_succ, List.set_cons_zero, List.replicate_succ', List.append_assoc]; rfl) | (rw [zeroW_at hq, List.map_set]; rfl) | (rw [List.map_set]; rfl)), trivial⟩)
        · skip
          try simp at h62
          refine AW.exit ?_
          repeat (with_reducible refine BlockQ.nor ?_)
          repeat (with_reducible first | refine BlockQ.nor ?_ | refine ThenQ.ex ?_ | refine BlockQ.here ?_ | refine BlockQ.past rfl ?_ | refine Round1.ex ?_ | refine Round2.ex ?_ | refine Round3.ex ?_ | refine Round4.ex ?_ | refine Round5.ex ?_)
          refine Round2.next (W) (ag1) ⟨⟨hk2.2.1.cw, hk2.2.1.wi, fun h => (by rw [hk2.2.1.eq h]; exact fun p hp => hk2.2.2 h p (by have := hk1.1.len; omega))⟩, trivial⟩ (by have h6 := hk2.2.1.lt; have h5 := hk2.2.1.eq; rw [h58]; cases ag1; (rw [h5 rfl]; simp); (have h7 := h6 rfl; simp; omega)) (Le.sub0 rfl ⟨rfl, rfl, rfl, rfl, rfl, rfl, rfl, rfl, trivial⟩ ⟨(by refine congrArg (fun r => some (R.row 2 r)) ?_; first | rfl | (show (List.map cW _).set i (cW (-1, 0)) = _; rw [← List.map_set, List.set_append_right _ _ (by simp), List.length_replicate, Nat.sub_self, show NPx g a - i = (NPx g a - (i + 1)) + 1 by omega, List.replicate_succ, List.set_cons_zero, List.replicate_succ', List.append_assoc]; rfl) | (rw [zeroW_at hq, List.map_set]; rfl) | (rw [List.map_set]; rfl)), trivial⟩)
      · skip
        try simp at h58
        refine AW.exit ?_
        refine AW.seq ?_
        refine AW.region ?_
        refine AWl.put (R_move rfl (.no rfl) rfl (.tmp rfl fun _ => rfl)) rfl ?_
        refine AWl.put (R_assign rfl (.no rfl) rfl (.tmp rfl fun _ => rfl)) rfl ?_
        refine AWl.nil ?_
        refine AW.ret ?_
        refine Res.one rfl (.tmp rfl .nil) rfl ?_
        (rw [(weights_costs ha hg hk1.1 hk1.2.1 (hk1.2.2 (by simpa using h58))).1]; rfl)
end Go.Proofs.Ytjmbiiciogakoaa
