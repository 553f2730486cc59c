/- Rows projected: spec's text. -/
import Derived.Test.YtoealglkenhphaaB107xa
set_option linter.unusedVariables false
set_option linter.unusedSimpArgs false
set_option maxHeartbeats 1000000
set_option maxRecDepth 100000
namespace Go.Q
open Go.RowKit Go.D
/-- Where row n goes among the rows below n; none where it is there already. -/
def putAt (n k : Nat) (found : Bool) : List Nat := if found then List.range n else (List.range n).take k ++ [n] ++ (List.range n).drop k
theorem putAt_nodup (n k : Nat) (f : Bool) : (putAt n k f).Nodup ∧ ∀ i ∈ putAt n k f, i < n + 1 := by
  unfold putAt
  split
  · exact ⟨List.nodup_range, fun i hi => by have := List.mem_range.1 hi; omega⟩
  · have hp : ((List.range n).take k ++ [n] ++ (List.range n).drop k).Perm (n :: List.range n) := by
      rw [List.append_assoc]
      have h1 : (List.range n).take k ++ ([n] ++ (List.range n).drop k) = (List.range n).take k ++ n :: (List.range n).drop k := rfl
      rw [h1]
      exact List.perm_middle.trans (by rw [List.take_append_drop])
    refine ⟨hp.nodup_iff.2 (List.nodup_cons.2 ⟨by simp, List.nodup_range⟩), fun i hi => ?_⟩
    rcases List.mem_cons.1 (hp.mem_iff.1 hi) with rfl | h
    · omega
    · have := List.mem_range.1 h; omega
def lessAt (l : List (List Int)) (p : List Int) (j : Nat) : Bool := rless (l.getD j []) p
def posP (l : List (List Int)) (p : List Int) : Nat := (l.takeWhile fun r => rless r p).length
theorem posP_eq {l : List (List Int)} {p : List Int} {k : Nat} (hk : k ≤ l.length) (h1 : ∀ j, j < k → lessAt l p j = true) (h2 : k < l.length → lessAt l p k = false) : posP l p = k := by
  unfold posP
  have e : l.takeWhile (fun r => rless r p) = l.take k := by
    conv => lhs; rw [← List.take_append_drop k l]
    rw [List.takeWhile_append_of_pos]
    · cases hd : l.drop k with
      | nil => simp
      | cons y r =>
        have hkl : k < l.length := by
          rcases Nat.lt_or_ge k l.length with h | h
          · exact h
          · rw [List.drop_eq_nil_of_le h] at hd; cases hd
        have hy : l[k]? = some y := by
          have : (l.drop k)[0]? = some y := by rw [hd]; rfl
          simpa using this
        have := h2 hkl
        unfold lessAt at this
        rw [List.getD_eq_getElem?_getD, hy] at this
        simp [List.takeWhile_cons, show rless y p = false from this]
    · intro y hy
      obtain ⟨j, hj⟩ := List.getElem?_of_mem hy
      have hjk := (List.getElem?_eq_some_iff.1 hj).1
      rw [List.length_take] at hjk
      rw [List.getElem?_take_of_lt (by omega)] at hj
      have := h1 j (by omega)
      unfold lessAt at this
      rwa [List.getD_eq_getElem?_getD, hj] at this
  rw [e, List.length_take]; omega
theorem tw_spec (q : List Int → Bool) : ∀ (l : List (List Int)) (y : List Int), l[(l.takeWhile q).length]? = some y → q y = false
  | [], y, h => by simp at h
  | x :: l, y, h => by
    by_cases hx : q x = true
    · rw [List.takeWhile_cons_of_pos hx, List.length_cons, List.getElem?_cons_succ] at h; exact tw_spec q l y h
    · rw [List.takeWhile_cons_of_neg hx] at h; simp at h; subst h; simpa using hx
theorem posP_spec (l : List (List Int)) (p : List Int) : posP l p ≤ l.length ∧ (∀ j y, j < posP l p → l[j]? = some y → rless y p = true) ∧ ∀ y, l[posP l p]? = some y → rless y p = false := by
  have hpre := List.takeWhile_prefix (p := fun r => rless r p) (l := l)
  refine ⟨hpre.length_le, fun j y hj hy => ?_, fun y hy => tw_spec _ l y hy⟩
  obtain ⟨t, ht⟩ := hpre
  rw [← ht, List.getElem?_append_left hj] at hy
  exact List.all_eq_true.1 (List.all_takeWhile (l := l) (p := fun r => rless r p)) y (List.mem_of_getElem? hy)
def isAt (l : List (List Int)) (p : List Int) : Bool := decide (posP l p < l.length) && decide (cmpL (l.getD (posP l p) []) p = 0)
theorem putG_posP (l : List (List Int)) (p : List Int) : ((putAt l.length (posP l p) (isAt l p)).map fun i => (l ++ [p]).getD i []) = putG rless l p := by
  obtain ⟨h1, h2, h3⟩ := posP_spec l p
  rw [putG_at h2 h3 h1]
  have hr : ∀ (m : List Nat), (∀ i ∈ m, i < l.length) → (m.map fun i => (l ++ [p]).getD i []) = m.map fun i => l.getD i [] := fun m hm => List.map_congr_left fun i hi => by
    rw [List.getD_eq_getElem?_getD, List.getElem?_append_left (hm i hi), ← List.getD_eq_getElem?_getD]
  have hself : ((List.range l.length).map fun i => l.getD i []) = l := by
    apply List.ext_getElem?
    intro i
    by_cases hi : i < l.length
    · rw [List.getElem?_map, List.getElem?_range hi, Option.map_some, List.getD_eq_getElem?_getD, List.getElem?_eq_getElem hi]; rfl
    · rw [List.getElem?_eq_none (by simp; omega), List.getElem?_eq_none (by omega)]
  have hat : isAt l p = decide (l[posP l p]? = some p) := by
    unfold isAt
    rw [Bool.eq_iff_iff, Bool.and_eq_true, decide_eq_true_eq, decide_eq_true_eq, decide_eq_true_eq]
    constructor
    · rintro ⟨g1, g2⟩
      have g3 := cmpL_zero (l.getD (posP l p) []) p
      rw [decide_eq_true g2] at g3
      have g4 := of_decide_eq_true g3.symm
      rw [List.getElem?_eq_getElem g1]
      rw [List.getD_eq_getElem?_getD, List.getElem?_eq_getElem g1] at g4
      simpa using g4
    · intro g
      refine ⟨(List.getElem?_eq_some_iff.1 g).1, ?_⟩
      rw [List.getD_eq_getElem?_getD, g]
      exact cmpL_self p
  rw [hat]
  by_cases hc : l[posP l p]? = some p
  · rw [if_pos hc, decide_eq_true hc]
    unfold putAt
    rw [if_pos rfl, hr _ fun i hi => List.mem_range.1 hi, hself]
  · rw [if_neg hc, decide_eq_false hc]
    unfold putAt
    rw [if_neg (by simp), List.map_append, List.map_append, hr _ fun i hi => List.mem_range.1 (List.mem_of_mem_take hi), hr _ fun i hi => List.mem_range.1 (List.mem_of_mem_drop hi), List.map_take, List.map_drop, hself]
    congr 2
    simp
end Go.Q
namespace Go.Proofs.Ytoealglkenhphaa
open Go.RowKit Go.Q Go.D
theorem l26PutH (l : List (List Int)) (p : List Int) (hd : Nat → Value) (K : List (Nat × Obj)) (hK : ∀ i, i < l.length → KT K (.sl 1 ((l.getD i []).map cInt)) (hd i)) (hp : KT K (.sl 1 (p.map cInt)) (hd l.length)) (hz : l.length ≤ 1099511627776) :
    FnCk Try.prog 30 K [(true, .one (.sl 1 ((List.range l.length).map (cH hd)))), (false, .one (.v (hd l.length)))] (.a (.one (.sl 1 ((putAt l.length (posP l p) (isAt l p)).map (cH hd))))) := by
  refine FnCk.walk Try.func30 rfl (by kernel_rfl) Try.ntmps30 rfl (by rfl) fun w0 => ?_
  refine AW.le (σ' := ⟨_, [(0, _), (1, _)], [(1000, _), (999999, _)]⟩) (Le.sub0 rfl ⟨rfl, rfl, trivial⟩ ⟨rfl, rfl, trivial⟩) ?_
  try simp [cPair, cToken, cExpr, cEdge, cGraph, cStep, cWalk, cChange, cBatch, cHistory, cPositions, cAutomaton, cProductStep, cPathAtom, cConjunction, cView, cDelta, cRegistered, cRegistry] at hlen
  refine AW.seq ?_
  refine AW.region ?_
  refine AWl.put (R_assign rfl (.no rfl) rfl (.const rfl)) rfl ?_
  refine AWl.nilS (i := 4) 20001 1 rfl rfl ?_
  refine AWl.nil ?_
  refine AW.seq ?_
  refine AW.region ?_
  refine AWl.put (R_assign rfl (.no rfl) rfl (.const rfl)) rfl ?_
  refine AWl.nil ?_
  refine AW.seq ?_
  refine AW.block ?_
  refine AW.loop1 (fun (k : Nat) => (k ≤ l.length ∧ ∀ j, j < k → lessAt l p j = true) ∧ True) (fun (k : Nat) => ⟨_, [(5, (true, .a (.one (.t (.v (.int .i64 (k : Nat))))))), (0, _), (1, _), (4, _)], [(1000, .row 1 ((List.range l.length).map (cH hd))), (999999, .kept K)]⟩) (fun (k : Nat) => l.length - k) (0) ⟨⟨Nat.zero_le _, fun j hj => absurd hj (Nat.not_lt_zero j)⟩, trivial⟩ (Le.sub0 rfl ⟨rfl, rfl, rfl, rfl, trivial⟩ ⟨rfl, rfl, trivial⟩) ?_
  rintro k ⟨hk, he⟩
  refine AW.seq ?_
  refine AW.seq ?_
  refine AW.region ?_
  refine AWl.put (R_move rfl (.no rfl) rfl (.tmp rfl fun _ => rfl)) rfl ?_
  refine AWl.put (R_move rfl (.no rfl) rfl (.tmp rfl fun _ => rfl)) rfl ?_
  refine AWl.put ((by first | exact R_lenm rfl (.no rfl) rfl (.tmp rfl fun _ => rfl) (by first | exact .t | exact .rf rfl | exact .vw | exact .nil) Try.underlying22 | exact R_len rfl (.no rfl) rfl (.tmp rfl fun _ => rfl) (by first | exact .t | exact .rf rfl | exact .vw | exact .nil) Try.underlying22)) rfl ?_
  refine AWl.put (R_lt rfl (.no rfl) rfl (.tmp rfl fun _ => rfl) (.tmp rfl fun _ => rfl)) rfl ?_
  refine AWl.put (R_move rfl (.no rfl) rfl (.tmp rfl fun _ => rfl)) rfl ?_
  refine AWl.put (R_move rfl (by first | exact .yes1 rfl rfl rfl rfl | exact .yes rfl rfl rfl rfl) rfl (.tmp rfl (by first | exact fun _ => rfl | exact id | simp))) rfl ?_
  refine AWl.put (R_move rfl (by first | exact .yes1 rfl rfl rfl rfl | exact .yes rfl rfl rfl rfl) rfl (.tmp rfl (by first | exact fun _ => rfl | exact id | simp))) rfl ?_
  refine AWl.put ((by first | exact R_indexAddr rfl (by first | exact .yes1 rfl rfl rfl rfl | exact .yes rfl rfl rfl rfl) rfl (.tmp rfl (by first | exact fun _ => rfl | exact id | simp)) (.tmp rfl (by first | exact fun _ => rfl | exact id | simp)) Try.underlying22 ty23 (fun hq => by simp at hq; exact ⟨by omega, map_get (l := List.range l.length) (x := k) (List.getElem?_range (by omega))⟩) | exact R_indexAddr_vw rfl (by first | exact .yes1 rfl rfl rfl rfl | exact .yes rfl rfl rfl rfl) rfl (.tmp rfl (by first | exact fun _ => rfl | exact id | simp)) (.tmp rfl (by first | exact fun _ => rfl | exact id | simp)) Try.underlying22 ty23 (fun hq => by simp at hq; exact ⟨by omega, map_get (l := List.range l.length) (x := k) (List.getElem?_range (by omega))⟩) | exact R_indexAddr_rf rfl (by first | exact .yes1 rfl rfl rfl rfl | exact .yes rfl rfl rfl rfl) rfl (.tmp rfl (by first | exact fun _ => rfl | exact id | simp)) rfl (.tmp rfl (by first | exact fun _ => rfl | exact id | simp)) Try.underlying22 ty23 (fun hq => by simp at hq; exact ⟨by omega, map_get (l := List.range l.length) (x := k) (List.getElem?_range (by omega))⟩))) rfl ?_
  refine AWl.put ((by first | exact R_load rfl (by first | exact .yes1 rfl rfl rfl rfl | exact .yes rfl rfl rfl rfl) rfl (.tmp rfl (by first | exact fun _ => rfl | exact id | simp)) ty23 rfl rfl | exact R_load_pp rfl (by first | exact .yes1 rfl rfl rfl rfl | exact .yes rfl rfl rfl rfl) rfl (.tmp rfl (by first | exact fun _ => rfl | exact id | simp)) rfl ty23 rfl rfl | exact R_load_vw rfl (by first | exact .yes1 rfl rfl rfl rfl | exact .yes rfl rfl rfl rfl) rfl (.tmp rfl (by first | exact fun _ => rfl | exact id | simp)) ty23 rfl rfl | exact R_load_pr rfl (by first | exact .yes1 rfl rfl rfl rfl | exact .yes rfl rfl rfl rfl) rfl (.tmp rfl (by first | exact fun _ => rfl | exact id | simp)) rfl (fun hq => by simp at hq; exact map_get (l := List.range l.length) (x := k) (List.getElem?_range (by omega))) ty23 rfl rfl | exact R_load_prq rfl (by first | exact .yes1 rfl rfl rfl rfl | exact .yes rfl rfl rfl rfl) rfl (.tmp rfl (by first | exact fun _ => rfl | exact id | simp)) rfl (fun hq => by simp at hq; exact map_get (l := List.range l.length) (x := k) (List.getElem?_range (by omega))) ty23 rfl rfl)) rfl ?_
  refine AWl.put (R_move rfl (by first | exact .yes1 rfl rfl rfl rfl | exact .yes rfl rfl rfl rfl) rfl (.tmp rfl (by first | exact fun _ => rfl | exact id | simp))) rfl ?_
  refine AWl.put (R_callkq rfl (by first | exact .yes1 rfl rfl rfl rfl | exact .yes rfl rfl rfl rfl) rfl rfl (.cons (.tmp rfl (by first | exact fun _ => rfl | exact id | simp)) rfl (.cons (.tmp rfl (by first | exact fun _ => rfl | exact id | simp)) rfl .nil)) fun hq => FrTk.of2 (specl2Cmp (l.getD k []) p).fr (hK k (by simp at hq; omega)) hp) rfl ?_
  refine AWl.put (R_lt rfl (by first | exact .yes1 rfl rfl rfl rfl | exact .yes rfl rfl rfl rfl) rfl (.tmp rfl (by first | exact fun _ => rfl | exact id | simp)) (.const rfl)) rfl ?_
  refine AWl.put (R_and rfl (.no rfl) rfl (.tmp rfl fun _ => rfl) (.tmp rfl (by first | exact fun _ => rfl | exact id | simp))) rfl ?_
  refine AWl.nil ?_
  refine AW.cond (.tmp rfl fun _ => rfl) (fun h18 => ?_) (fun h18 => ?_)
  · skip
    try simp at h18
    refine AW.skip ?_
    refine AW.block ?_
    refine AW.le (σ' := ⟨_, [(0, _), (1, _), (4, _), (5, _)], [(1000, _), (999999, _)]⟩) (Le.sub0 rfl ⟨rfl, rfl, rfl, rfl, trivial⟩ ⟨rfl, rfl, trivial⟩) ?_
    refine AW.region ?_
    refine AWl.put (R_move rfl (.no rfl) rfl (.tmp rfl fun _ => rfl)) rfl ?_
    refine AWl.put (R_add rfl (.no rfl) rfl (.tmp rfl fun _ => rfl) (.const rfl) (fun _ => by omega)) rfl ?_
    refine AWl.put (R_assign rfl (.no rfl) rfl (.tmp rfl fun _ => rfl)) rfl ?_
    refine AWl.nil ?_
    repeat (with_reducible refine BlockQ.nor ?_)
    refine Round1.next (k + 1) ⟨⟨by omega, fun j hj => (by by_cases e : j = k; (subst e; unfold lessAt rless; exact decide_eq_true h18.2); exact hk.2 j (by omega))⟩, trivial⟩ (by omega) (Le.sub0 rfl ⟨rfl, rfl, rfl, rfl, trivial⟩ ⟨(by first | rfl | (refine congrArg (fun r => some (R.row _ r)) ?_; simp [chunk, List.map_set, cInt, cBool, cIntS, cPair, cToken, cExpr, cEdge, cGraph, cStep, cWalk, cChange, cBatch, cHistory, cPositions, cAutomaton, cProductStep, cPathAtom, cConjunction, cView, cDelta, cRegistered, cRegistry])), (by first | rfl | (refine congrArg (fun r => some (R.row _ r)) ?_; simp [chunk, List.map_set, cInt, cBool, cIntS, cPair, cToken, cExpr, cEdge, cGraph, cStep, cWalk, cChange, cBatch, cHistory, cPositions, cAutomaton, cProductStep, cPathAtom, cConjunction, cView, cDelta, cRegistered, cRegistry])), trivial⟩)
  · skip
    try simp at h18
    have hpos : posP l p = k := posP_eq hk.1 hk.2 (fun hl => by unfold lessAt rless; exact decide_eq_false (by simpa using h18 hl))
    refine AW.exit ?_
    refine AW.seq ?_
    refine AW.seq ?_
    refine AW.le (σ' := ⟨_, [(0, _), (1, _), (4, _), (5, _)], [(1000, _), (999999, _)]⟩) (Le.sub0 rfl ⟨rfl, rfl, rfl, rfl, trivial⟩ ⟨rfl, rfl, trivial⟩) ?_
    refine AW.region ?_
    refine AWl.put (R_move rfl (.no rfl) rfl (.tmp rfl fun _ => rfl)) rfl ?_
    refine AWl.put (R_move rfl (.no rfl) rfl (.tmp rfl fun _ => rfl)) rfl ?_
    refine AWl.put ((by first | exact R_lenm rfl (.no rfl) rfl (.tmp rfl fun _ => rfl) (by first | exact .t | exact .rf rfl | exact .vw | exact .nil) Try.underlying22 | exact R_len rfl (.no rfl) rfl (.tmp rfl fun _ => rfl) (by first | exact .t | exact .rf rfl | exact .vw | exact .nil) Try.underlying22)) rfl ?_
    refine AWl.put (R_lt rfl (.no rfl) rfl (.tmp rfl fun _ => rfl) (.tmp rfl fun _ => rfl)) rfl ?_
    refine AWl.put (R_move rfl (.no rfl) rfl (.tmp rfl fun _ => rfl)) rfl ?_
    refine AWl.put (R_move rfl (by first | exact .yes1 rfl rfl rfl rfl | exact .yes rfl rfl rfl rfl) rfl (.tmp rfl (by first | exact fun _ => rfl | exact id | simp))) rfl ?_
    refine AWl.put (R_move rfl (by first | exact .yes1 rfl rfl rfl rfl | exact .yes rfl rfl rfl rfl) rfl (.tmp rfl (by first | exact fun _ => rfl | exact id | simp))) rfl ?_
    refine AWl.put ((by first | exact R_indexAddr rfl (by first | exact .yes1 rfl rfl rfl rfl | exact .yes rfl rfl rfl rfl) rfl (.tmp rfl (by first | exact fun _ => rfl | exact id | simp)) (.tmp rfl (by first | exact fun _ => rfl | exact id | simp)) Try.underlying22 ty23 (fun hq => by simp at hq; exact ⟨by omega, map_get (l := List.range l.length) (x := k) (List.getElem?_range (by omega))⟩) | exact R_indexAddr_vw rfl (by first | exact .yes1 rfl rfl rfl rfl | exact .yes rfl rfl rfl rfl) rfl (.tmp rfl (by first | exact fun _ => rfl | exact id | simp)) (.tmp rfl (by first | exact fun _ => rfl | exact id | simp)) Try.underlying22 ty23 (fun hq => by simp at hq; exact ⟨by omega, map_get (l := List.range l.length) (x := k) (List.getElem?_range (by omega))⟩) | exact R_indexAddr_rf rfl (by first | exact .yes1 rfl rfl rfl rfl | exact .yes rfl rfl rfl rfl) rfl (.tmp rfl (by first | exact fun _ => rfl | exact id | simp)) rfl (.tmp rfl (by first | exact fun _ => rfl | exact id | simp)) Try.underlying22 ty23 (fun hq => by simp at hq; exact ⟨by omega, map_get (l := List.range l.length) (x := k) (List.getElem?_range (by omega))⟩))) rfl ?_
    refine AWl.put ((by first | exact R_load rfl (by first | exact .yes1 rfl rfl rfl rfl | exact .yes rfl rfl rfl rfl) rfl (.tmp rfl (by first | exact fun _ => rfl | exact id | simp)) ty23 rfl rfl | exact R_load_pp rfl (by first | exact .yes1 rfl rfl rfl rfl | exact .yes rfl rfl rfl rfl) rfl (.tmp rfl (by first | exact fun _ => rfl | exact id | simp)) rfl ty23 rfl rfl | exact R_load_vw rfl (by first | exact .yes1 rfl rfl rfl rfl | exact .yes rfl rfl rfl rfl) rfl (.tmp rfl (by first | exact fun _ => rfl | exact id | simp)) ty23 rfl rfl | exact R_load_pr rfl (by first | exact .yes1 rfl rfl rfl rfl | exact .yes rfl rfl rfl rfl) rfl (.tmp rfl (by first | exact fun _ => rfl | exact id | simp)) rfl (fun hq => by simp at hq; exact map_get (l := List.range l.length) (x := k) (List.getElem?_range (by omega))) ty23 rfl rfl | exact R_load_prq rfl (by first | exact .yes1 rfl rfl rfl rfl | exact .yes rfl rfl rfl rfl) rfl (.tmp rfl (by first | exact fun _ => rfl | exact id | simp)) rfl (fun hq => by simp at hq; exact map_get (l := List.range l.length) (x := k) (List.getElem?_range (by omega))) ty23 rfl rfl)) rfl ?_
    refine AWl.put (R_move rfl (by first | exact .yes1 rfl rfl rfl rfl | exact .yes rfl rfl rfl rfl) rfl (.tmp rfl (by first | exact fun _ => rfl | exact id | simp))) rfl ?_
    refine AWl.put (R_callkq rfl (by first | exact .yes1 rfl rfl rfl rfl | exact .yes rfl rfl rfl rfl) rfl rfl (.cons (.tmp rfl (by first | exact fun _ => rfl | exact id | simp)) rfl (.cons (.tmp rfl (by first | exact fun _ => rfl | exact id | simp)) rfl .nil)) fun hq => FrTk.of2 (specl2Cmp (l.getD k []) p).fr (hK k (by simp at hq; omega)) hp) rfl ?_
    refine AWl.put (R_eq rfl (by first | exact .yes1 rfl rfl rfl rfl | exact .yes rfl rfl rfl rfl) rfl (.tmp rfl (by first | exact fun _ => rfl | exact id | simp)) (.const rfl)) rfl ?_
    refine AWl.put (R_and rfl (.no rfl) rfl (.tmp rfl fun _ => rfl) (.tmp rfl (by first | exact fun _ => rfl | exact id | simp))) rfl ?_
    refine AWl.nil ?_
    refine AW.cond (.tmp rfl fun _ => rfl) (fun h33 => ?_) (fun h33 => ?_)
    · skip
      try simp at h33
      refine AW.seq ?_
      refine AW.le (σ' := ⟨_, [(0, _), (1, _), (4, _), (5, _)], [(1000, _), (999999, _)]⟩) (Le.sub0 rfl ⟨rfl, rfl, rfl, rfl, trivial⟩ ⟨rfl, rfl, trivial⟩) ?_
      refine AW.region ?_
      refine AWl.put (R_move rfl (.no rfl) rfl (.tmp rfl fun _ => rfl)) rfl ?_
      refine AWl.put (R_assign rfl (.no rfl) rfl (.tmp rfl fun _ => rfl)) rfl ?_
      refine AWl.nil ?_
      refine AW.ret ?_
      refine Res.one rfl (.tmp rfl .nil) rfl ?_
      rw [show isAt l p = true by (unfold isAt; rw [hpos, Bool.and_eq_true, decide_eq_true_eq, decide_eq_true_eq]; exact ⟨h33.1, by simpa using h33.2⟩)]; rfl
    · skip
      try simp at h33
      refine AW.skip ?_
      refine AW.seq ?_
      refine AW.le (σ' := ⟨_, [(0, _), (1, _), (4, _), (5, _)], [(1000, _), (999999, _)]⟩) (Le.sub0 rfl ⟨rfl, rfl, rfl, rfl, trivial⟩ ⟨rfl, rfl, trivial⟩) ?_
      refine AW.le (σ' := ⟨_, [(0, _), (1, _), (5, _)], [(1000, _), (999999, _)]⟩) (Le.sub0 rfl ⟨rfl, rfl, rfl, trivial⟩ ⟨rfl, rfl, trivial⟩) ?_
      refine AW.drawK 13 (nthB [[], [], [], [1, 2], [0, 1, 2, 3], [], [5], [0, 1, 2, 3, 4, 5, 6], [], [], [8, 9], [0, 1, 2, 3, 4, 5, 6, 7, 8, 9, 10], [0, 1, 2, 3, 4, 5, 6, 7, 8, 9, 10, 11]]) [(4, 35), (7, 35), (11, 35)] (by kernel_rfl) (by kernel_rfl) (by kernel_rfl) ?_
      refine DrawK.step (LocK.of1 rfl fun σ' hs hf => R_empty 35 rfl rfl (hd_sup hs rfl) Try.underlying22 ty23 hf) ?_
      refine DrawK.step (LocK.of rfl fun σ' hs => R_move rfl (.no rfl) (hd_sup hs rfl) (.tmp (hs.slots _ _ rfl) fun _ => rfl)) ?_
      refine DrawK.step (LocK.of rfl fun σ' hs => R_move rfl (.no rfl) (hd_sup hs rfl) (.tmp (hs.slots _ _ rfl) fun _ => rfl)) ?_
      refine DrawK.step (LocK.of rfl fun σ' hs => R_slice_vwr (m := k) rfl (.no rfl) (hd_sup hs rfl) (.tmp (hs.slots _ _ rfl) fun _ => rfl) (hs.res _ _ rfl) .no (.yes (.tmp (hs.slots _ _ rfl) fun _ => rfl) (fun _ => by first | rfl | omega | (simp <;> omega))) Try.underlying22 ty23 (fun _ => ⟨by omega, by first | omega | (simp; omega)⟩)) ?_
      refine DrawK.step (LocK.ofc rfl rfl fun σ' hs => R_append (id := 35) rfl rfl (hd_sup hs rfl) (.tmp (hs.slots _ _ rfl) fun _ => rfl) (hs.res _ _ rfl) (.tmp (hs.slots _ _ rfl) fun _ => rfl) (by first | exact .t | exact .rf (hs.res _ _ rfl) | exact .vw | exact .nil) (by first | rfl | exact isV_map (fun _ => rfl) _ | exact isV_part (fun _ => rfl) _ _ _) Try.underlying22 in23 rfl (by first | omega | (simp [chunk]; omega) | (simp only [List.length_map, List.length_append, List.length_cons, List.length_nil, chunk]; omega)) (by first | omega | (unfold maxLen; omega) | (unfold maxLen; simp [chunk]; omega) | (unfold maxLen; simp only [List.length_map, List.length_append, List.length_cons, List.length_nil, chunk]; omega))) ?_
      refine DrawK.step (LocK.of rfl fun σ' hs => R_move rfl (.no rfl) (hd_sup hs rfl) (.tmp (hs.slots _ _ rfl) fun _ => rfl)) ?_
      refine DrawK.step (LocK.of1 rfl fun σ' hs hf => R_list (xs := [.tmp 40]) 41 rfl rfl (hd_sup hs rfl) (.cons (.tmp (hs.slots _ _ rfl) fun _ => rfl) rfl rfl .nil) Try.underlying22 in23 rfl rfl rfl hf) ?_
      refine DrawK.step (LocK.ofc rfl rfl fun σ' hs => R_append (id := 35) rfl rfl (hd_sup hs rfl) (.tmp (hs.slots _ _ rfl) fun _ => rfl) (hs.res _ _ rfl) (.tmp (hs.slots _ _ rfl) fun _ => rfl) (by first | exact .t | exact .rf (hs.res _ _ rfl) | exact .vw | exact .nil) (by first | rfl | exact isV_map (fun _ => rfl) _ | exact isV_part (fun _ => rfl) _ _ _) Try.underlying22 in23 rfl (by first | omega | (simp [chunk]; omega) | (simp only [List.length_map, List.length_append, List.length_cons, List.length_nil, chunk]; omega)) (by first | omega | (unfold maxLen; omega) | (unfold maxLen; simp [chunk]; omega) | (unfold maxLen; simp only [List.length_map, List.length_append, List.length_cons, List.length_nil, chunk]; omega))) ?_
      refine DrawK.step (LocK.of rfl fun σ' hs => R_move rfl (.no rfl) (hd_sup hs rfl) (.tmp (hs.slots _ _ rfl) fun _ => rfl)) ?_
      refine DrawK.step (LocK.of rfl fun σ' hs => R_move rfl (.no rfl) (hd_sup hs rfl) (.tmp (hs.slots _ _ rfl) fun _ => rfl)) ?_
      refine DrawK.step (LocK.of rfl fun σ' hs => R_slice_vwr (n := k) rfl (.no rfl) (hd_sup hs rfl) (.tmp (hs.slots _ _ rfl) fun _ => rfl) (hs.res _ _ rfl) (.yes (.tmp (hs.slots _ _ rfl) fun _ => rfl) (fun _ => by first | rfl | omega | (simp <;> omega))) .no Try.underlying22 ty23 (fun _ => ⟨by simp; omega, by simp⟩)) ?_
      refine DrawK.step (LocK.ofc rfl rfl fun σ' hs => R_append (id := 35) rfl rfl (hd_sup hs rfl) (.tmp (hs.slots _ _ rfl) fun _ => rfl) (hs.res _ _ rfl) (.tmp (hs.slots _ _ rfl) fun _ => rfl) (by first | exact .t | exact .rf (hs.res _ _ rfl) | exact .vw | exact .nil) (by first | rfl | exact isV_map (fun _ => rfl) _ | exact isV_part (fun _ => rfl) _ _ _) Try.underlying22 in23 rfl (by first | omega | (simp [chunk]; omega) | (simp only [List.length_map, List.length_append, List.length_cons, List.length_nil, chunk]; omega)) (by first | omega | (unfold maxLen; omega) | (unfold maxLen; simp [chunk]; omega) | (unfold maxLen; simp only [List.length_map, List.length_append, List.length_cons, List.length_nil, chunk]; omega))) ?_
      refine DrawK.step (LocK.of rfl fun σ' hs => R_assign rfl (.no rfl) (hd_sup hs rfl) (.tmp (hs.slots _ _ rfl) fun _ => rfl)) ?_
      refine DrawK.fin rfl rfl rfl ?_
      refine AWl.le (σ' := ⟨_, [(0, _), (1, _), (4, _), (5, _)], [(1000, _), (999999, _), (35, _), (41, _)]⟩) (Le.sub0 rfl ⟨rfl, rfl, rfl, rfl, trivial⟩ ⟨rfl, rfl, rfl, rfl, trivial⟩) ?_
      refine AWl.nil ?_
      refine AW.ret ?_
      refine Res.one rfl (.tmp rfl .nil) rfl ?_
      rw [show isAt l p = false by (unfold isAt; rw [hpos]; simp; exact h33), hpos]; unfold putAt; rw [if_neg (by simp)]; refine congrArg (fun r => [V0.one (T.sl 1 r)]) ?_; simp [chunk, cH, List.map_take, List.map_drop, List.take_of_length_le (show (List.map (cH hd) (List.range l.length)).length ≤ l.length by simp)]; rw [← List.map_take, List.take_range]
theorem specl26Put (l : List (List Int)) (p : List Int) (hz : l.length ≤ 1099511627776) : FnC Try.prog 30 (ownAll [.sl 1 (l.map cIntS), .sl 1 (p.map cInt)]) (.a (.one (.sl 1 ((putG rless l p).map cIntS)))) := by
  have hcl : Go.Q.Callee Try.prog 30 := ⟨_, rfl, by kernel_rfl, rfl⟩
  let f : List Int → T := fun r => .sl 1 (r.map cInt)
  have hnd := putAt_nodup l.length (posP l p) (isAt l p)
  have h := FnC.lift2 (ts := l.map f) (t0 := f p) (L := putAt l.length (posP l p) (isAt l p)) hcl hnd.1 (by simpa using hnd.2) fun hd K hK => by
    have := l26PutH l p hd K (fun i hi => hK i (f (l.getD i [])) (by rw [List.getElem?_append_left (by simpa using hi), List.getElem?_map, List.getD_eq_getElem?_getD, List.getElem?_eq_getElem hi]; rfl)) (hK l.length (f p) (by rw [List.getElem?_append_right (by simp)]; simp)) hz
    rw [List.length_map]
    exact this
  have e1 : ((l.map f).map fun t => [t]) = l.map cIntS := by rw [List.map_map]; rfl
  have e2 : ((putAt l.length (posP l p) (isAt l p)).map fun i => [(l.map f ++ [f p]).getD i (.v undef)]) = (putG rless l p).map cIntS := by
    rw [← putG_posP, List.map_map]
    refine List.map_congr_left fun i hi => ?_
    have hil := hnd.2 i hi
    have hm : l.map f ++ [f p] = (l ++ [p]).map f := by simp
    rw [hm, List.getD_eq_getElem?_getD, List.getElem?_map]
    show _ = cIntS ((l ++ [p]).getD i [])
    rw [List.getD_eq_getElem?_getD, List.getElem?_eq_getElem (by simpa using hil)]
    rfl
  rw [e1, e2] at h
  exact h
theorem specProjectBindings (rows : List (List Int)) (vars : List Int) (hz : rows.length ≤ 1048576) (hr : ∀ r ∈ rows, r.length ≤ 1048576) (hv : vars.length ≤ 1048576) : FnT Try.prog 6 [.one (.sl 1 (rows.map cIntS)), .one (.sl 1 (vars.map cInt))] (.a (.one (.sl 1 ((projB rows vars).map cIntS)))) := by
  refine FnT.walk Try.func6 rfl (by kernel_rfl) Try.ntmps6 rfl fun hlen w0 => ?_
  try simp [cPair, cToken, cExpr, cEdge, cGraph, cStep, cWalk, cChange, cBatch, cHistory, cPositions, cAutomaton, cProductStep, cPathAtom, cConjunction, cView, cDelta, cRegistered, cRegistry] at hlen
  refine AW.seq ?_
  refine AW.region ?_
  refine AWl.put (R_assign rfl (.no rfl) rfl (.const rfl)) rfl ?_
  refine AWl.nilS (i := 4) 20001 1 rfl rfl ?_
  refine AWl.nil ?_
  refine AW.seq ?_
  refine AW.region ?_
  refine AWl.add (R_empty 9 rfl rfl rfl Try.underlying22 ty23 rfl) rfl ?_
  refine AWl.put (R_assign rfl (.no rfl) rfl (.tmp rfl fun _ => rfl)) rfl ?_
  refine AWl.nil ?_
  refine AW.seq ?_
  refine AW.seq ?_
  refine AW.region ?_
  refine AWl.put (R_assign rfl (.no rfl) rfl (.const rfl)) rfl ?_
  refine AWl.nil ?_
  refine AW.block ?_
  refine AW.loop1 (fun (k : Nat) => (k ≤ rows.length ∧ ∀ j r, j < k → rows[j]? = some r → okVars vars r = true) ∧ True) (fun (k : Nat) => ⟨_, [(6, (true, .a (.one (.t (.v (.int .i64 (k : Nat))))))), (5, (true, .a (.one (.rf 9)))), (0, _), (1, _)], [(9, .row 1 ((setG rless ((rows.take k).map (projR vars))).map cIntS))]⟩) (fun (k : Nat) => rows.length - k) (0) ⟨⟨Nat.zero_le _, fun j r hj => absurd hj (Nat.not_lt_zero j)⟩, trivial⟩ (Le.sub0 rfl ⟨rfl, rfl, rfl, rfl, trivial⟩ ⟨rfl, trivial⟩) ?_
  rintro k ⟨hk, he⟩
  refine AW.seq ?_
  refine AW.seq ?_
  refine AW.region ?_
  refine AWl.put (R_move rfl (.no rfl) rfl (.tmp rfl fun _ => rfl)) rfl ?_
  refine AWl.put (R_move rfl (.no rfl) rfl (.tmp rfl fun _ => rfl)) rfl ?_
  refine AWl.put ((by first | exact R_lenm rfl (.no rfl) rfl (.tmp rfl fun _ => rfl) (by first | exact .t | exact .rf rfl | exact .vw | exact .nil) Try.underlying22 | exact R_len rfl (.no rfl) rfl (.tmp rfl fun _ => rfl) (by first | exact .t | exact .rf rfl | exact .vw | exact .nil) Try.underlying22)) rfl ?_
  refine AWl.put (R_lt rfl (.no rfl) rfl (.tmp rfl fun _ => rfl) (.tmp rfl fun _ => rfl)) rfl ?_
  refine AWl.nil ?_
  refine AW.cond (.tmp rfl fun _ => rfl) (fun h13 => ?_) (fun h13 => ?_)
  · skip
    try simp at h13
    obtain ⟨x, hx⟩ : ∃ ξ, rows[k]? = some ξ := ⟨_, List.getElem?_eq_getElem (by omega)⟩
    have hxl := hr x (List.mem_of_getElem? hx)
    refine AW.skip ?_
    refine AW.seq ?_
    refine AW.block ?_
    refine AW.seq ?_
    refine AW.region ?_
    refine AWl.add (R_empty 16 rfl rfl rfl Try.underlying23 ty3 rfl) rfl ?_
    refine AWl.put (R_assign rfl (.no rfl) rfl (.tmp rfl fun _ => rfl)) rfl ?_
    refine AWl.nil ?_
    refine AW.seq ?_
    refine AW.seq ?_
    refine AW.region ?_
    refine AWl.put (R_assign rfl (.no rfl) rfl (.const rfl)) rfl ?_
    refine AWl.nil ?_
    refine AW.block ?_
    refine AW.loop1 (fun (k1 : Nat) => (k1 ≤ vars.length ∧ ∀ j v, j < k1 → vars[j]? = some v → okVar x v = true) ∧ True) (fun (k1 : Nat) => ⟨_, [(8, (true, .a (.one (.t (.v (.int .i64 (k1 : Nat))))))), (7, (true, .a (.one (.rf 16)))), (0, _), (1, _), (5, _), (6, _)], [(9, .row 1 ((setG rless ((rows.take k).map (projR vars))).map cIntS)), (16, .row 1 (((vars.take k1).map fun v => x[v.toNat]?.getD 0).map cInt))]⟩) (fun (k1 : Nat) => vars.length - k1) (0) ⟨⟨Nat.zero_le _, fun j r hj => absurd hj (Nat.not_lt_zero j)⟩, trivial⟩ (Le.sub0 rfl ⟨rfl, rfl, rfl, rfl, rfl, rfl, trivial⟩ ⟨rfl, rfl, trivial⟩) ?_
    rintro k1 ⟨hk1, he1⟩
    refine AW.seq ?_
    refine AW.seq ?_
    refine AW.region ?_
    refine AWl.put (R_move rfl (.no rfl) rfl (.tmp rfl fun _ => rfl)) rfl ?_
    refine AWl.put (R_move rfl (.no rfl) rfl (.tmp rfl fun _ => rfl)) rfl ?_
    refine AWl.put ((by first | exact R_lenm rfl (.no rfl) rfl (.tmp rfl fun _ => rfl) (by first | exact .t | exact .rf rfl | exact .vw | exact .nil) Try.underlying23 | exact R_len rfl (.no rfl) rfl (.tmp rfl fun _ => rfl) (by first | exact .t | exact .rf rfl | exact .vw | exact .nil) Try.underlying23)) rfl ?_
    refine AWl.put (R_lt rfl (.no rfl) rfl (.tmp rfl fun _ => rfl) (.tmp rfl fun _ => rfl)) rfl ?_
    refine AWl.nil ?_
    refine AW.cond (.tmp rfl fun _ => rfl) (fun h20 => ?_) (fun h20 => ?_)
    · skip
      try simp at h20
      obtain ⟨y, hy⟩ : ∃ ξ, vars[k1]? = some ξ := ⟨_, List.getElem?_eq_getElem (by omega)⟩
      refine AW.skip ?_
      refine AW.seq ?_
      refine AW.block ?_
      refine AW.seq ?_
      refine AW.seq ?_
      refine AW.drawn 12 (nthB [[], [], [0, 1], [0, 1, 2], [], [], [4, 5], [4, 5, 6], [4, 5, 6, 7], [4, 5, 6, 7, 8], [0, 1, 2, 3, 4, 5, 6, 7, 8, 9], [0, 1, 2, 3, 4, 5, 6, 7, 8, 9, 10]]) (by kernel_rfl) (by kernel_rfl) (by kernel_rfl) ?_
      refine DrawC.step rfl rfl rfl (Loc.of rfl fun σ' hs => R_move rfl (.no rfl) (hd_sup hs rfl) (.tmp (hs.slots _ _ rfl) fun _ => rfl)) ?_
      refine DrawC.step rfl rfl rfl (Loc.of rfl fun σ' hs => R_move rfl (.no rfl) (hd_sup hs rfl) (.tmp (hs.slots _ _ rfl) fun _ => rfl)) ?_
      refine DrawC.step rfl rfl rfl (Loc.of rfl fun σ' hs => (by first | exact R_indexAddr rfl (.no rfl) (hd_sup hs rfl) (.tmp (hs.slots _ _ rfl) fun _ => rfl) (.tmp (hs.slots _ _ rfl) fun _ => rfl) Try.underlying23 ty3 (fun _ => ⟨by omega, (by first | exact map_get hx | exact map_get hy | exact map_get hyg.2)⟩) | exact R_indexAddr_vw rfl (.no rfl) (hd_sup hs rfl) (.tmp (hs.slots _ _ rfl) fun _ => rfl) (.tmp (hs.slots _ _ rfl) fun _ => rfl) Try.underlying23 ty3 (fun _ => ⟨by omega, (by first | exact map_get hx | exact map_get hy | exact map_get hyg.2)⟩) | exact R_indexAddr_rf rfl (.no rfl) (hd_sup hs rfl) (.tmp (hs.slots _ _ rfl) fun _ => rfl) (hs.res _ _ rfl) (.tmp (hs.slots _ _ rfl) fun _ => rfl) Try.underlying23 ty3 (fun _ => ⟨by omega, (by first | exact map_get hx | exact map_get hy | exact map_get hyg.2)⟩))) ?_
      refine DrawC.step rfl rfl rfl (Loc.of rfl fun σ' hs => (by first | exact R_load rfl (.no rfl) (hd_sup hs rfl) (.tmp (hs.slots _ _ rfl) fun _ => rfl) ty3 rfl rfl | exact R_load_pp rfl (.no rfl) (hd_sup hs rfl) (.tmp (hs.slots _ _ rfl) fun _ => rfl) (hs.res _ _ rfl) ty3 rfl rfl | exact R_load_vw rfl (.no rfl) (hd_sup hs rfl) (.tmp (hs.slots _ _ rfl) fun _ => rfl) ty3 rfl rfl | exact R_load_pr rfl (.no rfl) (hd_sup hs rfl) (.tmp (hs.slots _ _ rfl) fun _ => rfl) (hs.res _ _ rfl) (by first | exact map_get hx | exact map_get hy | exact map_get hyg.2) ty3 rfl rfl)) ?_
      refine DrawC.step rfl rfl rfl (Loc.of rfl fun σ' hs => R_move rfl (.no rfl) (hd_sup hs rfl) (.tmp (hs.slots _ _ rfl) fun _ => rfl)) ?_
      refine DrawC.step rfl rfl rfl (Loc.of rfl fun σ' hs => R_move rfl (.no rfl) (hd_sup hs rfl) (.tmp (hs.slots _ _ rfl) fun _ => rfl)) ?_
      refine DrawC.step rfl rfl rfl (Loc.of rfl fun σ' hs => (by first | exact R_indexAddr rfl (.no rfl) (hd_sup hs rfl) (.tmp (hs.slots _ _ rfl) fun _ => rfl) (.tmp (hs.slots _ _ rfl) fun _ => rfl) Try.underlying22 ty23 (fun _ => ⟨by omega, (by first | exact map_get hx | exact map_get hy | exact map_get hyg.2)⟩) | exact R_indexAddr_vw rfl (.no rfl) (hd_sup hs rfl) (.tmp (hs.slots _ _ rfl) fun _ => rfl) (.tmp (hs.slots _ _ rfl) fun _ => rfl) Try.underlying22 ty23 (fun _ => ⟨by omega, (by first | exact map_get hx | exact map_get hy | exact map_get hyg.2)⟩) | exact R_indexAddr_rf rfl (.no rfl) (hd_sup hs rfl) (.tmp (hs.slots _ _ rfl) fun _ => rfl) (hs.res _ _ rfl) (.tmp (hs.slots _ _ rfl) fun _ => rfl) Try.underlying22 ty23 (fun _ => ⟨by omega, (by first | exact map_get hx | exact map_get hy | exact map_get hyg.2)⟩))) ?_
      refine DrawC.step rfl rfl rfl (Loc.of rfl fun σ' hs => (by first | exact R_load rfl (.no rfl) (hd_sup hs rfl) (.tmp (hs.slots _ _ rfl) fun _ => rfl) ty23 rfl rfl | exact R_load_pp rfl (.no rfl) (hd_sup hs rfl) (.tmp (hs.slots _ _ rfl) fun _ => rfl) (hs.res _ _ rfl) ty23 rfl rfl | exact R_load_vw rfl (.no rfl) (hd_sup hs rfl) (.tmp (hs.slots _ _ rfl) fun _ => rfl) ty23 rfl rfl | exact R_load_pr rfl (.no rfl) (hd_sup hs rfl) (.tmp (hs.slots _ _ rfl) fun _ => rfl) (hs.res _ _ rfl) (by first | exact map_get hx | exact map_get hy | exact map_get hyg.2) ty23 rfl rfl)) ?_
      refine DrawC.step rfl rfl rfl (Loc.of rfl fun σ' hs => (by first | exact R_lenm rfl (.no rfl) (hd_sup hs rfl) (.tmp (hs.slots _ _ rfl) fun _ => rfl) (by first | exact .t | exact .rf (hs.res _ _ rfl) | exact .vw | exact .nil) Try.underlying23 | exact R_len rfl (.no rfl) (hd_sup hs rfl) (.tmp (hs.slots _ _ rfl) fun _ => rfl) (by first | exact .t | exact .rf (hs.res _ _ rfl) | exact .vw | exact .nil) Try.underlying23)) ?_
      refine DrawC.step rfl rfl rfl (Loc.of rfl fun σ' hs => R_sub rfl (.no rfl) (hd_sup hs rfl) (.tmp (hs.slots _ _ rfl) fun _ => rfl) (.const rfl) (fun _ => by omega)) ?_
      refine DrawC.step rfl rfl rfl (Loc.of rfl fun σ' hs => R_callz (FnT.fr (specl1In _ _ _)) rfl (.no rfl) (hd_sup hs rfl) (.cons (.tmp (hs.slots _ _ rfl) fun _ => rfl) (readA_sup hs rfl) (.cons (.const rfl) (readA_sup hs rfl) (.cons (.tmp (hs.slots _ _ rfl) fun _ => rfl) (readA_sup hs rfl) .nil)))) ?_
      refine DrawC.step rfl rfl rfl (Loc.of rfl fun σ' hs => R_not rfl (.no rfl) (hd_sup hs rfl) (.tmp (hs.slots _ _ rfl) fun _ => rfl)) ?_
      refine DrawC.fin rfl rfl ?_
      refine AWl.nil ?_
      refine AW.cond (.tmp rfl fun _ => rfl) (fun h34 => ?_) (fun h34 => ?_)
      · skip
        skip
        have hno : okVar x y = false := by (unfold okVar; simpa using h34)
        refine AW.seq ?_
        refine AW.le (σ' := ⟨_, [(0, _), (1, _), (5, _), (6, _), (7, _), (8, _)], [(9, _), (16, _)]⟩) (Le.sub0 rfl ⟨rfl, rfl, rfl, rfl, rfl, rfl, trivial⟩ ⟨rfl, rfl, trivial⟩) ?_
        refine AW.region ?_
        refine AWl.add (R_empty 35 rfl rfl rfl Try.underlying22 ty23 rfl) rfl ?_
        refine AWl.put (R_assign rfl (.no rfl) rfl (.tmp rfl fun _ => rfl)) rfl ?_
        refine AWl.nil ?_
        refine AW.ret ?_
        refine Res.one rfl (.tmp rfl .nil) rfl ?_
        rw [projB_not (List.mem_of_getElem? hx) (List.mem_of_getElem? hy) hno]; rfl
      · skip
        skip
        have hyes : okVar x y = true := by (unfold okVar; simpa using h34)
        have hyg := okVar_get hyes
        refine AW.skip ?_
        refine AW.le (σ' := ⟨_, [(0, _), (1, _), (5, _), (6, _), (7, _), (8, _)], [(9, _), (16, _)]⟩) (Le.sub0 rfl ⟨rfl, rfl, rfl, rfl, rfl, rfl, trivial⟩ ⟨rfl, rfl, trivial⟩) ?_
        refine AW.le (σ' := ⟨_, [(0, _), (1, _), (5, _), (6, _), (7, _), (8, _)], [(9, _), (16, _)]⟩) (Le.sub0 rfl ⟨rfl, rfl, rfl, rfl, rfl, rfl, trivial⟩ ⟨rfl, rfl, trivial⟩) ?_
        refine AW.drawK 13 (nthB [[], [], [], [1, 2], [1, 2, 3], [], [], [5, 6], [5, 6, 7], [1, 2, 3, 4, 5, 6, 7, 8], [1, 2, 3, 4, 5, 6, 7, 8, 9], [1, 2, 3, 4, 5, 6, 7, 8, 9, 10], [0, 1, 2, 3, 4, 5, 6, 7, 8, 9, 10, 11]]) [(12, 16)] (by kernel_rfl) (by kernel_rfl) (by kernel_rfl) ?_
        refine DrawK.step (LocK.of rfl fun σ' hs => R_move rfl (.no rfl) (hd_sup hs rfl) (.tmp (hs.slots _ _ rfl) fun _ => rfl)) ?_
        refine DrawK.step (LocK.of rfl fun σ' hs => R_move rfl (.no rfl) (hd_sup hs rfl) (.tmp (hs.slots _ _ rfl) fun _ => rfl)) ?_
        refine DrawK.step (LocK.of rfl fun σ' hs => R_move rfl (.no rfl) (hd_sup hs rfl) (.tmp (hs.slots _ _ rfl) fun _ => rfl)) ?_
        refine DrawK.step (LocK.of rfl fun σ' hs => (by first | exact R_indexAddr rfl (.no rfl) (hd_sup hs rfl) (.tmp (hs.slots _ _ rfl) fun _ => rfl) (.tmp (hs.slots _ _ rfl) fun _ => rfl) Try.underlying22 ty23 (fun _ => ⟨by omega, (by first | exact map_get hx | exact map_get hy | exact map_get hyg.2)⟩) | exact R_indexAddr_vw rfl (.no rfl) (hd_sup hs rfl) (.tmp (hs.slots _ _ rfl) fun _ => rfl) (.tmp (hs.slots _ _ rfl) fun _ => rfl) Try.underlying22 ty23 (fun _ => ⟨by omega, (by first | exact map_get hx | exact map_get hy | exact map_get hyg.2)⟩) | exact R_indexAddr_rf rfl (.no rfl) (hd_sup hs rfl) (.tmp (hs.slots _ _ rfl) fun _ => rfl) (hs.res _ _ rfl) (.tmp (hs.slots _ _ rfl) fun _ => rfl) Try.underlying22 ty23 (fun _ => ⟨by omega, (by first | exact map_get hx | exact map_get hy | exact map_get hyg.2)⟩))) ?_
        refine DrawK.step (LocK.of rfl fun σ' hs => (by first | exact R_load rfl (.no rfl) (hd_sup hs rfl) (.tmp (hs.slots _ _ rfl) fun _ => rfl) ty23 rfl rfl | exact R_load_pp rfl (.no rfl) (hd_sup hs rfl) (.tmp (hs.slots _ _ rfl) fun _ => rfl) (hs.res _ _ rfl) ty23 rfl rfl | exact R_load_vw rfl (.no rfl) (hd_sup hs rfl) (.tmp (hs.slots _ _ rfl) fun _ => rfl) ty23 rfl rfl | exact R_load_pr rfl (.no rfl) (hd_sup hs rfl) (.tmp (hs.slots _ _ rfl) fun _ => rfl) (hs.res _ _ rfl) (by first | exact map_get hx | exact map_get hy | exact map_get hyg.2) ty23 rfl rfl)) ?_
        refine DrawK.step (LocK.of rfl fun σ' hs => R_move rfl (.no rfl) (hd_sup hs rfl) (.tmp (hs.slots _ _ rfl) fun _ => rfl)) ?_
        refine DrawK.step (LocK.of rfl fun σ' hs => R_move rfl (.no rfl) (hd_sup hs rfl) (.tmp (hs.slots _ _ rfl) fun _ => rfl)) ?_
        refine DrawK.step (LocK.of rfl fun σ' hs => (by first | exact R_indexAddr rfl (.no rfl) (hd_sup hs rfl) (.tmp (hs.slots _ _ rfl) fun _ => rfl) (.tmp (hs.slots _ _ rfl) fun _ => rfl) Try.underlying23 ty3 (fun _ => ⟨by omega, (by first | exact map_get hx | exact map_get hy | exact map_get hyg.2)⟩) | exact R_indexAddr_vw rfl (.no rfl) (hd_sup hs rfl) (.tmp (hs.slots _ _ rfl) fun _ => rfl) (.tmp (hs.slots _ _ rfl) fun _ => rfl) Try.underlying23 ty3 (fun _ => ⟨by omega, (by first | exact map_get hx | exact map_get hy | exact map_get hyg.2)⟩) | exact R_indexAddr_rf rfl (.no rfl) (hd_sup hs rfl) (.tmp (hs.slots _ _ rfl) fun _ => rfl) (hs.res _ _ rfl) (.tmp (hs.slots _ _ rfl) fun _ => rfl) Try.underlying23 ty3 (fun _ => ⟨by omega, (by first | exact map_get hx | exact map_get hy | exact map_get hyg.2)⟩))) ?_
        refine DrawK.step (LocK.of rfl fun σ' hs => (by first | exact R_load rfl (.no rfl) (hd_sup hs rfl) (.tmp (hs.slots _ _ rfl) fun _ => rfl) ty3 rfl rfl | exact R_load_pp rfl (.no rfl) (hd_sup hs rfl) (.tmp (hs.slots _ _ rfl) fun _ => rfl) (hs.res _ _ rfl) ty3 rfl rfl | exact R_load_vw rfl (.no rfl) (hd_sup hs rfl) (.tmp (hs.slots _ _ rfl) fun _ => rfl) ty3 rfl rfl | exact R_load_pr rfl (.no rfl) (hd_sup hs rfl) (.tmp (hs.slots _ _ rfl) fun _ => rfl) (hs.res _ _ rfl) (by first | exact map_get hx | exact map_get hy | exact map_get hyg.2) ty3 rfl rfl)) ?_
        refine DrawK.step (LocK.of rfl fun σ' hs => (by first | exact R_indexAddr rfl (.no rfl) (hd_sup hs rfl) (.tmp (hs.slots _ _ rfl) fun _ => rfl) (.tmp (hs.slots _ _ rfl) fun _ => rfl) Try.underlying23 ty3 (fun _ => ⟨by omega, map_get hyg.2⟩) | exact R_indexAddr_vw rfl (.no rfl) (hd_sup hs rfl) (.tmp (hs.slots _ _ rfl) fun _ => rfl) (.tmp (hs.slots _ _ rfl) fun _ => rfl) Try.underlying23 ty3 (fun _ => ⟨by omega, map_get hyg.2⟩) | exact R_indexAddr_rf rfl (.no rfl) (hd_sup hs rfl) (.tmp (hs.slots _ _ rfl) fun _ => rfl) (hs.res _ _ rfl) (.tmp (hs.slots _ _ rfl) fun _ => rfl) Try.underlying23 ty3 (fun _ => ⟨by omega, map_get hyg.2⟩))) ?_
        refine DrawK.step (LocK.of rfl fun σ' hs => (by first | exact R_load rfl (.no rfl) (hd_sup hs rfl) (.tmp (hs.slots _ _ rfl) fun _ => rfl) ty3 rfl rfl | exact R_load_pp rfl (.no rfl) (hd_sup hs rfl) (.tmp (hs.slots _ _ rfl) fun _ => rfl) (hs.res _ _ rfl) ty3 rfl rfl | exact R_load_vw rfl (.no rfl) (hd_sup hs rfl) (.tmp (hs.slots _ _ rfl) fun _ => rfl) ty3 rfl rfl | exact R_load_pr rfl (.no rfl) (hd_sup hs rfl) (.tmp (hs.slots _ _ rfl) fun _ => rfl) (hs.res _ _ rfl) map_get hyg.2 ty3 rfl rfl)) ?_
        refine DrawK.step (LocK.of rfl fun σ' hs => R_listz (xs := [.tmp 46]) (rows := [cInt (x[y.toNat]?.getD 0)]) rfl rfl (hd_sup hs rfl) (.cons (.tmp (hs.slots _ _ rfl) fun _ => rfl) rfl rfl .nil) Try.underlying23 in3 rfl rfl (rfl)) ?_
        refine DrawK.step (LocK.ofc rfl rfl fun σ' hs => R_append (id := 16) rfl rfl (hd_sup hs rfl) (.tmp (hs.slots _ _ rfl) fun _ => rfl) (hs.res _ _ rfl) (.tmp (hs.slots _ _ rfl) fun _ => rfl) (by first | exact .t | exact .rf (hs.res _ _ rfl) | exact .vw | exact .nil) (by first | rfl | exact isV_map (fun _ => rfl) _ | exact isV_part (fun _ => rfl) _ _ _) Try.underlying23 in3 rfl (by first | omega | (simp [chunk]; omega) | (simp only [List.length_map, List.length_append, List.length_cons, List.length_nil, chunk]; omega)) (by first | omega | (unfold maxLen; omega) | (unfold maxLen; simp [chunk]; omega) | (unfold maxLen; simp only [List.length_map, List.length_append, List.length_cons, List.length_nil, chunk]; omega))) ?_
        refine DrawK.fin rfl rfl rfl ?_
        refine AWl.le (σ' := ⟨_, [(0, _), (1, _), (5, _), (6, _), (8, _), (48, _)], [(9, _), (16, _)]⟩) (Le.sub0 rfl ⟨rfl, rfl, rfl, rfl, rfl, rfl, trivial⟩ ⟨rfl, rfl, trivial⟩) ?_
        refine AWl.put (R_assign rfl (.no rfl) rfl (.tmp rfl fun _ => rfl)) rfl ?_
        refine AWl.nil ?_
        refine AW.region ?_
        refine AWl.put (R_move rfl (.no rfl) rfl (.tmp rfl fun _ => rfl)) rfl ?_
        refine AWl.put (R_add rfl (.no rfl) rfl (.tmp rfl fun _ => rfl) (.const rfl) (fun _ => by omega)) rfl ?_
        refine AWl.put (R_assign rfl (.no rfl) rfl (.tmp rfl fun _ => rfl)) rfl ?_
        refine AWl.nil ?_
        repeat (with_reducible refine BlockQ.nor ?_)
        refine Round1.next (k1 + 1) ⟨⟨by omega, each_succ hk1.2 hy hyes⟩, trivial⟩ (by omega) (Le.sub0 rfl ⟨rfl, rfl, rfl, rfl, rfl, rfl, trivial⟩ ⟨(by first | rfl | (refine congrArg (fun r => some (R.row 1 r)) ?_; rw [take_at hx, List.map_append, hvt]; unfold setG; rw [List.foldl_append]; rfl)), (by refine congrArg (fun r => some (R.row 1 r)) ?_; simp [take_at hy, cInt, chunk]), trivial⟩)
    · skip
      try simp at h20
      have hvt : vars.take k1 = vars := List.take_of_length_le (by omega)
      refine AW.exit ?_
      refine AW.region ?_
      refine AWl.put (R_move rfl (.no rfl) rfl (.tmp rfl fun _ => rfl)) rfl ?_
      refine AWl.put (R_move rfl (.no rfl) rfl (.tmp rfl fun _ => rfl)) rfl ?_
      apply AWl.consume
      case ho =>
        apply R_consumeL 9 (specl26Put (setG rless ((rows.take k).map (projR vars))) ((vars.take k1).map fun v => x[v.toNat]?.getD 0) (Nat.le_trans (setG_len _) (by simp; omega))) rfl rfl rfl
        case hx => exact (.cons (.tmp rfl fun _ => rfl) (.cons (.tmp rfl fun _ => rfl) .nil))
        case ha => rfl
        all_goals rfl
      case hd => rfl
      refine AWl.put (R_assign rfl (.no rfl) rfl (.tmp rfl fun _ => rfl)) rfl ?_
      refine AWl.nil ?_
      refine AW.le (σ' := ⟨_, [(0, _), (1, _), (5, _), (6, _), (7, _), (8, _)], [(9, _)]⟩) (Le.sub0 rfl ⟨rfl, rfl, rfl, rfl, rfl, rfl, trivial⟩ ⟨rfl, trivial⟩) ?_
      refine AW.region ?_
      refine AWl.put (R_move rfl (.no rfl) rfl (.tmp rfl fun _ => rfl)) rfl ?_
      refine AWl.put (R_add rfl (.no rfl) rfl (.tmp rfl fun _ => rfl) (.const rfl) (fun _ => by omega)) rfl ?_
      refine AWl.put (R_assign rfl (.no rfl) rfl (.tmp rfl fun _ => rfl)) rfl ?_
      refine AWl.nil ?_
      repeat (with_reducible refine BlockQ.nor ?_)
      refine Round1.next (k + 1) ⟨⟨by omega, fun j r hj hr => (by by_cases e : j = k; (subst e; rw [hx] at hr; cases hr; exact List.all_eq_true.2 fun v hv' => by obtain ⟨i, hi⟩ := List.getElem?_of_mem hv'; exact hk1.2 i v (by have := (List.getElem?_eq_some_iff.1 hi).1; omega) hi); exact hk.2 j r (by omega) hr)⟩, trivial⟩ (by omega) (Le.sub0 rfl ⟨rfl, rfl, rfl, rfl, trivial⟩ ⟨(by first | rfl | (refine congrArg (fun r => some (R.row 1 r)) ?_; rw [take_at hx, List.map_append, hvt]; unfold setG; rw [List.foldl_append]; rfl)), trivial⟩)
  · skip
    try simp at h13
    refine AW.exit ?_
    refine AW.seq ?_
    refine AW.region ?_
    refine AWl.put (R_move rfl (.no rfl) rfl (.tmp rfl fun _ => rfl)) rfl ?_
    refine AWl.put (R_assign rfl (.no rfl) rfl (.tmp rfl fun _ => rfl)) rfl ?_
    refine AWl.nil ?_
    refine AW.ret ?_
    refine Res.one rfl (.tmp rfl .nil) rfl ?_
    rw [projB_all (fun j r hj hr => hk.2 j r (by omega) hr), List.take_of_length_le (by omega)]; rfl
end Go.Proofs.Ytoealglkenhphaa
