/- Merged texts. -/
import Derived.Test.YtbfejakbaijmhaaB46xg
import Derived.Test.YtbfejakbaijmhaaB54xg
import Derived.Test.YtbfejakbaijmhaaAbsUxg
set_option linter.unusedVariables false
set_option linter.unusedSimpArgs false
set_option maxHeartbeats 1000000
set_option maxRecDepth 100000
namespace Go.Q
open Go.D
/-! ### Edges turned round -/
def turnOne (i : Nat) (l : List Int) (k : Nat) : List Int := (l.filter fun y => decide (y.toNat = k)).map fun _ => (i : Int)
def turnAt (nx : Nat → List Int) (p : Nat) (k : Nat) : List Int := (List.range p).flatMap fun i => turnOne i (nx i) k
def turnedL (next : List (List Int)) : List (List Int) := (List.range next.length).map fun k => turnAt (nxL next) next.length k
theorem turnAt_succ (nx : Nat → List Int) (p k : Nat) : turnAt nx (p + 1) k = turnAt nx p k ++ turnOne p (nx p) k := by
  unfold turnAt; rw [List.range_succ, List.flatMap_append]; simp
theorem turnOne_succ {i : Nat} {l : List Int} {j : Nat} {y : Int} (h : l[j]? = some y) (k : Nat) : turnOne i (l.take (j + 1)) k = turnOne i (l.take j) k ++ if k = y.toNat then [(i : Int)] else [] := by
  unfold turnOne
  rw [take_at h, List.filter_append, List.map_append]
  by_cases e : k = y.toNat
  · subst e; simp
  · have : ¬ y.toNat = k := fun h => e h.symm
    simp [e, this]
theorem turnOne_len (i : Nat) (l : List Int) (k : Nat) : (turnOne i l k).length ≤ l.length := by
  unfold turnOne; rw [List.length_map]; exact List.length_filter_le _ _
theorem turnAt_len {nx : Nat → List Int} {b N : Nat} (hb : ∀ p, p < N → (nx p).length ≤ b) (k : Nat) : ∀ p, p ≤ N → (turnAt nx p k).length ≤ p * b
  | 0, _ => by simp [turnAt]
  | p + 1, h => by
    rw [turnAt_succ, List.length_append, Nat.succ_mul]
    have := turnAt_len hb k p (by omega)
    have := hb p (by omega)
    have := turnOne_len p (nx p) k
    omega
theorem mem_turnAt {nx : Nat → List Int} {p k : Nat} {q : Int} : q ∈ turnAt nx p k ↔ ∃ i : Nat, i < p ∧ q = (i : Int) ∧ ∃ y ∈ nx i, y.toNat = k := by
  unfold turnAt turnOne
  simp only [List.mem_flatMap, List.mem_range, List.mem_map, List.mem_filter, decide_eq_true_eq]
  constructor
  · rintro ⟨i, hi, y, ⟨hy, h⟩, rfl⟩; exact ⟨i, hi, rfl, y, hy, h⟩
  · rintro ⟨i, hi, rfl, y, hy, h⟩; exact ⟨i, hi, y, ⟨hy, h⟩, rfl⟩
theorem turnedL_len (next : List (List Int)) : (turnedL next).length = next.length := by unfold turnedL; simp
theorem turnedL_at {next : List (List Int)} {k : Nat} (hk : k < next.length) : nxL (turnedL next) k = turnAt (nxL next) next.length k := nxL_at (by unfold turnedL; exact range_get _ hk)
theorem turnedL_ok {next : List (List Int)} : ∀ p, p < next.length → ∀ k ∈ nxL (turnedL next) p, 0 ≤ k ∧ k < next.length := fun p hp k hk => by
  rw [turnedL_at hp] at hk
  obtain ⟨i, hi, rfl, _⟩ := mem_turnAt.1 hk
  omega
theorem turned_can {next : List (List Int)} (hn : ∀ p, p < next.length → ∀ k ∈ nxL next p, 0 ≤ k ∧ k < next.length) {gl : List Int} {G : Nat → Bool} (hG : ∀ i : Nat, i < next.length → ((i : Int) ∈ gl ↔ G i = true)) (hgl : ∀ q ∈ gl, 0 ≤ q ∧ q < (next.length : Int)) {j : Nat} (hj : j < next.length) : Rch (nxL (turnedL next)) (· ∈ gl) (j : Int) ↔ CanR (nxL next) G j := by
  constructor
  · intro h
    have key : ∀ q : Int, Rch (nxL (turnedL next)) (· ∈ gl) q → 0 ≤ q ∧ q < next.length ∧ CanR (nxL next) G q.toNat := by
      intro q h
      induction h with
      | base h => have := hgl _ h; exact ⟨this.1, this.2, .goal ((hG _ (by omega)).1 (by rwa [Int.toNat_of_nonneg this.1]))⟩
      | @step q k _ hk ih =>
        have hq : q.toNat < next.length := by omega
        rw [turnedL_at hq] at hk
        obtain ⟨i, hi, rfl, y, hy, e⟩ := mem_turnAt.1 hk
        exact ⟨by omega, by omega, .step (z := y) (by simpa using hy) (by rw [e]; exact ih.2.2)⟩
    have := (key _ h).2.2
    simpa using this
  · intro h
    induction h with
    | goal h => exact .base ((hG _ hj).2 h)
    | @step i z hz _ ih =>
      have hb := hn i hj z hz
      have := ih (by omega)
      rw [Int.toNat_of_nonneg hb.1] at this
      exact .step this (by rw [turnedL_at (by omega)]; exact mem_turnAt.2 ⟨i, hj, rfl, z, hz, rfl⟩)
end Go.Q
set_option linter.unusedVariables false
set_option linter.unusedSimpArgs false
set_option maxHeartbeats 1000000
set_option maxRecDepth 100000
namespace Go.Q
open Go.D
theorem goals_rng {g : TGraph} {a : TAutomaton} {y v : Int} (ha : validA a = true) (hy : 0 ≤ y ∧ y < g.Values.length) : ∀ q ∈ goalsL a y v, 0 ≤ q ∧ q < (NP g a : Int) := by
  intro q hq
  unfold goalsL at hq
  obtain ⟨s, hs, rfl⟩ := List.mem_map.1 hq
  have hsl := List.mem_range.1 (List.mem_filter.1 hs).1
  have hA := validA_len ha
  have h0 : 0 ≤ y * (a.Accept.length : Int) := Int.mul_nonneg hy.1 (by omega)
  have h1 : y * (a.Accept.length : Int) ≤ ((g.Values.length : Int) - 1) * (a.Accept.length : Int) := Int.mul_le_mul_of_nonneg_right (by omega) (by omega)
  have h2 : ((g.Values.length : Int) - 1) * (a.Accept.length : Int) = (a.Accept.length : Int) * g.Values.length - a.Accept.length := by rw [Int.sub_mul, Int.one_mul, Int.mul_comm]
  have h3 : ((NP g a : Nat) : Int) = (a.Accept.length : Int) * g.Values.length := by unfold NP; simp
  exact ⟨by show 0 ≤ y * (a.Accept.length : Int) + (s : Int); omega, by show y * (a.Accept.length : Int) + (s : Int) < _; omega⟩
theorem goals_iff {g : TGraph} {a : TAutomaton} {y v : Int} (ha : validA a = true) (hy : 0 ≤ y) (hv : g.Values[y.toNat]? = some v) {i : Nat} (hi : i < NP g a) : (i : Int) ∈ goalsL a y v ↔ goalOf g a y i = true := by
  have hA := validA_len ha
  have hd := nd_ok hA.1 (show i < a.Accept.length * g.Values.length from hi)
  have hdm := Int.mul_ediv_add_emod (i : Int) (a.Accept.length : Int)
  unfold goalsL goalOf
  simp only [List.mem_map, List.mem_filter, List.mem_range, Bool.and_eq_true, decide_eq_true_eq]
  constructor
  · rintro ⟨s, ⟨hs, hacc⟩, e⟩
    have h1 : (i : Int) / (a.Accept.length : Int) = y := by
      rw [← e, Int.add_comm, Int.add_mul_ediv_right _ _ (by omega), Int.ediv_eq_zero_of_lt (by omega) (by omega), Int.zero_add]
    have h2 : (i : Int) % (a.Accept.length : Int) = s := by
      rw [← e, Int.add_comm, Int.add_mul_emod_self_right, Int.emod_eq_of_lt (by omega) (by omega)]
    refine ⟨h1, ?_⟩
    rw [h1, h2, hv]; exact hacc
  · rintro ⟨h1, h2⟩
    rw [h1, hv] at h2
    refine ⟨((i : Int) % (a.Accept.length : Int)).toNat, ⟨by omega, ?_⟩, ?_⟩
    · rw [Int.toNat_of_nonneg hd.2.1]; exact h2
    · rw [Int.toNat_of_nonneg hd.2.1, ← h1, Int.mul_comm]; exact hdm
theorem CanR.congr {nx nx' : Nat → List Int} {G : Nat → Bool} {N : Nat} (hn : ∀ p, p < N → ∀ k ∈ nx p, 0 ≤ k ∧ k < (N : Int)) (he : ∀ p, p < N → nx p = nx' p) {i : Nat} (h : CanR nx G i) : i < N → CanR nx' G i := by
  induction h with
  | goal h => exact fun _ => .goal h
  | @step i z hz _ ih =>
    intro hi
    have hb := hn i hi z hz
    exact .step (by rw [← he i hi]; exact hz) (ih (by omega))
end Go.Q
namespace Go.Proofs.Ytbfejakbaijmhaa
open Go.RowKit Go.Q Go.D
theorem implturned (next : List (List Int)) (hN : next.length ≤ 65536) (hn : ∀ p, p < next.length → ∀ k ∈ nxL next p, 0 ≤ k ∧ k < next.length) (hz : ∀ p, p < next.length → (nxL next p).length ≤ 65536) : FnT Try.prog 180 [.one (.sl 1 (next.map cIntS))] (.a (.one (.sl 1 ((turnedL next).map cIntS)))) := by
  refine FnT.walk Try.func180 rfl (by kernel_rfl) Try.ntmps180 rfl fun hlen w0 => ?_
  try simp [cPair, cToken, cExpr, cEdge, cGraph, cStep, cWalk, cChange, cBatch, cHistory, cPositions, cAutomaton, cProductStep, cPathAtom, cConjunction, cView, cDelta, cRegistered, cRegistry] at hlen
  skip
  refine AW.seq ?_
  refine AW.region ?_
  refine AWl.put (R_assign rfl (.no rfl) rfl (.const rfl)) rfl ?_
  refine AWl.nilS (i := 2) 20001 1 rfl rfl ?_
  refine AWl.nil ?_
  refine AW.seq ?_
  refine AW.region ?_
  refine AWl.put (R_move rfl (.no rfl) rfl (.tmp rfl fun _ => rfl)) rfl ?_
  refine AWl.put ((by exact R_lenm rfl (.no rfl) rfl (.tmp rfl fun _ => rfl) (by exact .t) Try.underlying27)) rfl ?_
  refine AWl.add (R_makeSlice 10 rfl rfl rfl (.tmp rfl fun _ => rfl) Try.underlying27 in22 rfl rfl rfl rfl (by omega)) rfl ?_
  refine AWl.le (Le.nilRow (id := 10) 1 rfl) ?_
  refine AWl.put (R_assign rfl (.no rfl) rfl (.tmp rfl fun _ => rfl)) rfl ?_
  refine AWl.nil ?_
  refine AW.seq ?_
  refine AW.seq ?_
  refine AW.region ?_
  refine AWl.put (R_move rfl (.no rfl) rfl (.tmp rfl fun _ => rfl)) rfl ?_
  refine AWl.put ((by exact R_lenm rfl (.no rfl) rfl (.tmp rfl fun _ => rfl) (by exact .t) Try.underlying27)) rfl ?_
  refine AWl.put (R_move rfl (.no rfl) rfl (.const rfl)) rfl ?_
  refine AWl.nil ?_
  refine AW.block ?_
  refine AW.loop1 (fun (i : Nat) => (i ≤ next.length) ∧ True) (fun (i : Nat) => ⟨_, [(13, (true, .a (.one (.t (.v (.int .i64 (i : Nat))))))), (3, (true, .a (.one (.rf 10)))), (2, _), (11, _), (12, _)], [(10, .row 1 ((List.range next.length).map fun (k : Nat) => [T.sl 1 ((turnAt (nxL next) i k).map cInt)]))]⟩) (fun (i : Nat) => next.length - i) (0) ⟨Nat.zero_le _, trivial⟩ (Le.sub0 rfl ⟨rfl, rfl, rfl, rfl, rfl, trivial⟩ ⟨congrArg (fun r => some (R.row 1 r)) (by apply List.ext_getElem <;> simp [turnAt, turnOne]), trivial⟩) ?_
  rintro i ⟨hk, he⟩
  refine AW.seq ?_
  refine AW.region ?_
  refine AWl.put (R_lt rfl (.no rfl) rfl (.tmp rfl fun _ => rfl) (.tmp rfl fun _ => rfl)) rfl ?_
  refine AWl.nil ?_
  refine AW.seq ?_
  refine AW.cond (.tmp rfl fun _ => rfl) (fun h14 => ?_) (fun h14 => ?_)
  · skip
    try simp at h14
    obtain ⟨l, hl⟩ : ∃ ξ, next[i]? = some ξ := ⟨_, List.getElem?_eq_getElem (by omega)⟩
    have hnl : nxL next i = l := nxL_at hl
    have hiN : i < next.length := by omega
    have hll : l.length ≤ 65536 := by rw [← hnl]; exact hz i hiN
    refine AW.skip ?_
    refine AW.seq ?_
    refine AW.block ?_
    refine AW.seq ?_
    refine AW.region ?_
    refine AWl.put (R_move rfl (.no rfl) rfl (.tmp rfl fun _ => rfl)) rfl ?_
    refine AWl.put ((by exact R_indexAddr rfl (.no rfl) rfl (.tmp rfl fun _ => rfl) (.tmp rfl fun _ => rfl) Try.underlying27 ty22 (fun _ => ⟨by omega, (by exact map_get hl)⟩))) rfl ?_
    refine AWl.put ((by exact R_load rfl (.no rfl) rfl (.tmp rfl fun _ => rfl) ty22 rfl rfl)) rfl ?_
    refine AWl.put (R_assign rfl (.no rfl) rfl (.tmp rfl fun _ => rfl)) rfl ?_
    refine AWl.put (R_assign rfl (.no rfl) rfl (.tmp rfl fun _ => rfl)) rfl ?_
    refine AWl.nil ?_
    refine AW.seq ?_
    refine AW.region ?_
    refine AWl.put (R_move rfl (.no rfl) rfl (.tmp rfl fun _ => rfl)) rfl ?_
    refine AWl.put ((by exact R_lenm rfl (.no rfl) rfl (.tmp rfl fun _ => rfl) (by exact .t) Try.underlying22)) rfl ?_
    refine AWl.put (R_move rfl (.no rfl) rfl (.const rfl)) rfl ?_
    refine AWl.nil ?_
    refine AW.block ?_
    refine AW.loop1 (fun (j : Nat) => (j ≤ l.length) ∧ True) (fun (j : Nat) => ⟨_, [(20, (true, .a (.one (.t (.v (.int .i64 (j : Nat))))))), (3, (true, .a (.one (.rf 10)))), (2, _), (4, _), (11, _), (12, _), (13, _), (18, _), (19, _)], [(10, .row 1 ((List.range next.length).map fun (k : Nat) => [T.sl 1 ((turnAt (nxL next) i k ++ turnOne i (l.take j) k).map cInt)]))]⟩) (fun (j : Nat) => l.length - j) (0) ⟨Nat.zero_le _, trivial⟩ (Le.sub0 rfl ⟨rfl, rfl, rfl, rfl, rfl, rfl, rfl, rfl, rfl, trivial⟩ ⟨congrArg (fun r => some (R.row 1 r)) (by apply List.ext_getElem <;> simp [turnAt, turnOne]), trivial⟩) ?_
    rintro j ⟨hk1, he1⟩
    refine AW.seq ?_
    refine AW.region ?_
    refine AWl.put (R_lt rfl (.no rfl) rfl (.tmp rfl fun _ => rfl) (.tmp rfl fun _ => rfl)) rfl ?_
    refine AWl.nil ?_
    refine AW.seq ?_
    refine AW.cond (.tmp rfl fun _ => rfl) (fun h21 => ?_) (fun h21 => ?_)
    · skip
      try simp at h21
      obtain ⟨y, hy⟩ : ∃ ξ, l[j]? = some ξ := ⟨_, List.getElem?_eq_getElem (by omega)⟩
      have hyb := hn i hiN y (by rw [hnl]; exact List.mem_of_getElem? hy)
      have hl1 := turnAt_len (nx := nxL next) (b := 65536) (N := next.length) hz y.toNat i (by omega)
      have hl2 := turnOne_len i (l.take j) y.toNat
      have hl3 : (l.take j).length ≤ 65536 := by (have := hz i hiN; rw [hnl] at this; rw [List.length_take]; omega)
      have hl4 : (turnAt (nxL next) i y.toNat).length + (turnOne i (l.take j) y.toNat).length ≤ 4295032832 := by omega
      refine AW.skip ?_
      refine AW.seq ?_
      refine AW.block ?_
      refine AW.seq ?_
      refine AW.region ?_
      refine AWl.put ((by exact R_indexAddr rfl (.no rfl) rfl (.tmp rfl fun _ => rfl) (.tmp rfl fun _ => rfl) Try.underlying22 ty3 (fun _ => ⟨by omega, (by exact map_get hy)⟩))) rfl ?_
      refine AWl.put ((by exact R_load rfl (.no rfl) rfl (.tmp rfl fun _ => rfl) ty3 rfl rfl)) rfl ?_
      refine AWl.put (R_assign rfl (.no rfl) rfl (.tmp rfl fun _ => rfl)) rfl ?_
      refine AWl.nil ?_
      refine AW.takeR (id := 10) (i := y.toNat) (p := 0) 291 292 rfl (range_get _ (by omega)) rfl (fun _ => rfl) (fun _ => rfl) fun c29 => ?_
      refine AW.region ?_
      refine AWl.put (R_move rfl (.no rfl) rfl (.tmp rfl fun _ => rfl)) rfl ?_
      refine AWl.put (R_move rfl (.no rfl) rfl (.tmp rfl fun _ => rfl)) rfl ?_
      refine AWl.put (R_move rfl (.no rfl) rfl (.tmp rfl fun _ => rfl)) rfl ?_
      refine AWl.put (R_move rfl (.no rfl) rfl (.tmp rfl fun _ => rfl)) rfl ?_
      refine AWl.put ((by exact R_indexAddr_rf rfl (.no rfl) rfl (.tmp rfl fun _ => rfl) rfl (.tmp rfl fun _ => rfl) Try.underlying27 ty22 (fun _ => ⟨by omega, set_at _ (range_get _ (by omega))⟩))) rfl ?_
      refine AWl.put ((by exact R_load_pr rfl (.no rfl) rfl (.tmp rfl fun _ => rfl) rfl (set_at _ (range_get _ (by omega))) ty22 rfl rfl)) rfl ?_
      refine AWl.put (R_move rfl (.no rfl) rfl (.tmp rfl fun _ => rfl)) rfl ?_
      refine AWl.put (R_listz (xs := [.tmp 30]) (rows := [cInt (i : Int)]) rfl rfl rfl (.cons (.tmp rfl fun _ => rfl) rfl rfl .nil) Try.underlying22 in3 rfl rfl (rfl)) rfl ?_
      refine AWl.chgput (R_append_hd (id := 291) (hid := 292) rfl rfl rfl (.tmp rfl fun _ => rfl) rfl rfl (.tmp rfl fun _ => rfl) (by exact .t) (by rfl) Try.underlying22 in3 rfl (by (simp [chunk]; omega)) (by (unfold maxLen; simp [chunk]; omega))) rfl ?_
      refine AWl.le (σ' := ⟨_, [(2, _), (3, _), (4, _), (7, _), (11, _), (12, _), (13, _), (18, _), (19, _), (20, _), (21, _), (24, _), (25, _), (32, _)], [(10, _), (291, _), (292, _)]⟩) (Le.sub0 rfl ⟨rfl, rfl, rfl, rfl, rfl, rfl, rfl, rfl, rfl, rfl, rfl, rfl, rfl, rfl, trivial⟩ ⟨rfl, rfl, rfl, trivial⟩) ?_
      refine AWl.put ((by exact R_indexAddr_rf rfl (.no rfl) rfl (.tmp rfl fun _ => rfl) rfl (.tmp rfl fun _ => rfl) Try.underlying27 ty22 (fun _ => ⟨by omega, set_at _ (range_get _ (by omega))⟩))) rfl ?_
      refine AWl.absupd (R_store_pr rfl rfl rfl (.tmp rfl fun _ => rfl) rfl (.tmp rfl fun _ => rfl) rfl (set_at _ (range_get _ (by omega))) ty22 rfl rfl rfl rfl) ?_
      refine AWl.nil ?_
      refine AW.region ?_
      refine AWl.put (R_add rfl (.no rfl) rfl (.tmp rfl fun _ => rfl) (.const rfl) (fun _ => by omega)) rfl ?_
      refine AWl.put (R_move rfl (.no rfl) rfl (.tmp rfl fun _ => rfl)) rfl ?_
      refine AWl.nil ?_
      repeat (with_reducible refine BlockQ.nor ?_)
      refine Round1.next (j + 1) ⟨by omega, trivial⟩ (by omega) (Le.sub0 rfl ⟨rfl, rfl, rfl, rfl, rfl, rfl, rfl, rfl, rfl, trivial⟩ ⟨(by refine congrArg (fun r => some (R.row 1 r)) ?_; first | (simp only [List.set_set]; refine (range_app 1 cInt (fun k => turnAt (nxL next) i k ++ turnOne i (l.take j) k) (i : Int)).trans ?_; congr 1; funext k; rw [turnOne_succ hy, List.append_assoc]; done) | (congr 1; funext k; rw [turnAt_succ, hnl, List.take_of_length_le (by omega)]; done) | (congr 1; funext k; simp [turnOne]; done)), trivial⟩)
    · skip
      try simp at h21
      refine AW.exit ?_
      refine AW.region ?_
      refine AWl.put (R_add rfl (.no rfl) rfl (.tmp rfl fun _ => rfl) (.const rfl) (fun _ => by omega)) rfl ?_
      refine AWl.put (R_move rfl (.no rfl) rfl (.tmp rfl fun _ => rfl)) rfl ?_
      refine AWl.nil ?_
      repeat (with_reducible refine BlockQ.nor ?_)
      refine Round1.next (i + 1) ⟨by omega, trivial⟩ (by omega) (Le.sub0 rfl ⟨rfl, rfl, rfl, rfl, rfl, trivial⟩ ⟨(by refine congrArg (fun r => some (R.row 1 r)) ?_; first | (simp only [List.set_set]; refine (range_app 1 cInt (fun k => turnAt (nxL next) i k ++ turnOne i (l.take j) k) (i : Int)).trans ?_; congr 1; funext k; rw [turnOne_succ hy, List.append_assoc]; done) | (congr 1; funext k; rw [turnAt_succ, hnl, List.take_of_length_le (by omega)]; done) | (congr 1; funext k; simp [turnOne]; done)), trivial⟩)
  · skip
    try simp at h14
    refine AW.exit ?_
    refine AW.seq ?_
    refine AW.region ?_
    refine AWl.put (R_move rfl (.no rfl) rfl (.tmp rfl fun _ => rfl)) rfl ?_
    refine AWl.put (R_assign rfl (.no rfl) rfl (.tmp rfl fun _ => rfl)) rfl ?_
    refine AWl.nil ?_
    refine AW.ret ?_
    refine Res.one rfl (.tmp rfl .nil) rfl ?_
    rw [show i = next.length by omega]; unfold turnedL; rw [List.map_map]; rfl
end Go.Proofs.Ytbfejakbaijmhaa
