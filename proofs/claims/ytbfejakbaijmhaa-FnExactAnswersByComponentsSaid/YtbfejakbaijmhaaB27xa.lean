/- Views: both texts. -/
import Derived.Test.YtbfejakbaijmhaaB21xa
import Derived.Test.YtbfejakbaijmhaaB05xa
set_option linter.unusedVariables false
set_option linter.unusedSimpArgs false
set_option maxHeartbeats 1000000
set_option maxRecDepth 100000
namespace Go.Q
open Go.D
theorem bfs_congr {nx nx' : Nat → List Int} {N : Nat} (hn : ∀ p, p < N → ∀ k ∈ nx p, 0 ≤ k ∧ k < N) (he : ∀ p, p < N → nx p = nx' p) : ∀ (f : Nat) (out qu : List Int), BfsI N out qu → bfs nx f out qu = bfs nx' f out qu
  | 0, _, _, _ => rfl
  | f + 1, _, [], _ => rfl
  | f + 1, out, q :: r, h => by
    have hq := h.mem q (by simp)
    have hq' : q.toNat < N := by omega
    rw [bfs, bfs, ← he _ hq']
    exact bfs_congr hn he f _ _ (BfsI.relax (N := N) hq (l := nx q.toNat) (st := (out, r)) h.tail (hn _ hq')).1
theorem spread_congr {nx nx' : Nat → List Int} {N : Nat} (hn : ∀ p, p < N → ∀ k ∈ nx p, 0 ≤ k ∧ k < N) (he : ∀ p, p < N → nx p = nx' p) {l : List Int} (hl : ∀ q ∈ l, 0 ≤ q ∧ q < (N : Int)) : spreadOf nx N l = spreadOf nx' N l := bfs_congr hn he _ _ _ (bfs_start hl)
theorem bfs_ok {nx : Nat → List Int} {N : Nat} (hn : ∀ p, p < N → ∀ k ∈ nx p, 0 ≤ k ∧ k < N) : ∀ (f : Nat) (out qu : List Int), BfsI N out qu → BfsI N (bfs nx f out qu) []
  | 0, out, qu, h => ⟨h.len, by simp, h.val⟩
  | f + 1, out, [], h => h
  | f + 1, out, q :: r, h => by
    have hq := h.mem q (by simp)
    rw [bfs]
    exact bfs_ok hn f _ _ (BfsI.relax (N := N) hq (l := nx q.toNat) (st := (out, r)) h.tail (hn q.toNat (by omega))).1
theorem spread_ok {nx : Nat → List Int} {N : Nat} (hn : ∀ p, p < N → ∀ k ∈ nx p, 0 ≤ k ∧ k < N) {l : List Int} (hl : ∀ q ∈ l, 0 ≤ q ∧ q < (N : Int)) : (spreadOf nx N l).length = N ∧ ∀ v ∈ spreadOf nx N l, -1 ≤ v ∧ v ≤ N := by
  have h := bfs_ok hn (2 * N + l.length + 1) _ _ (bfs_start hl)
  exact ⟨h.len, fun v hv => by have := h.val v hv; omega⟩
def sup1 (R : List Int) (i : Nat) (S : List Int) (k : Int) : List Int := if 0 ≤ atI R i ∧ atI R k = atI R i + 1 then S.set k.toNat (atI S k + 1) else S
def supRow (R : List Int) (i : Nat) (S : List Int) (l : List Int) : List Int := l.foldl (sup1 R i) S
def supAll (nx : Nat → List Int) (R : List Int) (S : List Int) : Nat → List Int
  | 0 => S
  | n + 1 => supRow R n (supAll nx R S n) (nx n)
structure SupI (N : Nat) (b : Int) (S : List Int) : Prop where
  len : S.length = N
  val : ∀ v ∈ S, 0 ≤ v ∧ v ≤ b
theorem SupI.le {N : Nat} {b b' : Int} {S : List Int} (h : SupI N b S) (hb : b ≤ b') : SupI N b' S := ⟨h.len, fun v hv => by have := h.val v hv; omega⟩
theorem SupI.at {N : Nat} {b : Int} {S : List Int} (h : SupI N b S) {k : Int} (hk : k.toNat < N) : 0 ≤ atI S k ∧ atI S k ≤ b := h.val _ (List.mem_of_getElem? (atI_get (by rw [h.len]; exact hk)))
theorem SupI.one {N : Nat} {b : Int} {R S : List Int} {i : Nat} {k : Int} (h : SupI N b S) (hk : 0 ≤ k ∧ k < N) : SupI N (b + 1) (sup1 R i S k) := by
  unfold sup1
  split
  · refine ⟨by simpa using h.len, fun v hv => ?_⟩
    rcases List.mem_or_eq_of_mem_set hv with hv | rfl
    · have := h.val v hv; omega
    · have := h.at (k := k) (by omega); omega
  · exact h.le (by omega)
theorem SupI.row {N : Nat} {R : List Int} {i : Nat} : ∀ {l : List Int} {b : Int} {S : List Int}, SupI N b S → (∀ k ∈ l, 0 ≤ k ∧ k < N) → SupI N (b + l.length) (supRow R i S l)
  | [], b, S, h, _ => by simpa [supRow] using h
  | k :: l, b, S, h, hl => by
    have e : supRow R i S (k :: l) = supRow R i (sup1 R i S k) l := rfl
    rw [e]
    exact (SupI.row (h.one (hl k (by simp))) fun k hk => hl k (by simp [hk])).le (by simp; omega)
theorem SupI.all {nx : Nat → List Int} {N c : Nat} {R : List Int} (hn : ∀ p, p < N → ∀ k ∈ nx p, 0 ≤ k ∧ k < N) (hc : ∀ p, p < N → (nx p).length ≤ c) : ∀ {n : Nat}, n ≤ N → SupI N ((n * c : Nat) : Int) (supAll nx R (List.replicate N 0) n)
  | 0, _ => ⟨by simp [supAll], fun v hv => by rw [(List.mem_replicate.1 hv).2]; simp⟩
  | n + 1, h => by
    rw [supAll, Nat.succ_mul]
    refine (SupI.row (SupI.all hn hc (n := n) (by omega)) (hn n (by omega))).le ?_
    have := hc n (by omega)
    omega
theorem nextsV_len (g : TGraph) (a : TAutomaton) : (nextsV g a).length = a.Accept.length * g.Values.length := by unfold nextsV; simp
theorem nextsV_at {g : TGraph} {a : TAutomaton} {p : Nat} (h : p < a.Accept.length * g.Values.length) : nxL (nextsV g a) p = nxN g a p := nxL_at (by unfold nextsV; rw [List.getElem?_map, List.getElem?_range h]; rfl)
theorem nxN_len {g : TGraph} (a : TAutomaton) (hg : validG g = true) (p : Nat) : (nxN g a p).length ≤ 1536 := by
  have hG := validG_len hg
  have h1 : ∀ x, (arcsAt g x).length ≤ 24 := fun x => Nat.le_trans (arcsL_len _ _) (by omega)
  rw [nxN_steps, List.length_map]
  exact Nat.le_trans (steps_len g a _ _) (by have := h1 ((p : Int) / (a.Accept.length : Int)); omega)
theorem prod_le {a : TAutomaton} {g : TGraph} (ha : validA a = true) (hg : validG g = true) : 1 ≤ a.Accept.length * g.Values.length ∧ a.Accept.length * g.Values.length ≤ 60 := by
  have hA := validA_len ha
  have hG := validG_len hg
  exact ⟨Nat.mul_le_mul (show 1 ≤ a.Accept.length by omega) (show 1 ≤ g.Values.length by omega), Nat.mul_le_mul (by omega : a.Accept.length ≤ 12) (by omega : g.Values.length ≤ 5)⟩
theorem ranks_ok {g : TGraph} {a : TAutomaton} (ha : validA a = true) (hg : validG g = true) {x : Int} (hx : 0 ≤ x ∧ x < g.Values.length) : (ranksOf g a x).length = a.Accept.length * g.Values.length ∧ ∀ v ∈ ranksOf g a x, -1 ≤ v ∧ v ≤ 60 := by
  have hs0 := start_ok ha hx
  have h := spread_ok (nx := nxN g a) (N := a.Accept.length * g.Values.length) (fun p hp => nxN_ok ha hg hp) (l := [x * a.Accept.length + a.Start]) (by simpa using hs0)
  have hN := prod_le ha hg
  exact ⟨h.1, fun v hv => by have := h.2 v hv; omega⟩
theorem ranks_nexts {g : TGraph} {a : TAutomaton} (ha : validA a = true) (hg : validG g = true) {x : Int} (hx : 0 ≤ x ∧ x < g.Values.length) : spreadOf (nxL (nextsV g a)) (nextsV g a).length [x * a.Accept.length + a.Start] = ranksOf g a x := by
  have hs0 := start_ok ha hx
  rw [nextsV_len]
  exact spread_congr (fun p hp k hk => nxN_ok ha hg hp k (by rwa [nextsV_at hp] at hk)) (fun p hp => nextsV_at hp) (by simpa using hs0)
theorem good_parts {g : TGraph} {a : TAutomaton} {x : Int} (h : goodB g a x 0 = true) : validG g = true ∧ validA a = true ∧ 0 ≤ x ∧ x < g.Values.length := by
  unfold goodB inB at h
  simp only [Bool.and_eq_true, decide_eq_true_eq] at h
  exact ⟨h.1.1.1, h.1.1.2, h.1.2.1, by omega⟩
theorem both_good (g : TGraph) (a : TAutomaton) (x : Int) : bothB g a [x] = goodB g a x 0 := by
  unfold bothB goodB
  cases hv : validA a with
  | false => simp
  | true =>
    have hA := validA_len hv
    have e : inB 0 0 ((a.Accept.length : Int) - 1) = true := by unfold inB; simp; omega
    rw [e]
    simp only [List.all_cons, List.all_nil, Bool.and_true]
    cases inB x 0 ((g.Values.length : Int) - 1) <;> cases validG g <;> rfl
end Go.Q
namespace Go.Proofs.Ytbfejakbaijmhaa
open Go.RowKit Go.Q Go.D
theorem implDistancesFrom (g : TGraph) (a : TAutomaton) (ha : validA a = true) (hg : validG g = true) (x : Int) (hx : 0 ≤ x ∧ x < g.Values.length) : FnT Try.prog 188 [.agg (cGraph g), .agg (cAutomaton a), .one (.v (.int .i64 x))] (.a (.one (.sl 1 ((ranksOf g a x).map cInt)))) := by
  refine FnT.walk Try.func188 rfl (by kernel_rfl) Try.ntmps188 rfl fun hlen w0 => ?_
  try simp [cPair, cToken, cExpr, cEdge, cGraph, cStep, cWalk, cChange, cBatch, cHistory, cPositions, cAutomaton, cProductStep, cPathAtom, cConjunction, cView, cDelta, cRegistered, cRegistry] at hlen
  have hA := validA_len ha
  have hG := validG_len hg
  have hN := prod_le ha hg
  have hs0 := start_ok ha hx
  have hb : bothB g a [x] = true := by rw [both_good]; unfold goodB inB; simp [ha, hg]; omega
  have hxn : 0 ≤ x * (a.Accept.length : Int) ∧ x * (a.Accept.length : Int) ≤ 60 := ⟨Int.mul_nonneg hx.1 (by omega), Int.le_trans (Int.mul_le_mul (show x ≤ 5 by omega) (show (a.Accept.length : Int) ≤ 12 by omega) (by omega) (by omega)) (by omega)⟩
  have hsp := implspread (nextsV g a) [x * (a.Accept.length : Int) + a.Start] (by rw [nextsV_len]; omega) (fun p hp k hk => by rw [nextsV_len] at hp ⊢; rw [nextsV_at hp] at hk; exact nxN_ok ha hg hp k hk) (fun p hp => by rw [nextsV_len] at hp; rw [nextsV_at hp]; have := nxN_len a hg p; omega) (by rw [nextsV_len]; simpa using hs0) (by simp)
  rw [ranks_nexts ha hg hx] at hsp
  refine AW.seq ?_
  refine AW.region ?_
  refine AWl.put (R_boxz rfl rfl rfl (.tmp rfl fun _ => rfl) (ts := _) (by rfl)) rfl ?_
  refine AWl.put (R_boxz rfl rfl rfl (.tmp rfl fun _ => rfl) (ts := _) (by rfl)) rfl ?_
  refine AWl.put (R_assign rfl (.no rfl) rfl (.const rfl)) rfl ?_
  refine AWl.nilS (i := 6) 20001 1 rfl rfl ?_
  refine AWl.nil ?_
  refine AW.seq ?_
  refine AW.seq ?_
  refine AW.region ?_
  refine AWl.put ((by exact R_load rfl (.no rfl) rfl (.tmp rfl fun _ => rfl) ty35 rfl rfl)) rfl ?_
  refine AWl.put ((by exact R_load rfl (.no rfl) rfl (.tmp rfl fun _ => rfl) ty37 rfl rfl)) rfl ?_
  refine AWl.put (R_move rfl (.no rfl) rfl (.tmp rfl fun _ => rfl)) rfl ?_
  refine AWl.put (R_listz (xs := [.tmp 9]) (rows := [cInt x]) rfl rfl rfl (.cons (.tmp rfl fun _ => rfl) rfl rfl .nil) Try.underlying22 in3 rfl rfl (rfl)) rfl ?_
  refine AWl.put (R_callz (FnT.fr (implbothOk g a [x])) rfl (.no rfl) rfl (.cons (.tmp rfl fun _ => rfl) rfl (.cons (.tmp rfl fun _ => rfl) rfl (.cons (.tmp rfl fun _ => rfl) rfl .nil)))) rfl ?_
  refine AWl.put (R_not rfl (.no rfl) rfl (.tmp rfl fun _ => rfl)) rfl ?_
  refine AWl.nil ?_
  refine AW.cond (.tmp rfl fun _ => rfl) (fun h12 => ?_) (fun h12 => ?_)
  · exact absurd h12 (by simp [hb])
  · skip
    try simp at h12
    refine AW.skip ?_
    refine AW.seq ?_
    refine AW.le (σ' := ⟨_, [(0, _), (1, _), (2, _), (3, _), (4, _), (6, _)], [(20001, _)]⟩) (Le.sub0 rfl ⟨rfl, rfl, rfl, rfl, rfl, rfl, trivial⟩ ⟨rfl, trivial⟩) ?_
    refine AW.drawn 14 (nthB [[], [], [0, 1], [], [], [4], [4, 5], [3, 4, 5, 6], [], [8], [3, 4, 5, 6, 7, 8, 9], [3, 4, 5, 6, 7, 8, 9, 10], [0, 1, 2, 3, 4, 5, 6, 7, 8, 9, 10, 11], [0, 1, 2, 3, 4, 5, 6, 7, 8, 9, 10, 11, 12]]) (by kernel_rfl) (by kernel_rfl) (by kernel_rfl) ?_
    refine DrawC.step rfl rfl rfl (Loc.of rfl fun σ' hs => (by exact R_load rfl (.no rfl) (hd_sup hs rfl) (.tmp (hs.slots _ _ rfl) fun _ => rfl) ty35 rfl rfl)) ?_
    refine DrawC.step rfl rfl rfl (Loc.of rfl fun σ' hs => (by exact R_load rfl (.no rfl) (hd_sup hs rfl) (.tmp (hs.slots _ _ rfl) fun _ => rfl) ty37 rfl rfl)) ?_
    refine DrawC.step rfl rfl rfl (Loc.of rfl fun σ' hs => R_callz (FnT.fr (implnextVertices g a ha hg)) rfl (.no rfl) (hd_sup hs rfl) (.cons (.tmp (hs.slots _ _ rfl) fun _ => rfl) (readA_sup hs rfl) (.cons (.tmp (hs.slots _ _ rfl) fun _ => rfl) (readA_sup hs rfl) .nil))) ?_
    refine DrawC.step rfl rfl rfl (Loc.of rfl fun σ' hs => R_move rfl (.no rfl) (hd_sup hs rfl) (.tmp (hs.slots _ _ rfl) fun _ => rfl)) ?_
    refine DrawC.step rfl rfl rfl (Loc.of rfl fun σ' hs => (by exact R_fieldAddr rfl (.no rfl) (hd_sup hs rfl) (.tmp (hs.slots _ _ rfl) fun _ => rfl) fl37_1)) ?_
    refine DrawC.step rfl rfl rfl (Loc.of rfl fun σ' hs => (by exact R_load rfl (.no rfl) (hd_sup hs rfl) (.tmp (hs.slots _ _ rfl) fun _ => rfl) ty26 rfl rfl)) ?_
    refine DrawC.step rfl rfl rfl (Loc.of rfl fun σ' hs => (by exact R_lenm rfl (.no rfl) (hd_sup hs rfl) (.tmp (hs.slots _ _ rfl) fun _ => rfl) (by exact .t) Try.underlying26)) ?_
    refine DrawC.step rfl rfl rfl (Loc.of rfl fun σ' hs => R_mul rfl (.no rfl) (hd_sup hs rfl) (.tmp (hs.slots _ _ rfl) fun _ => rfl) (.tmp (hs.slots _ _ rfl) fun _ => rfl) (fun _ => by omega)) ?_
    refine DrawC.step rfl rfl rfl (Loc.of rfl fun σ' hs => (by exact R_fieldAddr rfl (.no rfl) (hd_sup hs rfl) (.tmp (hs.slots _ _ rfl) fun _ => rfl) fl37_0)) ?_
    refine DrawC.step rfl rfl rfl (Loc.of rfl fun σ' hs => (by exact R_load rfl (.no rfl) (hd_sup hs rfl) (.tmp (hs.slots _ _ rfl) fun _ => rfl) ty3 rfl rfl)) ?_
    refine DrawC.step rfl rfl rfl (Loc.of rfl fun σ' hs => R_add rfl (.no rfl) (hd_sup hs rfl) (.tmp (hs.slots _ _ rfl) fun _ => rfl) (.tmp (hs.slots _ _ rfl) fun _ => rfl) (fun _ => by omega)) ?_
    refine DrawC.step rfl rfl rfl (Loc.of rfl fun σ' hs => R_listz (xs := [.tmp 23]) (rows := [cInt (x * (a.Accept.length : Int) + a.Start)]) rfl rfl (hd_sup hs rfl) (.cons (.tmp (hs.slots _ _ rfl) fun _ => rfl) rfl rfl .nil) Try.underlying22 in3 rfl rfl (rfl)) ?_
    refine DrawC.step rfl rfl rfl (Loc.ofs rfl fun σ' hs hf => R_call 2500 (hsp) rfl rfl (hd_sup hs rfl) (.cons (.tmp (hs.slots _ _ rfl) fun _ => rfl) (readA_sup hs rfl) (.cons (.tmp (hs.slots _ _ rfl) fun _ => rfl) (readA_sup hs rfl) .nil)) rfl (all_fresh hf)) ?_
    refine DrawC.step rfl rfl rfl (Loc.of rfl fun σ' hs => R_assign rfl (.no rfl) (hd_sup hs rfl) (.tmp (hs.slots _ _ rfl) fun _ => rfl)) ?_
    refine DrawC.fin rfl rfl ?_
    refine AWl.nil ?_
    refine AW.ret ?_
    refine Res.one rfl (.tmp rfl .nil) rfl ?_
    rfl
end Go.Proofs.Ytbfejakbaijmhaa
