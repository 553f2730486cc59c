import Derived.Test.YtoealglkenhphaaGreatB21xb
import Derived.Test.YtoealglkenhphaaGreatB05xb
set_option linter.unusedVariables false
set_option linter.unusedSimpArgs false
set_option maxHeartbeats 1000000
set_option maxRecDepth 100000
namespace Go.Q
open Go.D
theorem bfs_congr {nx nx' : Nat → List Int} {N : Nat} (hn : ∀ p, p < N → ∀ k ∈ nx p, 0 ≤ k ∧ k < N) (he : ∀ p, p < N → nx p = nx' p) : ∀ (f : Nat) (out qu : List Int), BfsI N out qu → bfs nx f out qu = bfs nx' f out qu
 | 0, _, _, _ => rfl
 | f + 1, _, [], _ => rfl
 | f + 1, out, q :: r, h => by
  have hq := h.mem q (by simp)
  have hq' : q.toNat < N := by omega
  rw [bfs, bfs, ← he _ hq']
  exact bfs_congr hn he f _ _ (BfsI.relax (N := N) hq (l := nx q.toNat) (st := (out, r)) h.tail (hn _ hq')).1
theorem spread_congr {nx nx' : Nat → List Int} {N : Nat} (hn : ∀ p, p < N → ∀ k ∈ nx p, 0 ≤ k ∧ k < N) (he : ∀ p, p < N → nx p = nx' p) {l : List Int} (hl : ∀ q ∈ l, 0 ≤ q ∧ q < (N : Int)) : spreadOf nx N l = spreadOf nx' N l := bfs_congr hn he _ _ _ (bfs_start hl)
theorem bfs_ok {nx : Nat → List Int} {N : Nat} (hn : ∀ p, p < N → ∀ k ∈ nx p, 0 ≤ k ∧ k < N) : ∀ (f : Nat) (out qu : List Int), BfsI N out qu → BfsI N (bfs nx f out qu) []
 | 0, out, qu, h => ⟨h.len, by simp, h.val⟩
 | f + 1, out, [], h => h
 | f + 1, out, q :: r, h => by
  have hq := h.mem q (by simp)
  rw [bfs]
  exact bfs_ok hn f _ _ (BfsI.relax (N := N) hq (l := nx q.toNat) (st := (out, r)) h.tail (hn q.toNat (by omega))).1
theorem spread_ok {nx : Nat → List Int} {N : Nat} (hn : ∀ p, p < N → ∀ k ∈ nx p, 0 ≤ k ∧ k < N) {l : List Int} (hl : ∀ q ∈ l, 0 ≤ q ∧ q < (N : Int)) : (spreadOf nx N l).length = N ∧ ∀ v ∈ spreadOf nx N l, -1 ≤ v ∧ v ≤ N := by
 have h := bfs_ok hn (2 * N + l.length + 1) _ _ (bfs_start hl)
 exact ⟨h.len, fun v hv => by have := h.val v hv; omega⟩
def sup1 (R : List Int) (i : Nat) (S : List Int) (k : Int) : List Int := if 0 ≤ atI R i ∧ atI R k = atI R i + 1 then S.set k.toNat (atI S k + 1) else S
def supRow (R : List Int) (i : Nat) (S : List Int) (l : List Int) : List Int := l.foldl (sup1 R i) S
theorem supRow_at {R S l : List Int} {i j : Nat} {k : Int} (h : l[j]? = some k) : supRow R i S (l.take (j + 1)) = sup1 R i (supRow R i S (l.take j)) k := by
 unfold supRow
 rw [take_at h, List.foldl_append]; rfl
theorem supRow_neg {R : List Int} {i : Nat} (h : atI R i < 0) : ∀ (l S : List Int), supRow R i S l = S
 | [], _ => rfl
 | k :: l, S => by
  have e : supRow R i S (k :: l) = supRow R i (sup1 R i S k) l := rfl
  rw [e, supRow_neg h l]
  unfold sup1
  rw [if_neg (by omega)]
def supAll (nx : Nat → List Int) (R : List Int) (S : List Int) : Nat → List Int
 | 0 => S
 | n + 1 => supRow R n (supAll nx R S n) (nx n)
structure SupI (N : Nat) (b : Int) (S : List Int) : Prop where
 len : S.length = N
 val : ∀ v ∈ S, 0 ≤ v ∧ v ≤ b
theorem SupI.le {N : Nat} {b b' : Int} {S : List Int} (h : SupI N b S) (hb : b ≤ b') : SupI N b' S := ⟨h.len, fun v hv => by have := h.val v hv; omega⟩
theorem SupI.at {N : Nat} {b : Int} {S : List Int} (h : SupI N b S) {k : Int} (hk : k.toNat < N) : 0 ≤ atI S k ∧ atI S k ≤ b := h.val _ (List.mem_of_getElem? (atI_get (by rw [h.len]; exact hk)))
theorem SupI.one {N : Nat} {b : Int} {R S : List Int} {i : Nat} {k : Int} (h : SupI N b S) (hk : 0 ≤ k ∧ k < N) : SupI N (b + 1) (sup1 R i S k) := by
 unfold sup1
 split
 ·refine ⟨by simpa using h.len, fun v hv => ?_⟩
  rcases List.mem_or_eq_of_mem_set hv with hv | rfl
  ·have := h.val v hv; omega
  ·have := h.at (k := k) (by omega); omega
 ·exact h.le (by omega)
theorem SupI.row {N : Nat} {R : List Int} {i : Nat} : ∀ {l : List Int} {b : Int} {S : List Int}, SupI N b S → (∀ k ∈ l, 0 ≤ k ∧ k < N) → SupI N (b + l.length) (supRow R i S l)
 | [], b, S, h, _ => by simpa [supRow] using h
 | k :: l, b, S, h, hl => by
  have e : supRow R i S (k :: l) = supRow R i (sup1 R i S k) l := rfl
  rw [e]
  exact (SupI.row (h.one (hl k (by simp))) fun k hk => hl k (by simp [hk])).le (by simp; omega)
theorem SupI.all {nx : Nat → List Int} {N c : Nat} {R : List Int} (hn : ∀ p, p < N → ∀ k ∈ nx p, 0 ≤ k ∧ k < N) (hc : ∀ p, p < N → (nx p).length ≤ c) : ∀ {n : Nat}, n ≤ N → SupI N ((n * c : Nat) : Int) (supAll nx R (List.replicate N 0) n)
 | 0, _ => ⟨by simp [supAll], fun v hv => by rw [(List.mem_replicate.1 hv).2]; simp⟩
 | n + 1, h => by
  rw [supAll, Nat.succ_mul]
  refine (SupI.row (SupI.all hn hc (n := n) (by omega)) (hn n (by omega))).le ?_
  have := hc n (by omega)
  omega
def supportsOf (nx : Nat → List Int) (N : Nat) (R : List Int) : List Int := supAll nx R (List.replicate N 0) N
def viewOf (g : TGraph) (a : TAutomaton) (x : Int) : TView := ⟨a, x, ranksOf g a x, supportsOf (nxN g a) (a.Accept.length * g.Values.length) (ranksOf g a x)⟩
theorem nextsV_len (g : TGraph) (a : TAutomaton) : (nextsV g a).length = a.Accept.length * g.Values.length := by unfold nextsV; simp
theorem nextsV_at {g : TGraph} {a : TAutomaton} {p : Nat} (h : p < a.Accept.length * g.Values.length) : nxL (nextsV g a) p = nxN g a p := nxL_at (by unfold nextsV; rw [List.getElem?_map, List.getElem?_range h]; rfl)
theorem nxN_len {g : TGraph} (a : TAutomaton) (hg : validG g = true) (p : Nat) : (nxN g a p).length ≤ 1536 := by
 have hG := validG_len hg
 have h1 : ∀ x, (arcsAt g x).length ≤ 24 := fun x => Nat.le_trans (arcsL_len _ _) (by omega)
 rw [nxN_steps, List.length_map]
 exact Nat.le_trans (steps_len g a _ _) (by have := h1 ((p : Int) / (a.Accept.length : Int)); omega)
theorem prod_le {a : TAutomaton} {g : TGraph} (ha : validA a = true) (hg : validG g = true) : 1 ≤ a.Accept.length * g.Values.length ∧ a.Accept.length * g.Values.length ≤ 60 := by
 have hA := validA_len ha
 have hG := validG_len hg
 exact ⟨Nat.mul_le_mul (show 1 ≤ a.Accept.length by omega) (show 1 ≤ g.Values.length by omega), Nat.mul_le_mul (by omega : a.Accept.length ≤ 12) (by omega : g.Values.length ≤ 5)⟩
theorem ranks_ok {g : TGraph} {a : TAutomaton} (ha : validA a = true) (hg : validG g = true) {x : Int} (hx : 0 ≤ x ∧ x < g.Values.length) : (ranksOf g a x).length = a.Accept.length * g.Values.length ∧ ∀ v ∈ ranksOf g a x, -1 ≤ v ∧ v ≤ 60 := by
 have hs0 := start_ok ha hx
 have h := spread_ok (nx := nxN g a) (N := a.Accept.length * g.Values.length) (fun p hp => nxN_ok ha hg hp) (l := [x * a.Accept.length + a.Start]) (by simpa using hs0)
 have hN := prod_le ha hg
 exact ⟨h.1, fun v hv => by have := h.2 v hv; omega⟩
theorem ranks_nexts {g : TGraph} {a : TAutomaton} (ha : validA a = true) (hg : validG g = true) {x : Int} (hx : 0 ≤ x ∧ x < g.Values.length) : spreadOf (nxL (nextsV g a)) (nextsV g a).length [x * a.Accept.length + a.Start] = ranksOf g a x := by
 have hs0 := start_ok ha hx
 rw [nextsV_len]
 exact spread_congr (fun p hp k hk => nxN_ok ha hg hp k (by rwa [nextsV_at hp] at hk)) (fun p hp => nextsV_at hp) (by simpa using hs0)
theorem good_parts {g : TGraph} {a : TAutomaton} {x : Int} (h : goodB g a x 0 = true) : validG g = true ∧ validA a = true ∧ 0 ≤ x ∧ x < g.Values.length := by
 unfold goodB inB at h
 simp only [Bool.and_eq_true, decide_eq_true_eq] at h
 exact ⟨h.1.1.1, h.1.1.2, h.1.2.1, by omega⟩
theorem both_good (g : TGraph) (a : TAutomaton) (x : Int) : bothB g a [x] = goodB g a x 0 := by
 unfold bothB goodB
 cases hv : validA a with
 | false => simp
 | true =>
  have hA := validA_len hv
  have e : inB 0 0 ((a.Accept.length : Int) - 1) = true := by unfold inB; simp; omega
  rw [e]
  simp only [List.all_cons, List.all_nil, Bool.and_true]
  cases inB x 0 ((g.Values.length : Int) - 1) <;> cases validG g <;> rfl
def zeroV : TView := ⟨⟨0, [], []⟩, 0, [], []⟩
def buildV (g : TGraph) (a : TAutomaton) (x : Int) : TView × Bool := if goodB g a x 0 then (viewOf g a x, true) else (zeroV, false)
end Go.Q
namespace Go.Proofs.YtoealglkenhphaaGreat
open Go.RowKit Go.Q Go.D
theorem specl11CopyZ (a : TAutomaton) (hz : okAutomaton a) : FnT Tryz.prog 100 [.agg (cAutomaton a)] (.a (.agg (cAutomaton a))) := by
 refine FnT.walk Tryz.func100 rfl (by kernel_rfl) Tryz.ntmps100 rfl fun hlen w0 => ?_
 try simp [cEdge, cGraph, cStep, cChange, cBatch, cAutomaton, cProductStep, cView] at hlen
 have hz1 : a.Accept.length ≤ 1048576 := hz.1
 have hz2 : a.Next.length ≤ 1048576 := hz.2.1.1
 refine AW.sr ?_
 refine AWl.put (R_boxz rfl rfl rfl (.tm rfl) (ts := _) (by rfl)) rfl ?_
 refine AWl.add (R_alloc 2 rfl rfl rfl in36 rfl rfl rfl) rfl ?_
 refine AWl.nil ?_
 refine AW.seq ?_
 refine AW.le (σ' := ⟨_, [(0, _), (1, _), (2, _)], [(2, _)]⟩) (Le.sub0 rfl ⟨rfl, rfl, rfl, trivial⟩ ⟨rfl, trivial⟩) ?_
 refine AW.drawK 8 (nthB [[], [0], [], [], [3], [2, 3, 4], [0, 1, 2, 3, 4, 5], []]) [(5, 7)] (by kernel_rfl) (by kernel_rfl) (by kernel_rfl) ?_
 refine DrawK.step (LocK.of rfl fun σ' hs => (by exact R_fieldAddr rfl (.no rfl) (hd_sup hs rfl) (.tm (hs.slots _ _ rfl)) fl36_0)) ?_
 refine DrawK.step (LocK.of rfl fun σ' hs => (by exact R_load rfl (.no rfl) (hd_sup hs rfl) (.tm (hs.slots _ _ rfl)) ty3 rfl rfl)) ?_
 refine DrawK.step (LocK.of1 rfl fun σ' hs hf => R_empty 7 rfl rfl (hd_sup hs rfl) Tryz.underlying26 ty4 hf) ?_
 refine DrawK.step (LocK.of rfl fun σ' hs => (by exact R_fieldAddr rfl (.no rfl) (hd_sup hs rfl) (.tm (hs.slots _ _ rfl)) fl36_1)) ?_
 refine DrawK.step (LocK.of rfl fun σ' hs => (by exact R_load rfl (.no rfl) (hd_sup hs rfl) (.tm (hs.slots _ _ rfl)) ty26 rfl rfl)) ?_
 refine DrawK.step (LocK.ofc rfl rfl fun σ' hs => R_append (id := 7) rfl rfl (hd_sup hs rfl) (.tm (hs.slots _ _ rfl)) (hs.res _ _ rfl) (.tm (hs.slots _ _ rfl)) (by exact .t) (by exact isV_map (fun _ => rfl) _) Tryz.underlying26 in4 rfl (by (simp [chunk]; omega)) (by (unfold maxLen; simp [chunk]; omega))) ?_
 refine DrawK.step (LocK.of rfl fun σ' hs => R_build (ps := [(0, .tmp 6), (1, .tmp 10)]) rfl rfl (hd_sup hs rfl) in36 rfl rfl st36 (.cons (.tm (hs.slots _ _ rfl)) rfl rfl fp36_0 (.cons (.tm (hs.slots _ _ rfl)) rfl rfl fp36_1 .nil)) rfl) ?_
 refine DrawK.step (LocK.of1 rfl fun σ' hs hf => R_alloc 3 rfl rfl (hd_sup hs rfl) in36 rfl rfl hf) ?_
 refine DrawK.fin rfl rfl rfl ?_
 refine AWl.le (σ' := ⟨_, [(0, _), (1, _), (2, _), (3, _), (11, _)], [(2, _), (7, _), (3, _)]⟩) (Le.sub0 rfl ⟨rfl, rfl, rfl, rfl, rfl, trivial⟩ ⟨rfl, rfl, rfl, trivial⟩) ?_
 refine AWl.nilA (i := 11) 20001 1 2 rfl rfl rfl ?_
 refine AWl.chgb (R_store_pb rfl rfl rfl (.tm rfl) (.tm rfl) rfl ty36 rfl rfl rfl (by kernel_rfl) rfl) ?_
 refine AWl.nil ?_
 refine AW.seq ?_
 refine AW.sr ?_
 refine AWl.ac rfl rfl rfl rfl rfl ?_
 refine AWl.nil ?_
 refine AW.block ?_
 refine AW.loop1 (fun (k : Nat) => (k ≤ a.Next.length) ∧ True) (fun (k : Nat) => ⟨_, [(4, (true, .a (.one (.t (.v (.int .i64 (k : Nat))))))), (1, _), (2, _), (3, _)], [(2, .box [.t (.v (.int .i64 0)), .t (.v (.slice none 0 0)), .t (.v (.slice none 0 0))]), (3, .box [.t (.v (.int .i64 a.Start)), .rf 7, .rf 20001]), (7, .row 1 (a.Accept.map cBool)), (20001, .row 1 ((a.Next.take k).map cIntS))]⟩) (fun (k : Nat) => a.Next.length - k) (0) ⟨Nat.zero_le _, trivial⟩ (Le.sub0 rfl ⟨rfl, rfl, rfl, rfl, trivial⟩ ⟨rfl, rfl, rfl, rfl, trivial⟩) ?_
 rintro k ⟨hk, he⟩
 refine AW.seq ?_
 refine AW.sr ?_
 refine AWl.mv rfl rfl rfl rfl rfl ?_
 refine AWl.put (by exact R_fieldAddr rfl (.no rfl) rfl (.tm rfl) fl36_2) rfl ?_
 refine AWl.put (by exact R_load rfl (.no rfl) rfl (.tm rfl) ty27 rfl rfl) rfl ?_
 refine AWl.put (by exact R_lenm rfl (.no rfl) rfl (.tm rfl) (by exact .t) Tryz.underlying27) rfl ?_
 refine AWl.put (R_lt rfl (.no rfl) rfl (.tm rfl) (.tm rfl)) rfl ?_
 refine AWl.nil ?_
 refine AW.cond (.tm rfl) (fun h16 => ?_) (fun h16 => ?_)
 ·skip
  try simp at h16
  obtain ⟨x, hx⟩ : ∃ ξ, a.Next[k]? = some ξ := ⟨_, List.getElem?_eq_getElem (by omega)⟩
  have hx9 : x.length ≤ 1048576 := hz.2.1.2 x (List.mem_of_getElem? hx)
  refine AW.skip ?_
  refine AW.seq ?_
  refine AW.block ?_
  refine AW.dagn 13 56 [[], [0], [2], [3], [5], [0, 1], [0, 2], [0, 3], [0, 5], [2, 3], [2, 5], [3, 4], [3, 5], [0, 1, 2], [0, 1, 3], [0, 1, 5], [0, 2, 3], [0, 2, 5], [0, 3, 4], [0, 3, 5], [2, 3, 4], [2, 3, 5], [3, 4, 5], [0, 1, 2, 3], [0, 1, 2, 5], [0, 1, 3, 4], [0, 1, 3, 5], [0, 2, 3, 4], [0, 2, 3, 5], [0, 3, 4, 5], [2, 3, 4, 5], [3, 4, 5, 6], [0, 1, 2, 3, 4], [0, 1, 2, 3, 5], [0, 1, 3, 4, 5], [0, 2, 3, 4, 5], [0, 3, 4, 5, 6], [2, 3, 4, 5, 6], [3, 4, 5, 6, 7], [0, 1, 2, 3, 4, 5], [0, 1, 3, 4, 5, 6], [0, 2, 3, 4, 5, 6], [0, 3, 4, 5, 6, 7], [2, 3, 4, 5, 6, 7], [0, 1, 2, 3, 4, 5, 6], [0, 1, 3, 4, 5, 6, 7], [0, 2, 3, 4, 5, 6, 7], [2, 3, 4, 5, 6, 7, 8], [0, 1, 2, 3, 4, 5, 6, 7], [0, 2, 3, 4, 5, 6, 7, 8], [2, 3, 4, 5, 6, 7, 8, 9], [0, 1, 2, 3, 4, 5, 6, 7, 8], [0, 2, 3, 4, 5, 6, 7, 8, 9], [0, 1, 2, 3, 4, 5, 6, 7, 8, 9], [0, 1, 2, 3, 4, 5, 6, 7, 8, 9, 10], [0, 1, 2, 3, 4, 5, 6, 7, 8, 9, 10, 11], [0, 1, 2, 3, 4, 5, 6, 7, 8, 9, 10, 11, 12]] [(0, 0, 1), (0, 2, 2), (0, 3, 3), (0, 5, 4), (1, 1, 5), (1, 2, 6), (2, 0, 6), (1, 3, 7), (3, 0, 7), (1, 5, 8), (4, 0, 8), (2, 3, 9), (3, 2, 9), (2, 5, 10), (4, 2, 10), (3, 4, 11), (3, 5, 12), (4, 3, 12), (5, 2, 13), (6, 1, 13), (5, 3, 14), (7, 1, 14), (5, 5, 15), (8, 1, 15), (6, 3, 16), (9, 0, 16), (7, 2, 16), (6, 5, 17), (10, 0, 17), (8, 2, 17), (7, 4, 18), (11, 0, 18), (7, 5, 19), (12, 0, 19), (8, 3, 19), (9, 4, 20), (11, 2, 20), (9, 5, 21), (12, 2, 21), (10, 3, 21), (11, 5, 22), (12, 4, 22), (13, 3, 23), (16, 1, 23), (14, 2, 23), (13, 5, 24), (17, 1, 24), (15, 2, 24), (14, 4, 25), (18, 1, 25), (14, 5, 26), (19, 1, 26), (15, 3, 26), (16, 4, 27), (20, 0, 27), (18, 2, 27), (16, 5, 28), (21, 0, 28), (19, 2, 28), (17, 3, 28), (18, 5, 29), (22, 0, 29), (19, 4, 29), (20, 5, 30), (22, 2, 30), (21, 4, 30), (22, 6, 31), (23, 4, 32), (27, 1, 32), (25, 2, 32), (23, 5, 33), (28, 1, 33), (26, 2, 33), (24, 3, 33), (25, 5, 34), (29, 1, 34), (26, 4, 34), (27, 5, 35), (30, 0, 35), (29, 2, 35), (28, 4, 35), (29, 6, 36), (31, 0, 36), (30, 6, 37), (31, 2, 37), (31, 7, 38), (32, 5, 39), (35, 1, 39), (34, 2, 39), (33, 4, 39), (34, 6, 40), (36, 1, 40), (35, 6, 41), (37, 0, 41), (36, 2, 41), (36, 7, 42), (38, 0, 42), (37, 7, 43), (38, 2, 43), (39, 6, 44), (41, 1, 44), (40, 2, 44), (40, 7, 45), (42, 1, 45), (41, 7, 46), (43, 0, 46), (42, 2, 46), (43, 8, 47), (44, 7, 48), (46, 1, 48), (45, 2, 48), (46, 8, 49), (47, 0, 49), (47, 9, 50), (48, 8, 51), (49, 1, 51), (49, 9, 52), (50, 0, 52), (51, 9, 53), (52, 1, 53), (53, 10, 54), (54, 11, 55), (55, 12, 56)] (by kernel_rfl) (by kernel_rfl) (by kernel_rfl) ?_
  apply Dag.new (i := 0)
  case ha => rfl
  case ho => rfl
  case hb => rfl
  case hE =>
   intro w9
   refine AWl.put (by exact R_fieldAddr_pp rfl (.no rfl) rfl (.tm rfl) fl36_2) rfl ?_
   refine AWl.nil ?_
   exact Le.sub0 (σ' := ⟨_, [(1, _), (2, _), (3, _), (4, _), (16, _), (19, _)], [(2, _), (3, _), (7, _), (20001, _)]⟩) rfl ⟨rfl, rfl, rfl, rfl, rfl, rfl, trivial⟩ ⟨rfl, rfl, rfl, rfl, trivial⟩
  apply Dag.new (i := 2)
  case ha => rfl
  case ho => rfl
  case hb => rfl
  case hE =>
   intro w9
   refine AWl.add (R_empty 21 rfl rfl rfl Tryz.underlying22 ty3 rfl) rfl ?_
   refine AWl.nil ?_
   exact Le.sub0 (σ' := ⟨_, [(1, _), (2, _), (3, _), (4, _), (16, _), (21, _)], [(2, _), (3, _), (7, _), (20001, _), (21, _)]⟩) rfl ⟨rfl, rfl, rfl, rfl, rfl, rfl, trivial⟩ ⟨rfl, rfl, rfl, rfl, rfl, trivial⟩
  apply Dag.new (i := 3)
  case ha => rfl
  case ho => rfl
  case hb => rfl
  case hE =>
   intro w9
   refine AWl.put (by exact R_fieldAddr rfl (.no rfl) rfl (.tm rfl) fl36_2) rfl ?_
   refine AWl.nil ?_
   exact Le.sub0 (σ' := ⟨_, [(1, _), (2, _), (3, _), (4, _), (16, _), (22, _)], [(2, _), (3, _), (7, _), (20001, _)]⟩) rfl ⟨rfl, rfl, rfl, rfl, rfl, rfl, trivial⟩ ⟨rfl, rfl, rfl, rfl, trivial⟩
  apply Dag.new (i := 5)
  case ha => rfl
  case ho => rfl
  case hb => rfl
  case hE =>
   intro w9
   refine AWl.mv rfl rfl rfl rfl rfl ?_
   refine AWl.nil ?_
   exact Le.sub0 (σ' := ⟨_, [(1, _), (2, _), (3, _), (4, _), (16, _), (24, _)], [(2, _), (3, _), (7, _), (20001, _)]⟩) rfl ⟨rfl, rfl, rfl, rfl, rfl, rfl, trivial⟩ ⟨rfl, rfl, rfl, rfl, trivial⟩
  apply Dag.new (i := 1)
  case ha => rfl
  case ho => rfl
  case hb => rfl
  case hE =>
   intro w9
   refine AWl.put (by exact R_load_pp rfl (.no rfl) rfl (.tm rfl) rfl ty27 rfl rfl) rfl ?_
   refine AWl.nil ?_
   exact Le.sub0 (σ' := ⟨_, [(1, _), (2, _), (3, _), (4, _), (16, _), (20, _)], [(2, _), (3, _), (7, _), (20001, _)]⟩) rfl ⟨rfl, rfl, rfl, rfl, rfl, rfl, trivial⟩ ⟨rfl, rfl, rfl, rfl, trivial⟩
  apply Dag.new (i := 2)
  case ha => rfl
  case ho => rfl
  case hb => rfl
  case hE =>
   intro w9
   refine AWl.add (R_empty 21 rfl rfl rfl Tryz.underlying22 ty3 rfl) rfl ?_
   refine AWl.nil ?_
   exact Le.sub0 (σ' := ⟨_, [(1, _), (2, _), (3, _), (4, _), (16, _), (19, _), (21, _)], [(2, _), (3, _), (7, _), (20001, _), (21, _)]⟩) rfl ⟨rfl, rfl, rfl, rfl, rfl, rfl, rfl, trivial⟩ ⟨rfl, rfl, rfl, rfl, rfl, trivial⟩
  apply Dag.old (i := 0)
  case ha => rfl
  case ho => rfl
  case hb => rfl
  case hE =>
   intro w9
   refine AWl.put (by exact R_fieldAddr_pp rfl (.no rfl) rfl (.tm rfl) fl36_2) rfl ?_
   refine AWl.nil ?_
   exact Le.sub0 rfl ⟨rfl, rfl, rfl, rfl, rfl, rfl, rfl, trivial⟩ ⟨rfl, rfl, rfl, rfl, rfl, trivial⟩
  apply Dag.new (i := 3)
  case ha => rfl
  case ho => rfl
  case hb => rfl
  case hE =>
   intro w9
   refine AWl.put (by exact R_fieldAddr rfl (.no rfl) rfl (.tm rfl) fl36_2) rfl ?_
   refine AWl.nil ?_
   exact Le.sub0 (σ' := ⟨_, [(1, _), (2, _), (3, _), (4, _), (16, _), (19, _), (22, _)], [(2, _), (3, _), (7, _), (20001, _)]⟩) rfl ⟨rfl, rfl, rfl, rfl, rfl, rfl, rfl, trivial⟩ ⟨rfl, rfl, rfl, rfl, trivial⟩
  apply Dag.old (i := 0)
  case ha => rfl
  case ho => rfl
  case hb => rfl
  case hE =>
   intro w9
   refine AWl.put (by exact R_fieldAddr_pp rfl (.no rfl) rfl (.tm rfl) fl36_2) rfl ?_
   refine AWl.nil ?_
   exact Le.sub0 rfl ⟨rfl, rfl, rfl, rfl, rfl, rfl, rfl, trivial⟩ ⟨rfl, rfl, rfl, rfl, trivial⟩
  apply Dag.new (i := 5)
  case ha => rfl
  case ho => rfl
  case hb => rfl
  case hE =>
   intro w9
   refine AWl.mv rfl rfl rfl rfl rfl ?_
   refine AWl.nil ?_
   exact Le.sub0 (σ' := ⟨_, [(1, _), (2, _), (3, _), (4, _), (16, _), (19, _), (24, _)], [(2, _), (3, _), (7, _), (20001, _)]⟩) rfl ⟨rfl, rfl, rfl, rfl, rfl, rfl, rfl, trivial⟩ ⟨rfl, rfl, rfl, rfl, trivial⟩
  apply Dag.old (i := 0)
  case ha => rfl
  case ho => rfl
  case hb => rfl
  case hE =>
   intro w9
   refine AWl.put (by exact R_fieldAddr_pp rfl (.no rfl) rfl (.tm rfl) fl36_2) rfl ?_
   refine AWl.nil ?_
   exact Le.sub0 rfl ⟨rfl, rfl, rfl, rfl, rfl, rfl, rfl, trivial⟩ ⟨rfl, rfl, rfl, rfl, trivial⟩
  apply Dag.new (i := 3)
  case ha => rfl
  case ho => rfl
  case hb => rfl
  case hE =>
   intro w9
   refine AWl.put (by exact R_fieldAddr rfl (.no rfl) rfl (.tm rfl) fl36_2) rfl ?_
   refine AWl.nil ?_
   exact Le.sub0 (σ' := ⟨_, [(1, _), (2, _), (3, _), (4, _), (16, _), (21, _), (22, _)], [(2, _), (3, _), (7, _), (20001, _), (21, _)]⟩) rfl ⟨rfl, rfl, rfl, rfl, rfl, rfl, rfl, trivial⟩ ⟨rfl, rfl, rfl, rfl, rfl, trivial⟩
  apply Dag.old (i := 2)
  case ha => rfl
  case ho => rfl
  case hb => rfl
  case hE =>
   intro w9
   refine AWl.add (R_empty 21 rfl rfl rfl Tryz.underlying22 ty3 rfl) rfl ?_
   refine AWl.nil ?_
   exact Le.sub0 rfl ⟨rfl, rfl, rfl, rfl, rfl, rfl, rfl, trivial⟩ ⟨rfl, rfl, rfl, rfl, rfl, trivial⟩
  apply Dag.new (i := 5)
  case ha => rfl
  case ho => rfl
  case hb => rfl
  case hE =>
   intro w9
   refine AWl.mv rfl rfl rfl rfl rfl ?_
   refine AWl.nil ?_
   exact Le.sub0 (σ' := ⟨_, [(1, _), (2, _), (3, _), (4, _), (16, _), (21, _), (24, _)], [(2, _), (3, _), (7, _), (20001, _), (21, _)]⟩) rfl ⟨rfl, rfl, rfl, rfl, rfl, rfl, rfl, trivial⟩ ⟨rfl, rfl, rfl, rfl, rfl, trivial⟩
  apply Dag.old (i := 2)
  case ha => rfl
  case ho => rfl
  case hb => rfl
  case hE =>
   intro w9
   refine AWl.add (R_empty 21 rfl rfl rfl Tryz.underlying22 ty3 rfl) rfl ?_
   refine AWl.nil ?_
   exact Le.sub0 rfl ⟨rfl, rfl, rfl, rfl, rfl, rfl, rfl, trivial⟩ ⟨rfl, rfl, rfl, rfl, rfl, trivial⟩
  apply Dag.new (i := 4)
  case ha => rfl
  case ho => rfl
  case hb => rfl
  case hE =>
   intro w9
   refine AWl.put (by exact R_load rfl (.no rfl) rfl (.tm rfl) ty27 rfl rfl) rfl ?_
   refine AWl.nil ?_
   exact Le.sub0 (σ' := ⟨_, [(1, _), (2, _), (3, _), (4, _), (16, _), (23, _)], [(2, _), (3, _), (7, _), (20001, _)]⟩) rfl ⟨rfl, rfl, rfl, rfl, rfl, rfl, trivial⟩ ⟨rfl, rfl, rfl, rfl, trivial⟩
  apply Dag.new (i := 5)
  case ha => rfl
  case ho => rfl
  case hb => rfl
  case hE =>
   intro w9
   refine AWl.mv rfl rfl rfl rfl rfl ?_
   refine AWl.nil ?_
   exact Le.sub0 (σ' := ⟨_, [(1, _), (2, _), (3, _), (4, _), (16, _), (22, _), (24, _)], [(2, _), (3, _), (7, _), (20001, _)]⟩) rfl ⟨rfl, rfl, rfl, rfl, rfl, rfl, rfl, trivial⟩ ⟨rfl, rfl, rfl, rfl, trivial⟩
  apply Dag.old (i := 3)
  case ha => rfl
  case ho => rfl
  case hb => rfl
  case hE =>
   intro w9
   refine AWl.put (by exact R_fieldAddr rfl (.no rfl) rfl (.tm rfl) fl36_2) rfl ?_
   refine AWl.nil ?_
   exact Le.sub0 rfl ⟨rfl, rfl, rfl, rfl, rfl, rfl, rfl, trivial⟩ ⟨rfl, rfl, rfl, rfl, trivial⟩
  apply Dag.new (i := 2)
  case ha => rfl
  case ho => rfl
  case hb => rfl
  case hE =>
   intro w9
   refine AWl.add (R_empty 21 rfl rfl rfl Tryz.underlying22 ty3 rfl) rfl ?_
   refine AWl.nil ?_
   exact Le.sub0 (σ' := ⟨_, [(1, _), (2, _), (3, _), (4, _), (16, _), (20, _), (21, _)], [(2, _), (3, _), (7, _), (20001, _), (21, _)]⟩) rfl ⟨rfl, rfl, rfl, rfl, rfl, rfl, rfl, trivial⟩ ⟨rfl, rfl, rfl, rfl, rfl, trivial⟩
  apply Dag.old (i := 1)
  case ha => rfl
  case ho => rfl
  case hb => rfl
  case hE =>
   intro w9
   refine AWl.put (by exact R_load_pp rfl (.no rfl) rfl (.tm rfl) rfl ty27 rfl rfl) rfl ?_
   refine AWl.nil ?_
   exact Le.sub0 rfl ⟨rfl, rfl, rfl, rfl, rfl, rfl, rfl, trivial⟩ ⟨rfl, rfl, rfl, rfl, rfl, trivial⟩
  apply Dag.new (i := 3)
  case ha => rfl
  case ho => rfl
  case hb => rfl
  case hE =>
   intro w9
   refine AWl.put (by exact R_fieldAddr rfl (.no rfl) rfl (.tm rfl) fl36_2) rfl ?_
   refine AWl.nil ?_
   exact Le.sub0 (σ' := ⟨_, [(1, _), (2, _), (3, _), (4, _), (16, _), (20, _), (22, _)], [(2, _), (3, _), (7, _), (20001, _)]⟩) rfl ⟨rfl, rfl, rfl, rfl, rfl, rfl, rfl, trivial⟩ ⟨rfl, rfl, rfl, rfl, trivial⟩
  apply Dag.old (i := 1)
  case ha => rfl
  case ho => rfl
  case hb => rfl
  case hE =>
   intro w9
   refine AWl.put (by exact R_load_pp rfl (.no rfl) rfl (.tm rfl) rfl ty27 rfl rfl) rfl ?_
   refine AWl.nil ?_
   exact Le.sub0 rfl ⟨rfl, rfl, rfl, rfl, rfl, rfl, rfl, trivial⟩ ⟨rfl, rfl, rfl, rfl, trivial⟩
  apply Dag.new (i := 5)
  case ha => rfl
  case ho => rfl
  case hb => rfl
  case hE =>
   intro w9
   refine AWl.mv rfl rfl rfl rfl rfl ?_
   refine AWl.nil ?_
   exact Le.sub0 (σ' := ⟨_, [(1, _), (2, _), (3, _), (4, _), (16, _), (20, _), (24, _)], [(2, _), (3, _), (7, _), (20001, _)]⟩) rfl ⟨rfl, rfl, rfl, rfl, rfl, rfl, rfl, trivial⟩ ⟨rfl, rfl, rfl, rfl, trivial⟩
  apply Dag.old (i := 1)
  case ha => rfl
  case ho => rfl
  case hb => rfl
  case hE =>
   intro w9
   refine AWl.put (by exact R_load_pp rfl (.no rfl) rfl (.tm rfl) rfl ty27 rfl rfl) rfl ?_
   refine AWl.nil ?_
   exact Le.sub0 rfl ⟨rfl, rfl, rfl, rfl, rfl, rfl, rfl, trivial⟩ ⟨rfl, rfl, rfl, rfl, trivial⟩
  apply Dag.new (i := 3)
  case ha => rfl
  case ho => rfl
  case hb => rfl
  case hE =>
   intro w9
   refine AWl.put (by exact R_fieldAddr rfl (.no rfl) rfl (.tm rfl) fl36_2) rfl ?_
   refine AWl.nil ?_
   exact Le.sub0 (σ' := ⟨_, [(1, _), (2, _), (3, _), (4, _), (16, _), (19, _), (21, _), (22, _)], [(2, _), (3, _), (7, _), (20001, _), (21, _)]⟩) rfl ⟨rfl, rfl, rfl, rfl, rfl, rfl, rfl, rfl, trivial⟩ ⟨rfl, rfl, rfl, rfl, rfl, trivial⟩
  apply Dag.old (i := 0)
  case ha => rfl
  case ho => rfl
  case hb => rfl
  case hE =>
   intro w9
   refine AWl.put (by exact R_fieldAddr_pp rfl (.no rfl) rfl (.tm rfl) fl36_2) rfl ?_
   refine AWl.nil ?_
   exact Le.sub0 rfl ⟨rfl, rfl, rfl, rfl, rfl, rfl, rfl, rfl, trivial⟩ ⟨rfl, rfl, rfl, rfl, rfl, trivial⟩
  apply Dag.old (i := 2)
  case ha => rfl
  case ho => rfl
  case hb => rfl
  case hE =>
   intro w9
   refine AWl.add (R_empty 21 rfl rfl rfl Tryz.underlying22 ty3 rfl) rfl ?_
   refine AWl.nil ?_
   exact Le.sub0 rfl ⟨rfl, rfl, rfl, rfl, rfl, rfl, rfl, rfl, trivial⟩ ⟨rfl, rfl, rfl, rfl, rfl, trivial⟩
  apply Dag.new (i := 5)
  case ha => rfl
  case ho => rfl
  case hb => rfl
  case hE =>
   intro w9
   refine AWl.mv rfl rfl rfl rfl rfl ?_
   refine AWl.nil ?_
   exact Le.sub0 (σ' := ⟨_, [(1, _), (2, _), (3, _), (4, _), (16, _), (19, _), (21, _), (24, _)], [(2, _), (3, _), (7, _), (20001, _), (21, _)]⟩) rfl ⟨rfl, rfl, rfl, rfl, rfl, rfl, rfl, rfl, trivial⟩ ⟨rfl, rfl, rfl, rfl, rfl, trivial⟩
  apply Dag.old (i := 0)
  case ha => rfl
  case ho => rfl
  case hb => rfl
  case hE =>
   intro w9
   refine AWl.put (by exact R_fieldAddr_pp rfl (.no rfl) rfl (.tm rfl) fl36_2) rfl ?_
   refine AWl.nil ?_
   exact Le.sub0 rfl ⟨rfl, rfl, rfl, rfl, rfl, rfl, rfl, rfl, trivial⟩ ⟨rfl, rfl, rfl, rfl, rfl, trivial⟩
  apply Dag.old (i := 2)
  case ha => rfl
  case ho => rfl
  case hb => rfl
  case hE =>
   intro w9
   refine AWl.add (R_empty 21 rfl rfl rfl Tryz.underlying22 ty3 rfl) rfl ?_
   refine AWl.nil ?_
   exact Le.sub0 rfl ⟨rfl, rfl, rfl, rfl, rfl, rfl, rfl, rfl, trivial⟩ ⟨rfl, rfl, rfl, rfl, rfl, trivial⟩
  apply Dag.new (i := 4)
  case ha => rfl
  case ho => rfl
  case hb => rfl
  case hE =>
   intro w9
   refine AWl.put (by exact R_load rfl (.no rfl) rfl (.tm rfl) ty27 rfl rfl) rfl ?_
   refine AWl.nil ?_
   exact Le.sub0 (σ' := ⟨_, [(1, _), (2, _), (3, _), (4, _), (16, _), (19, _), (23, _)], [(2, _), (3, _), (7, _), (20001, _)]⟩) rfl ⟨rfl, rfl, rfl, rfl, rfl, rfl, rfl, trivial⟩ ⟨rfl, rfl, rfl, rfl, trivial⟩
  apply Dag.old (i := 0)
  case ha => rfl
  case ho => rfl
  case hb => rfl
  case hE =>
   intro w9
   refine AWl.put (by exact R_fieldAddr_pp rfl (.no rfl) rfl (.tm rfl) fl36_2) rfl ?_
   refine AWl.nil ?_
   exact Le.sub0 rfl ⟨rfl, rfl, rfl, rfl, rfl, rfl, rfl, trivial⟩ ⟨rfl, rfl, rfl, rfl, trivial⟩
  apply Dag.new (i := 5)
  case ha => rfl
  case ho => rfl
  case hb => rfl
  case hE =>
   intro w9
   refine AWl.mv rfl rfl rfl rfl rfl ?_
   refine AWl.nil ?_
   exact Le.sub0 (σ' := ⟨_, [(1, _), (2, _), (3, _), (4, _), (16, _), (19, _), (22, _), (24, _)], [(2, _), (3, _), (7, _), (20001, _)]⟩) rfl ⟨rfl, rfl, rfl, rfl, rfl, rfl, rfl, rfl, trivial⟩ ⟨rfl, rfl, rfl, rfl, trivial⟩
  apply Dag.old (i := 0)
  case ha => rfl
  case ho => rfl
  case hb => rfl
  case hE =>
   intro w9
   refine AWl.put (by exact R_fieldAddr_pp rfl (.no rfl) rfl (.tm rfl) fl36_2) rfl ?_
   refine AWl.nil ?_
   exact Le.sub0 rfl ⟨rfl, rfl, rfl, rfl, rfl, rfl, rfl, rfl, trivial⟩ ⟨rfl, rfl, rfl, rfl, trivial⟩
  apply Dag.old (i := 3)
  case ha => rfl
  case ho => rfl
  case hb => rfl
  case hE =>
   intro w9
   refine AWl.put (by exact R_fieldAddr rfl (.no rfl) rfl (.tm rfl) fl36_2) rfl ?_
   refine AWl.nil ?_
   exact Le.sub0 rfl ⟨rfl, rfl, rfl, rfl, rfl, rfl, rfl, rfl, trivial⟩ ⟨rfl, rfl, rfl, rfl, trivial⟩
  apply Dag.new (i := 4)
  case ha => rfl
  case ho => rfl
  case hb => rfl
  case hE =>
   intro w9
   refine AWl.put (by exact R_load rfl (.no rfl) rfl (.tm rfl) ty27 rfl rfl) rfl ?_
   refine AWl.nil ?_
   exact Le.sub0 (σ' := ⟨_, [(1, _), (2, _), (3, _), (4, _), (16, _), (21, _), (23, _)], [(2, _), (3, _), (7, _), (20001, _), (21, _)]⟩) rfl ⟨rfl, rfl, rfl, rfl, rfl, rfl, rfl, trivial⟩ ⟨rfl, rfl, rfl, rfl, rfl, trivial⟩
  apply Dag.old (i := 2)
  case ha => rfl
  case ho => rfl
  case hb => rfl
  case hE =>
   intro w9
   refine AWl.add (R_empty 21 rfl rfl rfl Tryz.underlying22 ty3 rfl) rfl ?_
   refine AWl.nil ?_
   exact Le.sub0 rfl ⟨rfl, rfl, rfl, rfl, rfl, rfl, rfl, trivial⟩ ⟨rfl, rfl, rfl, rfl, rfl, trivial⟩
  apply Dag.new (i := 5)
  case ha => rfl
  case ho => rfl
  case hb => rfl
  case hE =>
   intro w9
   refine AWl.mv rfl rfl rfl rfl rfl ?_
   refine AWl.nil ?_
   exact Le.sub0 (σ' := ⟨_, [(1, _), (2, _), (3, _), (4, _), (16, _), (21, _), (22, _), (24, _)], [(2, _), (3, _), (7, _), (20001, _), (21, _)]⟩) rfl ⟨rfl, rfl, rfl, rfl, rfl, rfl, rfl, rfl, trivial⟩ ⟨rfl, rfl, rfl, rfl, rfl, trivial⟩
  apply Dag.old (i := 2)
  case ha => rfl
  case ho => rfl
  case hb => rfl
  case hE =>
   intro w9
   refine AWl.add (R_empty 21 rfl rfl rfl Tryz.underlying22 ty3 rfl) rfl ?_
   refine AWl.nil ?_
   exact Le.sub0 rfl ⟨rfl, rfl, rfl, rfl, rfl, rfl, rfl, rfl, trivial⟩ ⟨rfl, rfl, rfl, rfl, rfl, trivial⟩
  apply Dag.old (i := 3)
  case ha => rfl
  case ho => rfl
  case hb => rfl
  case hE =>
   intro w9
   refine AWl.put (by exact R_fieldAddr rfl (.no rfl) rfl (.tm rfl) fl36_2) rfl ?_
   refine AWl.nil ?_
   exact Le.sub0 rfl ⟨rfl, rfl, rfl, rfl, rfl, rfl, rfl, rfl, trivial⟩ ⟨rfl, rfl, rfl, rfl, rfl, trivial⟩
  apply Dag.new (i := 5)
  case ha => rfl
  case ho => rfl
  case hb => rfl
  case hE =>
   intro w9
   refine AWl.mv rfl rfl rfl rfl rfl ?_
   refine AWl.nil ?_
   exact Le.sub0 (σ' := ⟨_, [(1, _), (2, _), (3, _), (4, _), (16, _), (23, _), (24, _)], [(2, _), (3, _), (7, _), (20001, _)]⟩) rfl ⟨rfl, rfl, rfl, rfl, rfl, rfl, rfl, trivial⟩ ⟨rfl, rfl, rfl, rfl, trivial⟩
  apply Dag.old (i := 4)
  case ha => rfl
  case ho => rfl
  case hb => rfl
  case hE =>
   intro w9
   refine AWl.put (by exact R_load rfl (.no rfl) rfl (.tm rfl) ty27 rfl rfl) rfl ?_
   refine AWl.nil ?_
   exact Le.sub0 rfl ⟨rfl, rfl, rfl, rfl, rfl, rfl, rfl, trivial⟩ ⟨rfl, rfl, rfl, rfl, trivial⟩
  apply Dag.new (i := 3)
  case ha => rfl
  case ho => rfl
  case hb => rfl
  case hE =>
   intro w9
   refine AWl.put (by exact R_fieldAddr rfl (.no rfl) rfl (.tm rfl) fl36_2) rfl ?_
   refine AWl.nil ?_
   exact Le.sub0 (σ' := ⟨_, [(1, _), (2, _), (3, _), (4, _), (16, _), (20, _), (21, _), (22, _)], [(2, _), (3, _), (7, _), (20001, _), (21, _)]⟩) rfl ⟨rfl, rfl, rfl, rfl, rfl, rfl, rfl, rfl, trivial⟩ ⟨rfl, rfl, rfl, rfl, rfl, trivial⟩
  apply Dag.old (i := 1)
  case ha => rfl
  case ho => rfl
  case hb => rfl
  case hE =>
   intro w9
   refine AWl.put (by exact R_load_pp rfl (.no rfl) rfl (.tm rfl) rfl ty27 rfl rfl) rfl ?_
   refine AWl.nil ?_
   exact Le.sub0 rfl ⟨rfl, rfl, rfl, rfl, rfl, rfl, rfl, rfl, trivial⟩ ⟨rfl, rfl, rfl, rfl, rfl, trivial⟩
  apply Dag.old (i := 2)
  case ha => rfl
  case ho => rfl
  case hb => rfl
  case hE =>
   intro w9
   refine AWl.add (R_empty 21 rfl rfl rfl Tryz.underlying22 ty3 rfl) rfl ?_
   refine AWl.nil ?_
   exact Le.sub0 rfl ⟨rfl, rfl, rfl, rfl, rfl, rfl, rfl, rfl, trivial⟩ ⟨rfl, rfl, rfl, rfl, rfl, trivial⟩
  apply Dag.new (i := 5)
  case ha => rfl
  case ho => rfl
  case hb => rfl
  case hE =>
   intro w9
   refine AWl.mv rfl rfl rfl rfl rfl ?_
   refine AWl.nil ?_
   exact Le.sub0 (σ' := ⟨_, [(1, _), (2, _), (3, _), (4, _), (16, _), (20, _), (21, _), (24, _)], [(2, _), (3, _), (7, _), (20001, _), (21, _)]⟩) rfl ⟨rfl, rfl, rfl, rfl, rfl, rfl, rfl, rfl, trivial⟩ ⟨rfl, rfl, rfl, rfl, rfl, trivial⟩
  apply Dag.old (i := 1)
  case ha => rfl
  case ho => rfl
  case hb => rfl
  case hE =>
   intro w9
   refine AWl.put (by exact R_load_pp rfl (.no rfl) rfl (.tm rfl) rfl ty27 rfl rfl) rfl ?_
   refine AWl.nil ?_
   exact Le.sub0 rfl ⟨rfl, rfl, rfl, rfl, rfl, rfl, rfl, rfl, trivial⟩ ⟨rfl, rfl, rfl, rfl, rfl, trivial⟩
  apply Dag.old (i := 2)
  case ha => rfl
  case ho => rfl
  case hb => rfl
  case hE =>
   intro w9
   refine AWl.add (R_empty 21 rfl rfl rfl Tryz.underlying22 ty3 rfl) rfl ?_
   refine AWl.nil ?_
   exact Le.sub0 rfl ⟨rfl, rfl, rfl, rfl, rfl, rfl, rfl, rfl, trivial⟩ ⟨rfl, rfl, rfl, rfl, rfl, trivial⟩
  apply Dag.new (i := 4)
  case ha => rfl
  case ho => rfl
  case hb => rfl
  case hE =>
   intro w9
   refine AWl.put (by exact R_load rfl (.no rfl) rfl (.tm rfl) ty27 rfl rfl) rfl ?_
   refine AWl.nil ?_
   exact Le.sub0 (σ' := ⟨_, [(1, _), (2, _), (3, _), (4, _), (16, _), (20, _), (23, _)], [(2, _), (3, _), (7, _), (20001, _)]⟩) rfl ⟨rfl, rfl, rfl, rfl, rfl, rfl, rfl, trivial⟩ ⟨rfl, rfl, rfl, rfl, trivial⟩
  apply Dag.old (i := 1)
  case ha => rfl
  case ho => rfl
  case hb => rfl
  case hE =>
   intro w9
   refine AWl.put (by exact R_load_pp rfl (.no rfl) rfl (.tm rfl) rfl ty27 rfl rfl) rfl ?_
   refine AWl.nil ?_
   exact Le.sub0 rfl ⟨rfl, rfl, rfl, rfl, rfl, rfl, rfl, trivial⟩ ⟨rfl, rfl, rfl, rfl, trivial⟩
  apply Dag.new (i := 5)
  case ha => rfl
  case ho => rfl
  case hb => rfl
  case hE =>
   intro w9
   refine AWl.mv rfl rfl rfl rfl rfl ?_
   refine AWl.nil ?_
   exact Le.sub0 (σ' := ⟨_, [(1, _), (2, _), (3, _), (4, _), (16, _), (20, _), (22, _), (24, _)], [(2, _), (3, _), (7, _), (20001, _)]⟩) rfl ⟨rfl, rfl, rfl, rfl, rfl, rfl, rfl, rfl, trivial⟩ ⟨rfl, rfl, rfl, rfl, trivial⟩
  apply Dag.old (i := 1)
  case ha => rfl
  case ho => rfl
  case hb => rfl
  case hE =>
   intro w9
   refine AWl.put (by exact R_load_pp rfl (.no rfl) rfl (.tm rfl) rfl ty27 rfl rfl) rfl ?_
   refine AWl.nil ?_
   exact Le.sub0 rfl ⟨rfl, rfl, rfl, rfl, rfl, rfl, rfl, rfl, trivial⟩ ⟨rfl, rfl, rfl, rfl, trivial⟩
  apply Dag.old (i := 3)
  case ha => rfl
  case ho => rfl
  case hb => rfl
  case hE =>
   intro w9
   refine AWl.put (by exact R_fieldAddr rfl (.no rfl) rfl (.tm rfl) fl36_2) rfl ?_
   refine AWl.nil ?_
   exact Le.sub0 rfl ⟨rfl, rfl, rfl, rfl, rfl, rfl, rfl, rfl, trivial⟩ ⟨rfl, rfl, rfl, rfl, trivial⟩
  apply Dag.new (i := 4)
  case ha => rfl
  case ho => rfl
  case hb => rfl
  case hE =>
   intro w9
   refine AWl.put (by exact R_load rfl (.no rfl) rfl (.tm rfl) ty27 rfl rfl) rfl ?_
   refine AWl.nil ?_
   exact Le.sub0 (σ' := ⟨_, [(1, _), (2, _), (3, _), (4, _), (16, _), (19, _), (21, _), (23, _)], [(2, _), (3, _), (7, _), (20001, _), (21, _)]⟩) rfl ⟨rfl, rfl, rfl, rfl, rfl, rfl, rfl, rfl, trivial⟩ ⟨rfl, rfl, rfl, rfl, rfl, trivial⟩
  apply Dag.old (i := 0)
  case ha => rfl
  case ho => rfl
  case hb => rfl
  case hE =>
   intro w9
   refine AWl.put (by exact R_fieldAddr_pp rfl (.no rfl) rfl (.tm rfl) fl36_2) rfl ?_
   refine AWl.nil ?_
   exact Le.sub0 rfl ⟨rfl, rfl, rfl, rfl, rfl, rfl, rfl, rfl, trivial⟩ ⟨rfl, rfl, rfl, rfl, rfl, trivial⟩
  apply Dag.old (i := 2)
  case ha => rfl
  case ho => rfl
  case hb => rfl
  case hE =>
   intro w9
   refine AWl.add (R_empty 21 rfl rfl rfl Tryz.underlying22 ty3 rfl) rfl ?_
   refine AWl.nil ?_
   exact Le.sub0 rfl ⟨rfl, rfl, rfl, rfl, rfl, rfl, rfl, rfl, trivial⟩ ⟨rfl, rfl, rfl, rfl, rfl, trivial⟩
  apply Dag.new (i := 5)
  case ha => rfl
  case ho => rfl
  case hb => rfl
  case hE =>
   intro w9
   refine AWl.mv rfl rfl rfl rfl rfl ?_
   refine AWl.nil ?_
   exact Le.sub0 (σ' := ⟨_, [(1, _), (2, _), (3, _), (4, _), (16, _), (19, _), (21, _), (22, _), (24, _)], [(2, _), (3, _), (7, _), (20001, _), (21, _)]⟩) rfl ⟨rfl, rfl, rfl, rfl, rfl, rfl, rfl, rfl, rfl, trivial⟩ ⟨rfl, rfl, rfl, rfl, rfl, trivial⟩
  apply Dag.old (i := 0)
  case ha => rfl
  case ho => rfl
  case hb => rfl
  case hE =>
   intro w9
   refine AWl.put (by exact R_fieldAddr_pp rfl (.no rfl) rfl (.tm rfl) fl36_2) rfl ?_
   refine AWl.nil ?_
   exact Le.sub0 rfl ⟨rfl, rfl, rfl, rfl, rfl, rfl, rfl, rfl, rfl, trivial⟩ ⟨rfl, rfl, rfl, rfl, rfl, trivial⟩
  apply Dag.old (i := 2)
  case ha => rfl
  case ho => rfl
  case hb => rfl
  case hE =>
   intro w9
   refine AWl.add (R_empty 21 rfl rfl rfl Tryz.underlying22 ty3 rfl) rfl ?_
   refine AWl.nil ?_
   exact Le.sub0 rfl ⟨rfl, rfl, rfl, rfl, rfl, rfl, rfl, rfl, rfl, trivial⟩ ⟨rfl, rfl, rfl, rfl, rfl, trivial⟩
  apply Dag.old (i := 3)
  case ha => rfl
  case ho => rfl
  case hb => rfl
  case hE =>
   intro w9
   refine AWl.put (by exact R_fieldAddr rfl (.no rfl) rfl (.tm rfl) fl36_2) rfl ?_
   refine AWl.nil ?_
   exact Le.sub0 rfl ⟨rfl, rfl, rfl, rfl, rfl, rfl, rfl, rfl, rfl, trivial⟩ ⟨rfl, rfl, rfl, rfl, rfl, trivial⟩
  apply Dag.new (i := 5)
  case ha => rfl
  case ho => rfl
  case hb => rfl
  case hE =>
   intro w9
   refine AWl.mv rfl rfl rfl rfl rfl ?_
   refine AWl.nil ?_
   exact Le.sub0 (σ' := ⟨_, [(1, _), (2, _), (3, _), (4, _), (16, _), (19, _), (23, _), (24, _)], [(2, _), (3, _), (7, _), (20001, _)]⟩) rfl ⟨rfl, rfl, rfl, rfl, rfl, rfl, rfl, rfl, trivial⟩ ⟨rfl, rfl, rfl, rfl, trivial⟩
  apply Dag.old (i := 0)
  case ha => rfl
  case ho => rfl
  case hb => rfl
  case hE =>
   intro w9
   refine AWl.put (by exact R_fieldAddr_pp rfl (.no rfl) rfl (.tm rfl) fl36_2) rfl ?_
   refine AWl.nil ?_
   exact Le.sub0 rfl ⟨rfl, rfl, rfl, rfl, rfl, rfl, rfl, rfl, trivial⟩ ⟨rfl, rfl, rfl, rfl, trivial⟩
  apply Dag.old (i := 4)
  case ha => rfl
  case ho => rfl
  case hb => rfl
  case hE =>
   intro w9
   refine AWl.put (by exact R_load rfl (.no rfl) rfl (.tm rfl) ty27 rfl rfl) rfl ?_
   refine AWl.nil ?_
   exact Le.sub0 rfl ⟨rfl, rfl, rfl, rfl, rfl, rfl, rfl, rfl, trivial⟩ ⟨rfl, rfl, rfl, rfl, trivial⟩
  apply Dag.new (i := 5)
  case ha => rfl
  case ho => rfl
  case hb => rfl
  case hE =>
   intro w9
   refine AWl.mv rfl rfl rfl rfl rfl ?_
   refine AWl.nil ?_
   exact Le.sub0 (σ' := ⟨_, [(1, _), (2, _), (3, _), (4, _), (16, _), (21, _), (23, _), (24, _)], [(2, _), (3, _), (7, _), (20001, _), (21, _)]⟩) rfl ⟨rfl, rfl, rfl, rfl, rfl, rfl, rfl, rfl, trivial⟩ ⟨rfl, rfl, rfl, rfl, rfl, trivial⟩
  apply Dag.old (i := 2)
  case ha => rfl
  case ho => rfl
  case hb => rfl
  case hE =>
   intro w9
   refine AWl.add (R_empty 21 rfl rfl rfl Tryz.underlying22 ty3 rfl) rfl ?_
   refine AWl.nil ?_
   exact Le.sub0 rfl ⟨rfl, rfl, rfl, rfl, rfl, rfl, rfl, rfl, trivial⟩ ⟨rfl, rfl, rfl, rfl, rfl, trivial⟩
  apply Dag.old (i := 4)
  case ha => rfl
  case ho => rfl
  case hb => rfl
  case hE =>
   intro w9
   refine AWl.put (by exact R_load rfl (.no rfl) rfl (.tm rfl) ty27 rfl rfl) rfl ?_
   refine AWl.nil ?_
   exact Le.sub0 rfl ⟨rfl, rfl, rfl, rfl, rfl, rfl, rfl, rfl, trivial⟩ ⟨rfl, rfl, rfl, rfl, rfl, trivial⟩
  apply Dag.new (i := 6)
  case ha => rfl
  case ho => rfl
  case hb => rfl
  case hE =>
   intro w9
   refine AWl.put (by exact R_indexAddr rfl (.no rfl) rfl (.tm rfl) (.tm rfl) Tryz.underlying27 ty22 (fun _ => ⟨by omega, (map_get hx)⟩)) rfl ?_
   refine AWl.nil ?_
   exact Le.sub0 (σ' := ⟨_, [(1, _), (2, _), (3, _), (4, _), (16, _), (25, _)], [(2, _), (3, _), (7, _), (20001, _)]⟩) rfl ⟨rfl, rfl, rfl, rfl, rfl, rfl, trivial⟩ ⟨rfl, rfl, rfl, rfl, trivial⟩
  apply Dag.new (i := 4)
  case ha => rfl
  case ho => rfl
  case hb => rfl
  case hE =>
   intro w9
   refine AWl.put (by exact R_load rfl (.no rfl) rfl (.tm rfl) ty27 rfl rfl) rfl ?_
   refine AWl.nil ?_
   exact Le.sub0 (σ' := ⟨_, [(1, _), (2, _), (3, _), (4, _), (16, _), (20, _), (21, _), (23, _)], [(2, _), (3, _), (7, _), (20001, _), (21, _)]⟩) rfl ⟨rfl, rfl, rfl, rfl, rfl, rfl, rfl, rfl, trivial⟩ ⟨rfl, rfl, rfl, rfl, rfl, trivial⟩
  apply Dag.old (i := 1)
  case ha => rfl
  case ho => rfl
  case hb => rfl
  case hE =>
   intro w9
   refine AWl.put (by exact R_load_pp rfl (.no rfl) rfl (.tm rfl) rfl ty27 rfl rfl) rfl ?_
   refine AWl.nil ?_
   exact Le.sub0 rfl ⟨rfl, rfl, rfl, rfl, rfl, rfl, rfl, rfl, trivial⟩ ⟨rfl, rfl, rfl, rfl, rfl, trivial⟩
  apply Dag.old (i := 2)
  case ha => rfl
  case ho => rfl
  case hb => rfl
  case hE =>
   intro w9
   refine AWl.add (R_empty 21 rfl rfl rfl Tryz.underlying22 ty3 rfl) rfl ?_
   refine AWl.nil ?_
   exact Le.sub0 rfl ⟨rfl, rfl, rfl, rfl, rfl, rfl, rfl, rfl, trivial⟩ ⟨rfl, rfl, rfl, rfl, rfl, trivial⟩
  apply Dag.new (i := 5)
  case ha => rfl
  case ho => rfl
  case hb => rfl
  case hE =>
   intro w9
   refine AWl.mv rfl rfl rfl rfl rfl ?_
   refine AWl.nil ?_
   exact Le.sub0 (σ' := ⟨_, [(1, _), (2, _), (3, _), (4, _), (16, _), (20, _), (21, _), (22, _), (24, _)], [(2, _), (3, _), (7, _), (20001, _), (21, _)]⟩) rfl ⟨rfl, rfl, rfl, rfl, rfl, rfl, rfl, rfl, rfl, trivial⟩ ⟨rfl, rfl, rfl, rfl, rfl, trivial⟩
  apply Dag.old (i := 1)
  case ha => rfl
  case ho => rfl
  case hb => rfl
  case hE =>
   intro w9
   refine AWl.put (by exact R_load_pp rfl (.no rfl) rfl (.tm rfl) rfl ty27 rfl rfl) rfl ?_
   refine AWl.nil ?_
   exact Le.sub0 rfl ⟨rfl, rfl, rfl, rfl, rfl, rfl, rfl, rfl, rfl, trivial⟩ ⟨rfl, rfl, rfl, rfl, rfl, trivial⟩
  apply Dag.old (i := 2)
  case ha => rfl
  case ho => rfl
  case hb => rfl
  case hE =>
   intro w9
   refine AWl.add (R_empty 21 rfl rfl rfl Tryz.underlying22 ty3 rfl) rfl ?_
   refine AWl.nil ?_
   exact Le.sub0 rfl ⟨rfl, rfl, rfl, rfl, rfl, rfl, rfl, rfl, rfl, trivial⟩ ⟨rfl, rfl, rfl, rfl, rfl, trivial⟩
  apply Dag.old (i := 3)
  case ha => rfl
  case ho => rfl
  case hb => rfl
  case hE =>
   intro w9
   refine AWl.put (by exact R_fieldAddr rfl (.no rfl) rfl (.tm rfl) fl36_2) rfl ?_
   refine AWl.nil ?_
   exact Le.sub0 rfl ⟨rfl, rfl, rfl, rfl, rfl, rfl, rfl, rfl, rfl, trivial⟩ ⟨rfl, rfl, rfl, rfl, rfl, trivial⟩
  apply Dag.new (i := 5)
  case ha => rfl
  case ho => rfl
  case hb => rfl
  case hE =>
   intro w9
   refine AWl.mv rfl rfl rfl rfl rfl ?_
   refine AWl.nil ?_
   exact Le.sub0 (σ' := ⟨_, [(1, _), (2, _), (3, _), (4, _), (16, _), (20, _), (23, _), (24, _)], [(2, _), (3, _), (7, _), (20001, _)]⟩) rfl ⟨rfl, rfl, rfl, rfl, rfl, rfl, rfl, rfl, trivial⟩ ⟨rfl, rfl, rfl, rfl, trivial⟩
  apply Dag.old (i := 1)
  case ha => rfl
  case ho => rfl
  case hb => rfl
  case hE =>
   intro w9
   refine AWl.put (by exact R_load_pp rfl (.no rfl) rfl (.tm rfl) rfl ty27 rfl rfl) rfl ?_
   refine AWl.nil ?_
   exact Le.sub0 rfl ⟨rfl, rfl, rfl, rfl, rfl, rfl, rfl, rfl, trivial⟩ ⟨rfl, rfl, rfl, rfl, trivial⟩
  apply Dag.old (i := 4)
  case ha => rfl
  case ho => rfl
  case hb => rfl
  case hE =>
   intro w9
   refine AWl.put (by exact R_load rfl (.no rfl) rfl (.tm rfl) ty27 rfl rfl) rfl ?_
   refine AWl.nil ?_
   exact Le.sub0 rfl ⟨rfl, rfl, rfl, rfl, rfl, rfl, rfl, rfl, trivial⟩ ⟨rfl, rfl, rfl, rfl, trivial⟩
  apply Dag.new (i := 5)
  case ha => rfl
  case ho => rfl
  case hb => rfl
  case hE =>
   intro w9
   refine AWl.mv rfl rfl rfl rfl rfl ?_
   refine AWl.nil ?_
   exact Le.sub0 (σ' := ⟨_, [(1, _), (2, _), (3, _), (4, _), (16, _), (19, _), (21, _), (23, _), (24, _)], [(2, _), (3, _), (7, _), (20001, _), (21, _)]⟩) rfl ⟨rfl, rfl, rfl, rfl, rfl, rfl, rfl, rfl, rfl, trivial⟩ ⟨rfl, rfl, rfl, rfl, rfl, trivial⟩
  apply Dag.old (i := 0)
  case ha => rfl
  case ho => rfl
  case hb => rfl
  case hE =>
   intro w9
   refine AWl.put (by exact R_fieldAddr_pp rfl (.no rfl) rfl (.tm rfl) fl36_2) rfl ?_
   refine AWl.nil ?_
   exact Le.sub0 rfl ⟨rfl, rfl, rfl, rfl, rfl, rfl, rfl, rfl, rfl, trivial⟩ ⟨rfl, rfl, rfl, rfl, rfl, trivial⟩
  apply Dag.old (i := 2)
  case ha => rfl
  case ho => rfl
  case hb => rfl
  case hE =>
   intro w9
   refine AWl.add (R_empty 21 rfl rfl rfl Tryz.underlying22 ty3 rfl) rfl ?_
   refine AWl.nil ?_
   exact Le.sub0 rfl ⟨rfl, rfl, rfl, rfl, rfl, rfl, rfl, rfl, rfl, trivial⟩ ⟨rfl, rfl, rfl, rfl, rfl, trivial⟩
  apply Dag.old (i := 4)
  case ha => rfl
  case ho => rfl
  case hb => rfl
  case hE =>
   intro w9
   refine AWl.put (by exact R_load rfl (.no rfl) rfl (.tm rfl) ty27 rfl rfl) rfl ?_
   refine AWl.nil ?_
   exact Le.sub0 rfl ⟨rfl, rfl, rfl, rfl, rfl, rfl, rfl, rfl, rfl, trivial⟩ ⟨rfl, rfl, rfl, rfl, rfl, trivial⟩
  apply Dag.new (i := 6)
  case ha => rfl
  case ho => rfl
  case hb => rfl
  case hE =>
   intro w9
   refine AWl.put (by exact R_indexAddr rfl (.no rfl) rfl (.tm rfl) (.tm rfl) Tryz.underlying27 ty22 (fun _ => ⟨by omega, (map_get hx)⟩)) rfl ?_
   refine AWl.nil ?_
   exact Le.sub0 (σ' := ⟨_, [(1, _), (2, _), (3, _), (4, _), (16, _), (19, _), (25, _)], [(2, _), (3, _), (7, _), (20001, _)]⟩) rfl ⟨rfl, rfl, rfl, rfl, rfl, rfl, rfl, trivial⟩ ⟨rfl, rfl, rfl, rfl, trivial⟩
  apply Dag.old (i := 0)
  case ha => rfl
  case ho => rfl
  case hb => rfl
  case hE =>
   intro w9
   refine AWl.put (by exact R_fieldAddr_pp rfl (.no rfl) rfl (.tm rfl) fl36_2) rfl ?_
   refine AWl.nil ?_
   exact Le.sub0 rfl ⟨rfl, rfl, rfl, rfl, rfl, rfl, rfl, trivial⟩ ⟨rfl, rfl, rfl, rfl, trivial⟩
  apply Dag.new (i := 6)
  case ha => rfl
  case ho => rfl
  case hb => rfl
  case hE =>
   intro w9
   refine AWl.put (by exact R_indexAddr rfl (.no rfl) rfl (.tm rfl) (.tm rfl) Tryz.underlying27 ty22 (fun _ => ⟨by omega, (map_get hx)⟩)) rfl ?_
   refine AWl.nil ?_
   exact Le.sub0 (σ' := ⟨_, [(1, _), (2, _), (3, _), (4, _), (16, _), (21, _), (25, _)], [(2, _), (3, _), (7, _), (20001, _), (21, _)]⟩) rfl ⟨rfl, rfl, rfl, rfl, rfl, rfl, rfl, trivial⟩ ⟨rfl, rfl, rfl, rfl, rfl, trivial⟩
  apply Dag.old (i := 2)
  case ha => rfl
  case ho => rfl
  case hb => rfl
  case hE =>
   intro w9
   refine AWl.add (R_empty 21 rfl rfl rfl Tryz.underlying22 ty3 rfl) rfl ?_
   refine AWl.nil ?_
   exact Le.sub0 rfl ⟨rfl, rfl, rfl, rfl, rfl, rfl, rfl, trivial⟩ ⟨rfl, rfl, rfl, rfl, rfl, trivial⟩
  apply Dag.new (i := 7)
  case ha => rfl
  case ho => rfl
  case hb => rfl
  case hE =>
   intro w9
   refine AWl.put (by exact R_load rfl (.no rfl) rfl (.tm rfl) ty22 rfl rfl) rfl ?_
   refine AWl.nil ?_
   exact Le.sub0 (σ' := ⟨_, [(1, _), (2, _), (3, _), (4, _), (16, _), (26, _)], [(2, _), (3, _), (7, _), (20001, _)]⟩) rfl ⟨rfl, rfl, rfl, rfl, rfl, rfl, trivial⟩ ⟨rfl, rfl, rfl, rfl, trivial⟩
  apply Dag.new (i := 5)
  case ha => rfl
  case ho => rfl
  case hb => rfl
  case hE =>
   intro w9
   refine AWl.mv rfl rfl rfl rfl rfl ?_
   refine AWl.nil ?_
   exact Le.sub0 (σ' := ⟨_, [(1, _), (2, _), (3, _), (4, _), (16, _), (20, _), (21, _), (23, _), (24, _)], [(2, _), (3, _), (7, _), (20001, _), (21, _)]⟩) rfl ⟨rfl, rfl, rfl, rfl, rfl, rfl, rfl, rfl, rfl, trivial⟩ ⟨rfl, rfl, rfl, rfl, rfl, trivial⟩
  apply Dag.old (i := 1)
  case ha => rfl
  case ho => rfl
  case hb => rfl
  case hE =>
   intro w9
   refine AWl.put (by exact R_load_pp rfl (.no rfl) rfl (.tm rfl) rfl ty27 rfl rfl) rfl ?_
   refine AWl.nil ?_
   exact Le.sub0 rfl ⟨rfl, rfl, rfl, rfl, rfl, rfl, rfl, rfl, rfl, trivial⟩ ⟨rfl, rfl, rfl, rfl, rfl, trivial⟩
  apply Dag.old (i := 2)
  case ha => rfl
  case ho => rfl
  case hb => rfl
  case hE =>
   intro w9
   refine AWl.add (R_empty 21 rfl rfl rfl Tryz.underlying22 ty3 rfl) rfl ?_
   refine AWl.nil ?_
   exact Le.sub0 rfl ⟨rfl, rfl, rfl, rfl, rfl, rfl, rfl, rfl, rfl, trivial⟩ ⟨rfl, rfl, rfl, rfl, rfl, trivial⟩
  apply Dag.old (i := 4)
  case ha => rfl
  case ho => rfl
  case hb => rfl
  case hE =>
   intro w9
   refine AWl.put (by exact R_load rfl (.no rfl) rfl (.tm rfl) ty27 rfl rfl) rfl ?_
   refine AWl.nil ?_
   exact Le.sub0 rfl ⟨rfl, rfl, rfl, rfl, rfl, rfl, rfl, rfl, rfl, trivial⟩ ⟨rfl, rfl, rfl, rfl, rfl, trivial⟩
  apply Dag.new (i := 6)
  case ha => rfl
  case ho => rfl
  case hb => rfl
  case hE =>
   intro w9
   refine AWl.put (by exact R_indexAddr rfl (.no rfl) rfl (.tm rfl) (.tm rfl) Tryz.underlying27 ty22 (fun _ => ⟨by omega, (map_get hx)⟩)) rfl ?_
   refine AWl.nil ?_
   exact Le.sub0 (σ' := ⟨_, [(1, _), (2, _), (3, _), (4, _), (16, _), (20, _), (25, _)], [(2, _), (3, _), (7, _), (20001, _)]⟩) rfl ⟨rfl, rfl, rfl, rfl, rfl, rfl, rfl, trivial⟩ ⟨rfl, rfl, rfl, rfl, trivial⟩
  apply Dag.old (i := 1)
  case ha => rfl
  case ho => rfl
  case hb => rfl
  case hE =>
   intro w9
   refine AWl.put (by exact R_load_pp rfl (.no rfl) rfl (.tm rfl) rfl ty27 rfl rfl) rfl ?_
   refine AWl.nil ?_
   exact Le.sub0 rfl ⟨rfl, rfl, rfl, rfl, rfl, rfl, rfl, trivial⟩ ⟨rfl, rfl, rfl, rfl, trivial⟩
  apply Dag.new (i := 6)
  case ha => rfl
  case ho => rfl
  case hb => rfl
  case hE =>
   intro w9
   refine AWl.put (by exact R_indexAddr rfl (.no rfl) rfl (.tm rfl) (.tm rfl) Tryz.underlying27 ty22 (fun _ => ⟨by omega, (map_get hx)⟩)) rfl ?_
   refine AWl.nil ?_
   exact Le.sub0 (σ' := ⟨_, [(1, _), (2, _), (3, _), (4, _), (16, _), (19, _), (21, _), (25, _)], [(2, _), (3, _), (7, _), (20001, _), (21, _)]⟩) rfl ⟨rfl, rfl, rfl, rfl, rfl, rfl, rfl, rfl, trivial⟩ ⟨rfl, rfl, rfl, rfl, rfl, trivial⟩
  apply Dag.old (i := 0)
  case ha => rfl
  case ho => rfl
  case hb => rfl
  case hE =>
   intro w9
   refine AWl.put (by exact R_fieldAddr_pp rfl (.no rfl) rfl (.tm rfl) fl36_2) rfl ?_
   refine AWl.nil ?_
   exact Le.sub0 rfl ⟨rfl, rfl, rfl, rfl, rfl, rfl, rfl, rfl, trivial⟩ ⟨rfl, rfl, rfl, rfl, rfl, trivial⟩
  apply Dag.old (i := 2)
  case ha => rfl
  case ho => rfl
  case hb => rfl
  case hE =>
   intro w9
   refine AWl.add (R_empty 21 rfl rfl rfl Tryz.underlying22 ty3 rfl) rfl ?_
   refine AWl.nil ?_
   exact Le.sub0 rfl ⟨rfl, rfl, rfl, rfl, rfl, rfl, rfl, rfl, trivial⟩ ⟨rfl, rfl, rfl, rfl, rfl, trivial⟩
  apply Dag.new (i := 7)
  case ha => rfl
  case ho => rfl
  case hb => rfl
  case hE =>
   intro w9
   refine AWl.put (by exact R_load rfl (.no rfl) rfl (.tm rfl) ty22 rfl rfl) rfl ?_
   refine AWl.nil ?_
   exact Le.sub0 (σ' := ⟨_, [(1, _), (2, _), (3, _), (4, _), (16, _), (19, _), (26, _)], [(2, _), (3, _), (7, _), (20001, _)]⟩) rfl ⟨rfl, rfl, rfl, rfl, rfl, rfl, rfl, trivial⟩ ⟨rfl, rfl, rfl, rfl, trivial⟩
  apply Dag.old (i := 0)
  case ha => rfl
  case ho => rfl
  case hb => rfl
  case hE =>
   intro w9
   refine AWl.put (by exact R_fieldAddr_pp rfl (.no rfl) rfl (.tm rfl) fl36_2) rfl ?_
   refine AWl.nil ?_
   exact Le.sub0 rfl ⟨rfl, rfl, rfl, rfl, rfl, rfl, rfl, trivial⟩ ⟨rfl, rfl, rfl, rfl, trivial⟩
  apply Dag.new (i := 7)
  case ha => rfl
  case ho => rfl
  case hb => rfl
  case hE =>
   intro w9
   refine AWl.put (by exact R_load rfl (.no rfl) rfl (.tm rfl) ty22 rfl rfl) rfl ?_
   refine AWl.nil ?_
   exact Le.sub0 (σ' := ⟨_, [(1, _), (2, _), (3, _), (4, _), (16, _), (21, _), (26, _)], [(2, _), (3, _), (7, _), (20001, _), (21, _)]⟩) rfl ⟨rfl, rfl, rfl, rfl, rfl, rfl, rfl, trivial⟩ ⟨rfl, rfl, rfl, rfl, rfl, trivial⟩
  apply Dag.old (i := 2)
  case ha => rfl
  case ho => rfl
  case hb => rfl
  case hE =>
   intro w9
   refine AWl.add (R_empty 21 rfl rfl rfl Tryz.underlying22 ty3 rfl) rfl ?_
   refine AWl.nil ?_
   exact Le.sub0 rfl ⟨rfl, rfl, rfl, rfl, rfl, rfl, rfl, trivial⟩ ⟨rfl, rfl, rfl, rfl, rfl, trivial⟩
  apply Dag.new (i := 6)
  case ha => rfl
  case ho => rfl
  case hb => rfl
  case hE =>
   intro w9
   refine AWl.put (by exact R_indexAddr rfl (.no rfl) rfl (.tm rfl) (.tm rfl) Tryz.underlying27 ty22 (fun _ => ⟨by omega, (map_get hx)⟩)) rfl ?_
   refine AWl.nil ?_
   exact Le.sub0 (σ' := ⟨_, [(1, _), (2, _), (3, _), (4, _), (16, _), (20, _), (21, _), (25, _)], [(2, _), (3, _), (7, _), (20001, _), (21, _)]⟩) rfl ⟨rfl, rfl, rfl, rfl, rfl, rfl, rfl, rfl, trivial⟩ ⟨rfl, rfl, rfl, rfl, rfl, trivial⟩
  apply Dag.old (i := 1)
  case ha => rfl
  case ho => rfl
  case hb => rfl
  case hE =>
   intro w9
   refine AWl.put (by exact R_load_pp rfl (.no rfl) rfl (.tm rfl) rfl ty27 rfl rfl) rfl ?_
   refine AWl.nil ?_
   exact Le.sub0 rfl ⟨rfl, rfl, rfl, rfl, rfl, rfl, rfl, rfl, trivial⟩ ⟨rfl, rfl, rfl, rfl, rfl, trivial⟩
  apply Dag.old (i := 2)
  case ha => rfl
  case ho => rfl
  case hb => rfl
  case hE =>
   intro w9
   refine AWl.add (R_empty 21 rfl rfl rfl Tryz.underlying22 ty3 rfl) rfl ?_
   refine AWl.nil ?_
   exact Le.sub0 rfl ⟨rfl, rfl, rfl, rfl, rfl, rfl, rfl, rfl, trivial⟩ ⟨rfl, rfl, rfl, rfl, rfl, trivial⟩
  apply Dag.new (i := 7)
  case ha => rfl
  case ho => rfl
  case hb => rfl
  case hE =>
   intro w9
   refine AWl.put (by exact R_load rfl (.no rfl) rfl (.tm rfl) ty22 rfl rfl) rfl ?_
   refine AWl.nil ?_
   exact Le.sub0 (σ' := ⟨_, [(1, _), (2, _), (3, _), (4, _), (16, _), (20, _), (26, _)], [(2, _), (3, _), (7, _), (20001, _)]⟩) rfl ⟨rfl, rfl, rfl, rfl, rfl, rfl, rfl, trivial⟩ ⟨rfl, rfl, rfl, rfl, trivial⟩
  apply Dag.old (i := 1)
  case ha => rfl
  case ho => rfl
  case hb => rfl
  case hE =>
   intro w9
   refine AWl.put (by exact R_load_pp rfl (.no rfl) rfl (.tm rfl) rfl ty27 rfl rfl) rfl ?_
   refine AWl.nil ?_
   exact Le.sub0 rfl ⟨rfl, rfl, rfl, rfl, rfl, rfl, rfl, trivial⟩ ⟨rfl, rfl, rfl, rfl, trivial⟩
  apply Dag.new (i := 7)
  case ha => rfl
  case ho => rfl
  case hb => rfl
  case hE =>
   intro w9
   refine AWl.put (by exact R_load rfl (.no rfl) rfl (.tm rfl) ty22 rfl rfl) rfl ?_
   refine AWl.nil ?_
   exact Le.sub0 (σ' := ⟨_, [(1, _), (2, _), (3, _), (4, _), (16, _), (19, _), (21, _), (26, _)], [(2, _), (3, _), (7, _), (20001, _), (21, _)]⟩) rfl ⟨rfl, rfl, rfl, rfl, rfl, rfl, rfl, rfl, trivial⟩ ⟨rfl, rfl, rfl, rfl, rfl, trivial⟩
  apply Dag.old (i := 0)
  case ha => rfl
  case ho => rfl
  case hb => rfl
  case hE =>
   intro w9
   refine AWl.put (by exact R_fieldAddr_pp rfl (.no rfl) rfl (.tm rfl) fl36_2) rfl ?_
   refine AWl.nil ?_
   exact Le.sub0 rfl ⟨rfl, rfl, rfl, rfl, rfl, rfl, rfl, rfl, trivial⟩ ⟨rfl, rfl, rfl, rfl, rfl, trivial⟩
  apply Dag.old (i := 2)
  case ha => rfl
  case ho => rfl
  case hb => rfl
  case hE =>
   intro w9
   refine AWl.add (R_empty 21 rfl rfl rfl Tryz.underlying22 ty3 rfl) rfl ?_
   refine AWl.nil ?_
   exact Le.sub0 rfl ⟨rfl, rfl, rfl, rfl, rfl, rfl, rfl, rfl, trivial⟩ ⟨rfl, rfl, rfl, rfl, rfl, trivial⟩
  apply Dag.new (i := 8)
  case ha => rfl
  case ho => rfl
  case hb => rfl
  case hE =>
   intro w9
   refine AWl.chgput (R_append rfl rfl rfl (.tm rfl) rfl (.tm rfl) (by exact .t) (by exact isV_map (fun _ => rfl) _) Tryz.underlying22 in3 rfl (by (simp [chunk]; omega)) (by (unfold maxLen; simp [chunk]; omega))) rfl ?_
   refine AWl.nil ?_
   exact Le.sub0 (σ' := ⟨_, [(1, _), (2, _), (3, _), (4, _), (16, _), (27, _)], [(2, _), (3, _), (7, _), (20001, _), (21, _)]⟩) rfl ⟨rfl, rfl, rfl, rfl, rfl, rfl, trivial⟩ ⟨rfl, rfl, rfl, rfl, rfl, trivial⟩
  apply Dag.new (i := 7)
  case ha => rfl
  case ho => rfl
  case hb => rfl
  case hE =>
   intro w9
   refine AWl.put (by exact R_load rfl (.no rfl) rfl (.tm rfl) ty22 rfl rfl) rfl ?_
   refine AWl.nil ?_
   exact Le.sub0 (σ' := ⟨_, [(1, _), (2, _), (3, _), (4, _), (16, _), (20, _), (21, _), (26, _)], [(2, _), (3, _), (7, _), (20001, _), (21, _)]⟩) rfl ⟨rfl, rfl, rfl, rfl, rfl, rfl, rfl, rfl, trivial⟩ ⟨rfl, rfl, rfl, rfl, rfl, trivial⟩
  apply Dag.old (i := 1)
  case ha => rfl
  case ho => rfl
  case hb => rfl
  case hE =>
   intro w9
   refine AWl.put (by exact R_load_pp rfl (.no rfl) rfl (.tm rfl) rfl ty27 rfl rfl) rfl ?_
   refine AWl.nil ?_
   exact Le.sub0 rfl ⟨rfl, rfl, rfl, rfl, rfl, rfl, rfl, rfl, trivial⟩ ⟨rfl, rfl, rfl, rfl, rfl, trivial⟩
  apply Dag.old (i := 2)
  case ha => rfl
  case ho => rfl
  case hb => rfl
  case hE =>
   intro w9
   refine AWl.add (R_empty 21 rfl rfl rfl Tryz.underlying22 ty3 rfl) rfl ?_
   refine AWl.nil ?_
   exact Le.sub0 rfl ⟨rfl, rfl, rfl, rfl, rfl, rfl, rfl, rfl, trivial⟩ ⟨rfl, rfl, rfl, rfl, rfl, trivial⟩
  apply Dag.new (i := 8)
  case ha => rfl
  case ho => rfl
  case hb => rfl
  case hE =>
   intro w9
   refine AWl.chgput (R_append rfl rfl rfl (.tm rfl) rfl (.tm rfl) (by exact .t) (by exact isV_map (fun _ => rfl) _) Tryz.underlying22 in3 rfl (by (simp [chunk]; omega)) (by (unfold maxLen; simp [chunk]; omega))) rfl ?_
   refine AWl.nil ?_
   exact Le.sub0 (σ' := ⟨_, [(1, _), (2, _), (3, _), (4, _), (16, _), (19, _), (27, _)], [(2, _), (3, _), (7, _), (20001, _), (21, _)]⟩) rfl ⟨rfl, rfl, rfl, rfl, rfl, rfl, rfl, trivial⟩ ⟨rfl, rfl, rfl, rfl, rfl, trivial⟩
  apply Dag.old (i := 0)
  case ha => rfl
  case ho => rfl
  case hb => rfl
  case hE =>
   intro w9
   refine AWl.put (by exact R_fieldAddr_pp rfl (.no rfl) rfl (.tm rfl) fl36_2) rfl ?_
   refine AWl.nil ?_
   exact Le.sub0 rfl ⟨rfl, rfl, rfl, rfl, rfl, rfl, rfl, trivial⟩ ⟨rfl, rfl, rfl, rfl, rfl, trivial⟩
  apply Dag.new (i := 9)
  case ha => rfl
  case ho => rfl
  case hb => rfl
  case hE =>
   intro w9
   refine AWl.absadd (R_list (xs := [.tmp 27]) 28 rfl rfl rfl (.cons (.tm rfl) rfl rfl .nil) Tryz.underlying27 in22 rfl rfl rfl rfl) rfl ?_
   refine AWl.nil ?_
   exact Le.sub0 (σ' := ⟨_, [(1, _), (2, _), (3, _), (4, _), (16, _), (28, _)], [(2, _), (3, _), (7, _), (20001, _), (28, _)]⟩) rfl ⟨rfl, rfl, rfl, rfl, rfl, rfl, trivial⟩ ⟨rfl, rfl, rfl, rfl, rfl, trivial⟩
  apply Dag.new (i := 8)
  case ha => rfl
  case ho => rfl
  case hb => rfl
  case hE =>
   intro w9
   refine AWl.chgput (R_append rfl rfl rfl (.tm rfl) rfl (.tm rfl) (by exact .t) (by exact isV_map (fun _ => rfl) _) Tryz.underlying22 in3 rfl (by (simp [chunk]; omega)) (by (unfold maxLen; simp [chunk]; omega))) rfl ?_
   refine AWl.nil ?_
   exact Le.sub0 (σ' := ⟨_, [(1, _), (2, _), (3, _), (4, _), (16, _), (20, _), (27, _)], [(2, _), (3, _), (7, _), (20001, _), (21, _)]⟩) rfl ⟨rfl, rfl, rfl, rfl, rfl, rfl, rfl, trivial⟩ ⟨rfl, rfl, rfl, rfl, rfl, trivial⟩
  apply Dag.old (i := 1)
  case ha => rfl
  case ho => rfl
  case hb => rfl
  case hE =>
   intro w9
   refine AWl.put (by exact R_load_pp rfl (.no rfl) rfl (.tm rfl) rfl ty27 rfl rfl) rfl ?_
   refine AWl.nil ?_
   exact Le.sub0 rfl ⟨rfl, rfl, rfl, rfl, rfl, rfl, rfl, trivial⟩ ⟨rfl, rfl, rfl, rfl, rfl, trivial⟩
  apply Dag.new (i := 9)
  case ha => rfl
  case ho => rfl
  case hb => rfl
  case hE =>
   intro w9
   refine AWl.absadd (R_list (xs := [.tmp 27]) 28 rfl rfl rfl (.cons (.tm rfl) rfl rfl .nil) Tryz.underlying27 in22 rfl rfl rfl rfl) rfl ?_
   refine AWl.nil ?_
   exact Le.sub0 (σ' := ⟨_, [(1, _), (2, _), (3, _), (4, _), (16, _), (19, _), (28, _)], [(2, _), (3, _), (7, _), (20001, _), (28, _)]⟩) rfl ⟨rfl, rfl, rfl, rfl, rfl, rfl, rfl, trivial⟩ ⟨rfl, rfl, rfl, rfl, rfl, trivial⟩
  apply Dag.old (i := 0)
  case ha => rfl
  case ho => rfl
  case hb => rfl
  case hE =>
   intro w9
   refine AWl.put (by exact R_fieldAddr_pp rfl (.no rfl) rfl (.tm rfl) fl36_2) rfl ?_
   refine AWl.nil ?_
   exact Le.sub0 rfl ⟨rfl, rfl, rfl, rfl, rfl, rfl, rfl, trivial⟩ ⟨rfl, rfl, rfl, rfl, rfl, trivial⟩
  apply Dag.new (i := 9)
  case ha => rfl
  case ho => rfl
  case hb => rfl
  case hE =>
   intro w9
   refine AWl.absadd (R_list (xs := [.tmp 27]) 28 rfl rfl rfl (.cons (.tm rfl) rfl rfl .nil) Tryz.underlying27 in22 rfl rfl rfl rfl) rfl ?_
   refine AWl.nil ?_
   exact Le.sub0 (σ' := ⟨_, [(1, _), (2, _), (3, _), (4, _), (16, _), (20, _), (28, _)], [(2, _), (3, _), (7, _), (20001, _), (28, _)]⟩) rfl ⟨rfl, rfl, rfl, rfl, rfl, rfl, rfl, trivial⟩ ⟨rfl, rfl, rfl, rfl, rfl, trivial⟩
  apply Dag.old (i := 1)
  case ha => rfl
  case ho => rfl
  case hb => rfl
  case hE =>
   intro w9
   refine AWl.put (by exact R_load_pp rfl (.no rfl) rfl (.tm rfl) rfl ty27 rfl rfl) rfl ?_
   refine AWl.nil ?_
   exact Le.sub0 rfl ⟨rfl, rfl, rfl, rfl, rfl, rfl, rfl, trivial⟩ ⟨rfl, rfl, rfl, rfl, rfl, trivial⟩
  apply Dag.new (i := 10)
  case ha => rfl
  case ho => rfl
  case hb => rfl
  case hE =>
   intro w9
   refine AWl.abschgput (R_append_own rfl rfl rfl (.tm rfl) rfl (.tm rfl) rfl rfl Tryz.underlying27 in22 rfl (by (simp [chunk]; omega)) (by (unfold maxLen; simp [chunk]; omega))) rfl ?_
   refine AWl.nil ?_
   exact Le.sub0 (σ' := ⟨_, [(1, _), (2, _), (3, _), (4, _), (16, _), (29, _)], [(2, _), (3, _), (7, _), (20001, _)]⟩) rfl ⟨rfl, rfl, rfl, rfl, rfl, rfl, trivial⟩ ⟨rfl, rfl, rfl, rfl, trivial⟩
  apply Dag.new (i := 11)
  case ha => rfl
  case ho => rfl
  case hb => rfl
  case hE =>
   intro w9
   refine AWl.put (by exact R_fieldAddr_pp rfl (.no rfl) rfl (.tm rfl) fl36_2) rfl ?_
   refine AWl.nil ?_
   exact Le.sub0 (σ' := ⟨_, [(1, _), (2, _), (3, _), (4, _), (16, _), (29, _), (30, _)], [(2, _), (3, _), (7, _), (20001, _)]⟩) rfl ⟨rfl, rfl, rfl, rfl, rfl, rfl, rfl, trivial⟩ ⟨rfl, rfl, rfl, rfl, trivial⟩
  apply Dag.new (i := 12)
  case ha => rfl
  case ho => rfl
  case hb => rfl
  case hE =>
   intro w9
   refine AWl.chgb (R_store_pb rfl rfl rfl (.tm rfl) (.tm rfl) rfl ty27 rfl rfl rfl (by kernel_rfl) rfl) ?_
   refine AWl.nil ?_
   exact Le.sub0 (σ' := ⟨_, [(1, _), (2, _), (3, _), (4, _), (16, _)], [(2, _), (3, _), (7, _), (20001, _)]⟩) rfl ⟨rfl, rfl, rfl, rfl, rfl, trivial⟩ ⟨rfl, rfl, rfl, rfl, trivial⟩
  refine Dag.fin (k := 56) rfl ?_
  refine AWl.nil ?_
  refine AW.region ?_
  refine AWl.mv rfl rfl rfl rfl rfl ?_
  refine AWl.put (R_add rfl (.no rfl) rfl (.tm rfl) (.const rfl) (fun _ => by omega)) rfl ?_
  refine AWl.av rfl rfl rfl rfl rfl ?_
  refine AWl.nil ?_
  repeat (with_reducible refine BlockQ.nor ?_)
  refine Round1.next (k + 1) ⟨by omega, trivial⟩ (by omega) (Le.sub0 rfl ⟨rfl, rfl, rfl, rfl, trivial⟩ ⟨(by rfl), (by rfl), (by rfl), (by refine congrArg (fun r => some (R.row 1 r)) ?_; rw [take_at hx]; simp; try rfl), trivial⟩)
 ·skip
  try simp at h16
  refine AW.exit ?_
  refine AW.sr ?_
  refine AWl.put (by exact R_load_pp rfl (.no rfl) rfl (.tm rfl) rfl ty36 rfl rfl) rfl ?_
  refine AWl.chgb (R_store_pb rfl rfl rfl (.tm rfl) (.tm rfl) rfl ty36 rfl rfl rfl (by kernel_rfl) rfl) ?_
  refine AWl.nil ?_
  refine AW.ret ?_
  refine Res.one rfl (.cell rfl rfl ty36 rfl rfl .nil) rfl ?_
  rw [List.take_of_length_le (l := a.Next) (by omega)]; rfl
theorem specl11Copy (a : TAutomaton) (ha : validA a = true) : FnT Tryz.prog 100 [.agg (cAutomaton a)] (.a (.agg (cAutomaton a))) := specl11CopyZ a (validA_okz ha)
theorem implDistancesFrom (g : TGraph) (a : TAutomaton) (ha : validA a = true) (hg : validG g = true) (x : Int) (hx : 0 ≤ x ∧ x < g.Values.length) : FnT Tryz.prog 164 [.agg (cGraph g), .agg (cAutomaton a), .one (.v (.int .i64 x))] (.a (.one (.sl 1 ((ranksOf g a x).map cInt)))) := by
 refine FnT.walk Tryz.func164 rfl (by kernel_rfl) Tryz.ntmps164 rfl fun hlen w0 => ?_
 try simp [cEdge, cGraph, cStep, cChange, cBatch, cAutomaton, cProductStep, cView] at hlen
 have hA := validA_len ha
 have hG := validG_len hg
 have hN := prod_le ha hg
 have hs0 := start_ok ha hx
 have hb : bothB g a [x] = true := by rw [both_good]; unfold goodB inB; simp [ha, hg]; omega
 have hxn : 0 ≤ x * (a.Accept.length : Int) ∧ x * (a.Accept.length : Int) ≤ 60 := ⟨Int.mul_nonneg hx.1 (by omega), Int.le_trans (Int.mul_le_mul (show x ≤ 5 by omega) (show (a.Accept.length : Int) ≤ 12 by omega) (by omega) (by omega)) (by omega)⟩
 have hsp := implspread (nextsV g a) [x * (a.Accept.length : Int) + a.Start] (by rw [nextsV_len]; omega) (fun p hp k hk => by rw [nextsV_len] at hp ⊢; rw [nextsV_at hp] at hk; exact nxN_ok ha hg hp k hk) (fun p hp => by rw [nextsV_len] at hp; rw [nextsV_at hp]; have := nxN_len a hg p; omega) (by rw [nextsV_len]; simpa using hs0) (by simp)
 rw [ranks_nexts ha hg hx] at hsp
 refine AW.sr ?_
 refine AWl.put (R_boxz rfl rfl rfl (.tm rfl) (ts := _) (by rfl)) rfl ?_
 refine AWl.put (R_boxz rfl rfl rfl (.tm rfl) (ts := _) (by rfl)) rfl ?_
 refine AWl.ac rfl rfl rfl rfl rfl ?_
 refine AWl.nilS (i := 6) 20001 1 rfl rfl ?_
 refine AWl.nil ?_
 refine AW.seq ?_
 refine AW.sr ?_
 refine AWl.put (by exact R_load rfl (.no rfl) rfl (.tm rfl) ty43 rfl rfl) rfl ?_
 refine AWl.put (by exact R_load rfl (.no rfl) rfl (.tm rfl) ty36 rfl rfl) rfl ?_
 refine AWl.mv rfl rfl rfl rfl rfl ?_
 refine AWl.put (R_listz (xs := [.tmp 9]) (rows := [cInt x]) rfl rfl rfl (.cons (.tm rfl) rfl rfl .nil) Tryz.underlying22 in3 rfl rfl (rfl)) rfl ?_
 refine AWl.put (R_callz (FnT.fr (implbothOk g a [x])) rfl (.no rfl) rfl (.cons (.tm rfl) rfl (.cons (.tm rfl) rfl (.cons (.tm rfl) rfl .nil)))) rfl ?_
 refine AWl.put (R_not rfl (.no rfl) rfl (.tm rfl)) rfl ?_
 refine AWl.nil ?_
 refine AW.cond (.tm rfl) (fun h12 => ?_) (fun h12 => ?_)
 ·exact absurd h12 (by simp [hb])
 ·skip
  try simp at h12
  refine AW.skip ?_
  refine AW.seq ?_
  refine AW.le (σ' := ⟨_, [(0, _), (1, _), (2, _), (3, _), (4, _), (6, _)], [(20001, _)]⟩) (Le.sub0 rfl ⟨rfl, rfl, rfl, rfl, rfl, rfl, trivial⟩ ⟨rfl, trivial⟩) ?_
  refine AW.drawn 14 (nthB [[], [], [0, 1], [], [], [4], [4, 5], [3, 4, 5, 6], [], [8], [3, 4, 5, 6, 7, 8, 9], [3, 4, 5, 6, 7, 8, 9, 10], [0, 1, 2, 3, 4, 5, 6, 7, 8, 9, 10, 11], [0, 1, 2, 3, 4, 5, 6, 7, 8, 9, 10, 11, 12]]) (by kernel_rfl) (by kernel_rfl) (by kernel_rfl) ?_
  refine DrawC.step rfl rfl rfl (Loc.of rfl fun σ' hs => (by exact R_load rfl (.no rfl) (hd_sup hs rfl) (.tm (hs.slots _ _ rfl)) ty43 rfl rfl)) ?_
  refine DrawC.step rfl rfl rfl (Loc.of rfl fun σ' hs => (by exact R_load rfl (.no rfl) (hd_sup hs rfl) (.tm (hs.slots _ _ rfl)) ty36 rfl rfl)) ?_
  refine DrawC.step rfl rfl rfl (Loc.of rfl fun σ' hs => R_callz (FnT.fr (implnextVertices g a ha hg)) rfl (.no rfl) (hd_sup hs rfl) (.cons (.tm (hs.slots _ _ rfl)) (readA_sup hs rfl) (.cons (.tm (hs.slots _ _ rfl)) (readA_sup hs rfl) .nil))) ?_
  refine DrawC.step rfl rfl rfl (Loc.of rfl fun σ' hs => R_move rfl (.no rfl) (hd_sup hs rfl) (.tm (hs.slots _ _ rfl))) ?_
  refine DrawC.step rfl rfl rfl (Loc.of rfl fun σ' hs => (by exact R_fieldAddr rfl (.no rfl) (hd_sup hs rfl) (.tm (hs.slots _ _ rfl)) fl36_1)) ?_
  refine DrawC.step rfl rfl rfl (Loc.of rfl fun σ' hs => (by exact R_load rfl (.no rfl) (hd_sup hs rfl) (.tm (hs.slots _ _ rfl)) ty26 rfl rfl)) ?_
  refine DrawC.step rfl rfl rfl (Loc.of rfl fun σ' hs => (by exact R_lenm rfl (.no rfl) (hd_sup hs rfl) (.tm (hs.slots _ _ rfl)) (by exact .t) Tryz.underlying26)) ?_
  refine DrawC.step rfl rfl rfl (Loc.of rfl fun σ' hs => R_mul rfl (.no rfl) (hd_sup hs rfl) (.tm (hs.slots _ _ rfl)) (.tm (hs.slots _ _ rfl)) (fun _ => by omega)) ?_
  refine DrawC.step rfl rfl rfl (Loc.of rfl fun σ' hs => (by exact R_fieldAddr rfl (.no rfl) (hd_sup hs rfl) (.tm (hs.slots _ _ rfl)) fl36_0)) ?_
  refine DrawC.step rfl rfl rfl (Loc.of rfl fun σ' hs => (by exact R_load rfl (.no rfl) (hd_sup hs rfl) (.tm (hs.slots _ _ rfl)) ty3 rfl rfl)) ?_
  refine DrawC.step rfl rfl rfl (Loc.of rfl fun σ' hs => R_add rfl (.no rfl) (hd_sup hs rfl) (.tm (hs.slots _ _ rfl)) (.tm (hs.slots _ _ rfl)) (fun _ => by omega)) ?_
  refine DrawC.step rfl rfl rfl (Loc.of rfl fun σ' hs => R_listz (xs := [.tmp 23]) (rows := [cInt (x * (a.Accept.length : Int) + a.Start)]) rfl rfl (hd_sup hs rfl) (.cons (.tm (hs.slots _ _ rfl)) rfl rfl .nil) Tryz.underlying22 in3 rfl rfl (rfl)) ?_
  refine DrawC.step rfl rfl rfl (Loc.ofs rfl fun σ' hs hf => R_call 2500 (hsp) rfl rfl (hd_sup hs rfl) (.cons (.tm (hs.slots _ _ rfl)) (readA_sup hs rfl) (.cons (.tm (hs.slots _ _ rfl)) (readA_sup hs rfl) .nil)) rfl (all_fresh hf)) ?_
  refine DrawC.step rfl rfl rfl (Loc.of rfl fun σ' hs => R_assign rfl (.no rfl) (hd_sup hs rfl) (.tm (hs.slots _ _ rfl))) ?_
  refine DrawC.fin rfl rfl ?_
  refine AWl.nil ?_
  refine AW.ret ?_
  refine Res.one rfl (.tmp rfl .nil) rfl ?_
  rfl
theorem implDistancesFrom_bad (g : TGraph) (a : TAutomaton) (x : Int) (hb : bothB g a [x] = false) : FnT Tryz.prog 164 [.agg (cGraph g), .agg (cAutomaton a), .one (.v (.int .i64 x))] (.a (.one (.v (.slice none 0 0)))) := by
 refine FnT.walk Tryz.func164 rfl (by kernel_rfl) Tryz.ntmps164 rfl fun hlen w0 => ?_
 try simp [cEdge, cGraph, cStep, cChange, cBatch, cAutomaton, cProductStep, cView] at hlen
 refine AW.sr ?_
 refine AWl.put (R_boxz rfl rfl rfl (.tm rfl) (ts := _) (by rfl)) rfl ?_
 refine AWl.put (R_boxz rfl rfl rfl (.tm rfl) (ts := _) (by rfl)) rfl ?_
 refine AWl.ac rfl rfl rfl rfl rfl ?_
 refine AWl.nil ?_
 refine AW.seq ?_
 refine AW.sr ?_
 refine AWl.put (by exact R_load rfl (.no rfl) rfl (.tm rfl) ty43 rfl rfl) rfl ?_
 refine AWl.put (by exact R_load rfl (.no rfl) rfl (.tm rfl) ty36 rfl rfl) rfl ?_
 refine AWl.mv rfl rfl rfl rfl rfl ?_
 refine AWl.put (R_listz (xs := [.tmp 9]) (rows := [cInt x]) rfl rfl rfl (.cons (.tm rfl) rfl rfl .nil) Tryz.underlying22 in3 rfl rfl (rfl)) rfl ?_
 refine AWl.put (R_callz (FnT.fr (implbothOk g a [x])) rfl (.no rfl) rfl (.cons (.tm rfl) rfl (.cons (.tm rfl) rfl (.cons (.tm rfl) rfl .nil)))) rfl ?_
 refine AWl.put (R_not rfl (.no rfl) rfl (.tm rfl)) rfl ?_
 refine AWl.nil ?_
 refine AW.cond (.tm rfl) (fun h12 => ?_) (fun h12 => ?_)
 ·skip
  try simp at h12
  refine AW.seq ?_
  refine AW.le (σ' := ⟨_, [(0, _), (1, _), (2, _), (3, _), (4, _), (6, _)], []⟩) (Le.sub0 rfl ⟨rfl, rfl, rfl, rfl, rfl, rfl, trivial⟩ trivial) ?_
  refine AW.region ?_
  refine AWl.ac rfl rfl rfl rfl rfl ?_
  refine AWl.nil ?_
  refine AW.ret ?_
  refine Res.v rfl rfl ?_
  rfl
 ·exact absurd h12 (by simp [hb])
end Go.Proofs.YtoealglkenhphaaGreat
