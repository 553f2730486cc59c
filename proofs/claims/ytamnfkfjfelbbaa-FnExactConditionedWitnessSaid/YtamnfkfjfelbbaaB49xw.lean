import Derived.Test.YtamnfkfjfelbbaaB21xw
import Derived.Test.YtamnfkfjfelbbaaB05xw
import Derived.Test.YtamnfkfjfelbbaaB14xw
import Derived.Test.YtamnfkfjfelbbaaSort1xw
import Derived.Test.YtamnfkfjfelbbaaB54xw
set_option linter.unusedVariables false
set_option linter.unusedSimpArgs false
set_option maxHeartbeats 1000000
set_option maxRecDepth 100000
namespace Go.Q
open Go.D
theorem bfs_ok {nx : Nat → List Int} {N : Nat} (hn : ∀ p, p < N → ∀ k ∈ nx p, 0 ≤ k ∧ k < N) : ∀ (f : Nat) (out qu : List Int), BfsI N out qu → BfsI N (bfs nx f out qu) []
 | 0, out, qu, h => ⟨h.len, by simp, h.val⟩
 | f + 1, out, [], h => h
 | f + 1, out, q :: r, h => by
  have hq := h.mem q (by simp)
  rw [bfs]
  exact bfs_ok hn f _ _ (BfsI.relax (N := N) hq (l := nx q.toNat) (st := (out, r)) h.tail (hn q.toNat (by omega))).1
theorem spread_ok {nx : Nat → List Int} {N : Nat} (hn : ∀ p, p < N → ∀ k ∈ nx p, 0 ≤ k ∧ k < N) {l : List Int} (hl : ∀ q ∈ l, 0 ≤ q ∧ q < (N : Int)) : (spreadOf nx N l).length = N ∧ ∀ v ∈ spreadOf nx N l, -1 ≤ v ∧ v ≤ N := by
 have h := bfs_ok hn (2 * N + l.length + 1) _ _ (bfs_start hl)
 exact ⟨h.len, fun v hv => by have := h.val v hv; omega⟩
def sup1 (R : List Int) (i : Nat) (S : List Int) (k : Int) : List Int := if 0 ≤ atI R i ∧ atI R k = atI R i + 1 then S.set k.toNat (atI S k + 1) else S
def supRow (R : List Int) (i : Nat) (S : List Int) (l : List Int) : List Int := l.foldl (sup1 R i) S
def supAll (nx : Nat → List Int) (R : List Int) (S : List Int) : Nat → List Int
 | 0 => S
 | n + 1 => supRow R n (supAll nx R S n) (nx n)
structure SupI (N : Nat) (b : Int) (S : List Int) : Prop where
 len : S.length = N
 val : ∀ v ∈ S, 0 ≤ v ∧ v ≤ b
theorem SupI.le {N : Nat} {b b' : Int} {S : List Int} (h : SupI N b S) (hb : b ≤ b') : SupI N b' S := ⟨h.len, fun v hv => by have := h.val v hv; omega⟩
theorem SupI.at {N : Nat} {b : Int} {S : List Int} (h : SupI N b S) {k : Int} (hk : k.toNat < N) : 0 ≤ atI S k ∧ atI S k ≤ b := h.val _ (List.mem_of_getElem? (atI_get (by rw [h.len]; exact hk)))
theorem SupI.one {N : Nat} {b : Int} {R S : List Int} {i : Nat} {k : Int} (h : SupI N b S) (hk : 0 ≤ k ∧ k < N) : SupI N (b + 1) (sup1 R i S k) := by
 unfold sup1
 split
 · refine ⟨by simpa using h.len, fun v hv => ?_⟩
   rcases List.mem_or_eq_of_mem_set hv with hv | rfl
   · have := h.val v hv; omega
   · have := h.at (k := k) (by omega); omega
 · exact h.le (by omega)
theorem SupI.row {N : Nat} {R : List Int} {i : Nat} : ∀ {l : List Int} {b : Int} {S : List Int}, SupI N b S → (∀ k ∈ l, 0 ≤ k ∧ k < N) → SupI N (b + l.length) (supRow R i S l)
 | [], b, S, h, _ => by simpa [supRow] using h
 | k :: l, b, S, h, hl => by
  have e : supRow R i S (k :: l) = supRow R i (sup1 R i S k) l := rfl
  rw [e]
  exact (SupI.row (h.one (hl k (by simp))) fun k hk => hl k (by simp [hk])).le (by simp; omega)
theorem SupI.all {nx : Nat → List Int} {N c : Nat} {R : List Int} (hn : ∀ p, p < N → ∀ k ∈ nx p, 0 ≤ k ∧ k < N) (hc : ∀ p, p < N → (nx p).length ≤ c) : ∀ {n : Nat}, n ≤ N → SupI N ((n * c : Nat) : Int) (supAll nx R (List.replicate N 0) n)
 | 0, _ => ⟨by simp [supAll], fun v hv => by rw [(List.mem_replicate.1 hv).2]; simp⟩
 | n + 1, h => by
  rw [supAll, Nat.succ_mul]
  refine (SupI.row (SupI.all hn hc (n := n) (by omega)) (hn n (by omega))).le ?_
  have := hc n (by omega)
  omega
theorem prod_le {a : TAutomaton} {g : TGraph} (ha : validA a = true) (hg : validG g = true) : 1 ≤ a.Accept.length * g.Values.length ∧ a.Accept.length * g.Values.length ≤ 60 := by
 have hA := validA_len ha
 have hG := validG_len hg
 exact ⟨Nat.mul_le_mul (show 1 ≤ a.Accept.length by omega) (show 1 ≤ g.Values.length by omega), Nat.mul_le_mul (by omega : a.Accept.length ≤ 12) (by omega : g.Values.length ≤ 5)⟩
theorem good_parts {g : TGraph} {a : TAutomaton} {x : Int} (h : goodB g a x 0 = true) : validG g = true ∧ validA a = true ∧ 0 ≤ x ∧ x < g.Values.length := by
 unfold goodB inB at h
 simp only [Bool.and_eq_true, decide_eq_true_eq] at h
 exact ⟨h.1.1.1, h.1.1.2, h.1.2.1, by omega⟩
theorem both_good (g : TGraph) (a : TAutomaton) (x : Int) : bothB g a [x] = goodB g a x 0 := by
 unfold bothB goodB
 cases hv : validA a with
 | false => simp
 | true =>
  have hA := validA_len hv
  have e : inB 0 0 ((a.Accept.length : Int) - 1) = true := by unfold inB; simp; omega
  rw [e]
  simp only [List.all_cons, List.all_nil, Bool.and_true]
  cases inB x 0 ((g.Values.length : Int) - 1) <;> cases validG g <;> rfl
end Go.Q
namespace Go.Proofs.Ytamnfkfjfelbbaa
open Go.RowKit Go.Q Go.D
end Go.Proofs.Ytamnfkfjfelbbaa
namespace Go.Q
open Go.D
end Go.Q
namespace Go.Proofs.Ytamnfkfjfelbbaa
open Go.RowKit Go.Q Go.D
end Go.Proofs.Ytamnfkfjfelbbaa
set_option maxHeartbeats 1000000
set_option maxRecDepth 100000
namespace Go.Q
open Go.D
inductive Rch (nx : Nat → List Int) (S : Int → Prop) : Int → Prop where
 | base {q : Int} : S q → Rch nx S q
 | step {q k : Int} : Rch nx S q → k ∈ nx q.toNat → Rch nx S k
theorem Rch.mono {nx : Nat → List Int} {S S' : Int → Prop} (h : ∀ q, S q → Rch nx S' q) {k : Int} (hr : Rch nx S k) : Rch nx S' k := by
 induction hr with
 | base hq => exact h _ hq
 | step _ hk ih => exact .step ih hk
def visI (out : List Int) (j : Int) : Prop := 0 ≤ j ∧ j < out.length ∧ 0 ≤ atI out j
theorem atI_set {out : List Int} {k j : Int} {v : Int} (hk : 0 ≤ k ∧ k < out.length) (hj : 0 ≤ j) : atI (out.set k.toNat v) j = if j = k then v else atI out j := by
 unfold atI
 rw [List.getElem?_set]
 by_cases e : j = k
 · subst e; rw [if_pos rfl, if_pos (show j.toNat < out.length by omega), if_pos rfl]; rfl
 · rw [if_neg (by omega), if_neg e]
theorem set_vis {k j v : Int} {out : List Int} (hv : 0 ≤ v) (hk : 0 ≤ k ∧ k < out.length) : visI (out.set k.toNat v) j ↔ visI out j ∨ j = k := by
 unfold visI
 rw [List.length_set]
 constructor
 · rintro ⟨h1, h3, h2⟩
   rw [atI_set hk h1] at h2
   by_cases e : j = k
   · exact .inr e
   · rw [if_neg e] at h2; exact .inl ⟨h1, h3, h2⟩
 · rintro (⟨h1, h3, h2⟩ | rfl)
   · refine ⟨h1, h3, ?_⟩
     rw [atI_set hk h1]
     split <;> assumption
   · refine ⟨hk.1, hk.2, ?_⟩
     rw [atI_set hk hk.1, if_pos rfl]; exact hv
theorem rlx_vis {q k j : Int} {out r : List Int} (hq : visI out q) (hk : 0 ≤ k ∧ k < out.length) : visI (rlx q (out, r) k).1 j ↔ visI out j ∨ j = k := by
 unfold rlx
 dsimp only
 split
 · exact set_vis (by have := hq.2.2; omega) hk
 · rename_i hneg
   have hneg' : ¬ atI out k < 0 := hneg
   constructor
   · exact .inl
   · rintro (h | rfl)
     · exact h
     · exact ⟨hk.1, hk.2, Int.not_lt.1 hneg'⟩
theorem rlx_qu {q k j : Int} {out r : List Int} (hk : 0 ≤ k ∧ k < out.length) : j ∈ (rlx q (out, r) k).2 ↔ j ∈ r ∨ (j = k ∧ ¬ visI out j) := by
 unfold rlx visI
 dsimp only
 split
 · simp only [List.mem_append, List.mem_singleton]
   constructor
   · rintro (h | rfl)
     · exact .inl h
     · exact .inr ⟨rfl, fun h => by omega⟩
   · rintro (h | ⟨rfl, _⟩)
     · exact .inl h
     · exact .inr rfl
 · constructor
   · exact .inl
   · rintro (h | ⟨rfl, h⟩)
     · exact h
     · exact absurd ⟨hk.1, hk.2, by omega⟩ h
theorem relax_vis {q j : Int} : ∀ {l out r : List Int}, visI out q → (∀ k ∈ l, 0 ≤ k ∧ k < out.length) → (visI (relax q l (out, r)).1 j ↔ visI out j ∨ j ∈ l) ∧ (j ∈ (relax q l (out, r)).2 ↔ j ∈ r ∨ (j ∈ l ∧ ¬ visI out j))
 | [], out, r, _, _ => by simp [relax]
 | k :: l, out, r, hq, hl => by
  have hk := hl k (by simp)
  have e : relax q (k :: l) (out, r) = relax q l ((rlx q (out, r) k).1, (rlx q (out, r) k).2) := rfl
  have hlen := rlx_len q (out, r) k
  have ih := relax_vis (q := q) (j := j) (l := l) (out := (rlx q (out, r) k).1) (r := (rlx q (out, r) k).2) ((rlx_vis hq hk).2 (.inl hq)) fun k' hk' => by rw [hlen]; exact hl k' (by simp [hk'])
  rw [e]
  have h1 := rlx_vis (q := q) (j := j) (r := r) hq hk
  have h2 := rlx_qu (q := q) (j := j) (out := out) (r := r) hk
  constructor
  · rw [ih.1, h1, List.mem_cons]; simp only [or_assoc]
  · rw [ih.2, h1, h2, List.mem_cons]
    by_cases hv : visI out j <;> by_cases hjk : j = k <;> by_cases hjl : j ∈ l <;> simp [hv, hjk, hjl] <;> simp_all
theorem bfs_vis {nx : Nat → List Int} {N : Nat} (hn : ∀ p, p < N → ∀ k ∈ nx p, 0 ≤ k ∧ k < N) {j : Int} : ∀ (f : Nat) (out qu : List Int), BfsI N out qu → negs out + qu.length < f → (∀ q ∈ qu, visI out q) → (∀ p, visI out p → p ∈ qu ∨ ∀ k ∈ nx p.toNat, visI out k) →
 (visI (bfs nx f out qu) j ↔ Rch nx (visI out) j)
 | 0, _, _, _, h, _, _ => by omega
 | f + 1, out, [], hI, _, _, hc => by
  rw [bfs]
  constructor
  · exact .base
  · intro h
    induction h with
    | base h => exact h
    | step _ hk ih => exact (hc _ ih).resolve_left (by simp) _ hk
 | f + 1, out, q :: r, hI, hf, hv, hc => by
  rw [bfs]
  have hq := hI.mem q (by simp)
  have hqv := hv q (by simp)
  have hnq := hn q.toNat (by omega)
  have hR := BfsI.relax (N := N) hq (l := nx q.toNat) (st := (out, r)) hI.tail hnq
  have hvis := fun j => relax_vis (q := q) (j := j) (l := nx q.toNat) (out := out) (r := r) hqv fun k hk => by rw [hI.len]; exact hnq k hk
  have h2 := hR.2.1
  simp only [List.length_cons] at hf h2
  have ih := bfs_vis hn (j := j) f (relax q (nx q.toNat) (out, r)).1 (relax q (nx q.toNat) (out, r)).2 hR.1 (by omega) (fun p hp => ?_) (fun p hpv => ?_)
  · rw [ih]
    constructor
    · refine Rch.mono fun p hp => ?_
      rcases ((hvis p).1).1 hp with h | h
      · exact .base h
      · exact .step (.base hqv) h
    · exact Rch.mono fun p hp => .base (((hvis p).1).2 (.inl hp))
  · rw [(hvis p).1]
    rcases ((hvis p).2).1 hp with h | ⟨h, _⟩
    · exact .inl (hv p (by simp [h]))
    · exact .inr h
  · by_cases hpo : visI out p
    · rcases hc p hpo with h | h
      · rcases List.mem_cons.1 h with rfl | h
        · exact .inr fun k hk => ((hvis k).1).2 (.inr hk)
        · exact .inl (((hvis p).2).2 (.inl h))
      · exact .inr fun k hk => ((hvis k).1).2 (.inl (h k hk))
    · rcases ((hvis p).1).1 hpv with h | h
      · exact absurd h hpo
      · exact .inl (((hvis p).2).2 (.inr ⟨h, hpo⟩))
theorem zeroAll_vis {j : Int} : ∀ {l out : List Int}, (∀ q ∈ l, 0 ≤ q ∧ q < out.length) → (visI (zeroAll l out) j ↔ visI out j ∨ j ∈ l)
 | [], _, _ => by simp [zeroAll]
 | k :: l, out, hl => by
  have hk := hl k (by simp)
  have e : zeroAll (k :: l) out = zeroAll l (out.set k.toNat 0) := rfl
  rw [e, zeroAll_vis (fun q hq => by rw [List.length_set]; exact hl q (by simp [hq])), List.mem_cons, set_vis (by omega) hk, or_assoc]
theorem spread_vis {nx : Nat → List Int} {N : Nat} (hn : ∀ p, p < N → ∀ k ∈ nx p, 0 ≤ k ∧ k < N) {l : List Int} (hl : ∀ q ∈ l, 0 ≤ q ∧ q < (N : Int)) {j : Int} : visI (spreadOf nx N l) j ↔ Rch nx (· ∈ l) j := by
 have hz : ∀ p, visI (zeroAll l (List.replicate N (-1))) p ↔ p ∈ l := fun p => by
  rw [zeroAll_vis fun q hq => by simpa using hl q hq]
  constructor
  · rintro (⟨h1, h3, h2⟩ | h)
    · exfalso
      unfold atI at h2
      rw [List.length_replicate] at h3
      rw [List.getElem?_replicate, if_pos (by omega)] at h2; simp at h2
    · exact h
  · exact .inr
 have hst := bfs_start (N := N) hl
 unfold spreadOf
 have hng := negs_le (zeroAll l (List.replicate N (-1)))
 rw [zeroAll_len] at hng
 simp only [List.length_replicate] at hng
 rw [bfs_vis hn _ _ _ hst (by omega) (fun q hq => (hz q).2 hq) (fun p hp => .inl ((hz p).1 hp))]
 constructor
 · exact Rch.mono fun p hp => .base ((hz p).1 hp)
 · exact Rch.mono fun p hp => .base ((hz p).2 hp)
def R1 (nx : Nat → List Int) (i : Nat) (k : Int) : Prop := Rch nx (· ∈ nx i) k
theorem R1.trans {nx : Nat → List Int} {i j : Nat} {k : Int} (h1 : R1 nx i j) (h2 : R1 nx j k) : R1 nx i k := by
 refine Rch.mono (fun q hq => ?_) h2
 exact .step h1 (by simpa using hq)
section
variable (rel : Nat → Nat → Bool)
end
section
variable {rel : Nat → Nat → Bool}
end
end Go.Q
namespace Go.Proofs
open Go.Shelf Go.RowKit Go.Lib Go.Sort
end Go.Proofs
namespace Go.Proofs.Ytamnfkfjfelbbaa
open Go.RowKit Go.Q Go.D
end Go.Proofs.Ytamnfkfjfelbbaa
set_option maxHeartbeats 1000000
set_option maxRecDepth 100000
namespace Go.Q
open Go.D
section
variable {rel : Nat → Nat → Bool} {N i k : Nat}
end
end Go.Q
namespace Go.Proofs.Ytamnfkfjfelbbaa
open Go.RowKit Go.Q Go.D
end Go.Proofs.Ytamnfkfjfelbbaa
set_option maxHeartbeats 1000000
set_option maxRecDepth 100000
namespace Go.Q
open Go.D
def NP (g : TGraph) (a : TAutomaton) : Nat := a.Accept.length * g.Values.length
end Go.Q
namespace Go.Proofs.Ytamnfkfjfelbbaa
open Go.RowKit Go.Q Go.D
end Go.Proofs.Ytamnfkfjfelbbaa
set_option maxHeartbeats 1000000
set_option maxRecDepth 100000
namespace Go.Q
open Go.D
end Go.Q
namespace Go.Proofs.Ytamnfkfjfelbbaa
open Go.RowKit Go.Q Go.D
end Go.Proofs.Ytamnfkfjfelbbaa
set_option maxHeartbeats 1000000
set_option maxRecDepth 100000
namespace Go.Q
open Go.D
end Go.Q
namespace Go.Proofs.Ytamnfkfjfelbbaa
open Go.RowKit Go.Q Go.D
end Go.Proofs.Ytamnfkfjfelbbaa
set_option maxHeartbeats 1000000
set_option maxRecDepth 100000
namespace Go.Q
open Go.D
end Go.Q
namespace Go.Proofs.Ytamnfkfjfelbbaa
open Go.RowKit Go.Q Go.D
end Go.Proofs.Ytamnfkfjfelbbaa
set_option maxHeartbeats 1000000
set_option maxRecDepth 100000
namespace Go.Q
open Go.D
def turnOne (i : Nat) (l : List Int) (k : Nat) : List Int := (l.filter fun y => decide (y.toNat = k)).map fun _ => (i : Int)
def turnAt (nx : Nat → List Int) (p : Nat) (k : Nat) : List Int := (List.range p).flatMap fun i => turnOne i (nx i) k
def turnedL (next : List (List Int)) : List (List Int) := (List.range next.length).map fun k => turnAt (nxL next) next.length k
theorem turnAt_succ (nx : Nat → List Int) (p k : Nat) : turnAt nx (p + 1) k = turnAt nx p k ++ turnOne p (nx p) k := by
 unfold turnAt; rw [List.range_succ, List.flatMap_append]; simp
theorem turnOne_succ {i : Nat} {l : List Int} {j : Nat} {y : Int} (h : l[j]? = some y) (k : Nat) : turnOne i (l.take (j + 1)) k = turnOne i (l.take j) k ++ if k = y.toNat then [(i : Int)] else [] := by
 unfold turnOne
 rw [take_at h, List.filter_append, List.map_append]
 by_cases e : k = y.toNat
 · subst e; simp
 · have : ¬ y.toNat = k := fun h => e h.symm
   simp [e, this]
theorem turnOne_len (i : Nat) (l : List Int) (k : Nat) : (turnOne i l k).length ≤ l.length := by
 unfold turnOne; rw [List.length_map]; exact List.length_filter_le _ _
theorem turnAt_len {nx : Nat → List Int} {b N : Nat} (hb : ∀ p, p < N → (nx p).length ≤ b) (k : Nat) : ∀ p, p ≤ N → (turnAt nx p k).length ≤ p * b
 | 0, _ => by simp [turnAt]
 | p + 1, h => by
  rw [turnAt_succ, List.length_append, Nat.succ_mul]
  have := turnAt_len hb k p (by omega)
  have := hb p (by omega)
  have := turnOne_len p (nx p) k
  omega
theorem mem_turnAt {nx : Nat → List Int} {p k : Nat} {q : Int} : q ∈ turnAt nx p k ↔ ∃ i : Nat, i < p ∧ q = (i : Int) ∧ ∃ y ∈ nx i, y.toNat = k := by
 unfold turnAt turnOne
 simp only [List.mem_flatMap, List.mem_range, List.mem_map, List.mem_filter, decide_eq_true_eq]
 constructor
 · rintro ⟨i, hi, y, ⟨hy, h⟩, rfl⟩; exact ⟨i, hi, rfl, y, hy, h⟩
 · rintro ⟨i, hi, rfl, y, hy, h⟩; exact ⟨i, hi, y, ⟨hy, h⟩, rfl⟩
theorem turnedL_len (next : List (List Int)) : (turnedL next).length = next.length := by unfold turnedL; simp
theorem turnedL_at {next : List (List Int)} {k : Nat} (hk : k < next.length) : nxL (turnedL next) k = turnAt (nxL next) next.length k := nxL_at (by unfold turnedL; exact range_get _ hk)
theorem turnedL_ok {next : List (List Int)} : ∀ p, p < next.length → ∀ k ∈ nxL (turnedL next) p, 0 ≤ k ∧ k < next.length := fun p hp k hk => by
 rw [turnedL_at hp] at hk
 obtain ⟨i, hi, rfl, _⟩ := mem_turnAt.1 hk
 omega
theorem turned_can {next : List (List Int)} (hn : ∀ p, p < next.length → ∀ k ∈ nxL next p, 0 ≤ k ∧ k < next.length) {gl : List Int} {G : Nat → Bool} (hG : ∀ i : Nat, i < next.length → ((i : Int) ∈ gl ↔ G i = true)) (hgl : ∀ q ∈ gl, 0 ≤ q ∧ q < (next.length : Int)) {j : Nat} (hj : j < next.length) : Rch (nxL (turnedL next)) (· ∈ gl) (j : Int) ↔ CanR (nxL next) G j := by
 constructor
 · intro h
   have key : ∀ q : Int, Rch (nxL (turnedL next)) (· ∈ gl) q → 0 ≤ q ∧ q < next.length ∧ CanR (nxL next) G q.toNat := by
    intro q h
    induction h with
    | base h => have := hgl _ h; exact ⟨this.1, this.2, .goal ((hG _ (by omega)).1 (by rwa [Int.toNat_of_nonneg this.1]))⟩
    | @step q k _ hk ih =>
     have hq : q.toNat < next.length := by omega
     rw [turnedL_at hq] at hk
     obtain ⟨i, hi, rfl, y, hy, e⟩ := mem_turnAt.1 hk
     exact ⟨by omega, by omega, .step (z := y) (by simpa using hy) (by rw [e]; exact ih.2.2)⟩
   have := (key _ h).2.2
   simpa using this
 · intro h
   induction h with
   | goal h => exact .base ((hG _ hj).2 h)
   | @step i z hz _ ih =>
    have hb := hn i hj z hz
    have := ih (by omega)
    rw [Int.toNat_of_nonneg hb.1] at this
    exact .step this (by rw [turnedL_at (by omega)]; exact mem_turnAt.2 ⟨i, hj, rfl, z, hz, rfl⟩)
end Go.Q
