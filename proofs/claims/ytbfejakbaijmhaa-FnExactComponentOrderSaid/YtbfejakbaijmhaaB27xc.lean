/- Views: both texts. -/
import Derived.Test.YtbfejakbaijmhaaB21xc
import Derived.Test.YtbfejakbaijmhaaB05xc
set_option linter.unusedVariables false
set_option linter.unusedSimpArgs false
set_option maxHeartbeats 1000000
set_option maxRecDepth 100000
namespace Go.Q
open Go.D
theorem bfs_ok {nx : Nat → List Int} {N : Nat} (hn : ∀ p, p < N → ∀ k ∈ nx p, 0 ≤ k ∧ k < N) : ∀ (f : Nat) (out qu : List Int), BfsI N out qu → BfsI N (bfs nx f out qu) []
  | 0, out, qu, h => ⟨h.len, by simp, h.val⟩
  | f + 1, out, [], h => h
  | f + 1, out, q :: r, h => by
    have hq := h.mem q (by simp)
    rw [bfs]
    exact bfs_ok hn f _ _ (BfsI.relax (N := N) hq (l := nx q.toNat) (st := (out, r)) h.tail (hn q.toNat (by omega))).1
theorem spread_ok {nx : Nat → List Int} {N : Nat} (hn : ∀ p, p < N → ∀ k ∈ nx p, 0 ≤ k ∧ k < N) {l : List Int} (hl : ∀ q ∈ l, 0 ≤ q ∧ q < (N : Int)) : (spreadOf nx N l).length = N ∧ ∀ v ∈ spreadOf nx N l, -1 ≤ v ∧ v ≤ N := by
  have h := bfs_ok hn (2 * N + l.length + 1) _ _ (bfs_start hl)
  exact ⟨h.len, fun v hv => by have := h.val v hv; omega⟩
def sup1 (R : List Int) (i : Nat) (S : List Int) (k : Int) : List Int := if 0 ≤ atI R i ∧ atI R k = atI R i + 1 then S.set k.toNat (atI S k + 1) else S
def supRow (R : List Int) (i : Nat) (S : List Int) (l : List Int) : List Int := l.foldl (sup1 R i) S
def supAll (nx : Nat → List Int) (R : List Int) (S : List Int) : Nat → List Int
  | 0 => S
  | n + 1 => supRow R n (supAll nx R S n) (nx n)
structure SupI (N : Nat) (b : Int) (S : List Int) : Prop where
  len : S.length = N
  val : ∀ v ∈ S, 0 ≤ v ∧ v ≤ b
theorem SupI.le {N : Nat} {b b' : Int} {S : List Int} (h : SupI N b S) (hb : b ≤ b') : SupI N b' S := ⟨h.len, fun v hv => by have := h.val v hv; omega⟩
theorem SupI.at {N : Nat} {b : Int} {S : List Int} (h : SupI N b S) {k : Int} (hk : k.toNat < N) : 0 ≤ atI S k ∧ atI S k ≤ b := h.val _ (List.mem_of_getElem? (atI_get (by rw [h.len]; exact hk)))
theorem SupI.one {N : Nat} {b : Int} {R S : List Int} {i : Nat} {k : Int} (h : SupI N b S) (hk : 0 ≤ k ∧ k < N) : SupI N (b + 1) (sup1 R i S k) := by
  unfold sup1
  split
  · refine ⟨by simpa using h.len, fun v hv => ?_⟩
    rcases List.mem_or_eq_of_mem_set hv with hv | rfl
    · have := h.val v hv; omega
    · have := h.at (k := k) (by omega); omega
  · exact h.le (by omega)
theorem SupI.row {N : Nat} {R : List Int} {i : Nat} : ∀ {l : List Int} {b : Int} {S : List Int}, SupI N b S → (∀ k ∈ l, 0 ≤ k ∧ k < N) → SupI N (b + l.length) (supRow R i S l)
  | [], b, S, h, _ => by simpa [supRow] using h
  | k :: l, b, S, h, hl => by
    have e : supRow R i S (k :: l) = supRow R i (sup1 R i S k) l := rfl
    rw [e]
    exact (SupI.row (h.one (hl k (by simp))) fun k hk => hl k (by simp [hk])).le (by simp; omega)
theorem SupI.all {nx : Nat → List Int} {N c : Nat} {R : List Int} (hn : ∀ p, p < N → ∀ k ∈ nx p, 0 ≤ k ∧ k < N) (hc : ∀ p, p < N → (nx p).length ≤ c) : ∀ {n : Nat}, n ≤ N → SupI N ((n * c : Nat) : Int) (supAll nx R (List.replicate N 0) n)
  | 0, _ => ⟨by simp [supAll], fun v hv => by rw [(List.mem_replicate.1 hv).2]; simp⟩
  | n + 1, h => by
    rw [supAll, Nat.succ_mul]
    refine (SupI.row (SupI.all hn hc (n := n) (by omega)) (hn n (by omega))).le ?_
    have := hc n (by omega)
    omega
theorem nextsV_len (g : TGraph) (a : TAutomaton) : (nextsV g a).length = a.Accept.length * g.Values.length := by unfold nextsV; simp
theorem nextsV_at {g : TGraph} {a : TAutomaton} {p : Nat} (h : p < a.Accept.length * g.Values.length) : nxL (nextsV g a) p = nxN g a p := nxL_at (by unfold nextsV; rw [List.getElem?_map, List.getElem?_range h]; rfl)
theorem nxN_len {g : TGraph} (a : TAutomaton) (hg : validG g = true) (p : Nat) : (nxN g a p).length ≤ 1536 := by
  have hG := validG_len hg
  have h1 : ∀ x, (arcsAt g x).length ≤ 24 := fun x => Nat.le_trans (arcsL_len _ _) (by omega)
  rw [nxN_steps, List.length_map]
  exact Nat.le_trans (steps_len g a _ _) (by have := h1 ((p : Int) / (a.Accept.length : Int)); omega)
theorem prod_le {a : TAutomaton} {g : TGraph} (ha : validA a = true) (hg : validG g = true) : 1 ≤ a.Accept.length * g.Values.length ∧ a.Accept.length * g.Values.length ≤ 60 := by
  have hA := validA_len ha
  have hG := validG_len hg
  exact ⟨Nat.mul_le_mul (show 1 ≤ a.Accept.length by omega) (show 1 ≤ g.Values.length by omega), Nat.mul_le_mul (by omega : a.Accept.length ≤ 12) (by omega : g.Values.length ≤ 5)⟩
end Go.Q
namespace Go.Proofs.Ytbfejakbaijmhaa
open Go.RowKit Go.Q Go.D
end Go.Proofs.Ytbfejakbaijmhaa
