/- Views: both texts. -/
import Derived.Test.YtjmbiiciogakoaaB21x
import Derived.Test.YtjmbiiciogakoaaB05x
set_option linter.unusedVariables false
set_option linter.unusedSimpArgs false
set_option maxHeartbeats 1000000
set_option maxRecDepth 100000
namespace Go.Q
open Go.D
def sup1 (R : List Int) (i : Nat) (S : List Int) (k : Int) : List Int := if 0 ≤ atI R i ∧ atI R k = atI R i + 1 then S.set k.toNat (atI S k + 1) else S
def supRow (R : List Int) (i : Nat) (S : List Int) (l : List Int) : List Int := l.foldl (sup1 R i) S
def supAll (nx : Nat → List Int) (R : List Int) (S : List Int) : Nat → List Int
  | 0 => S
  | n + 1 => supRow R n (supAll nx R S n) (nx n)
structure SupI (N : Nat) (b : Int) (S : List Int) : Prop where
  len : S.length = N
  val : ∀ v ∈ S, 0 ≤ v ∧ v ≤ b
theorem SupI.le {N : Nat} {b b' : Int} {S : List Int} (h : SupI N b S) (hb : b ≤ b') : SupI N b' S := ⟨h.len, fun v hv => by have := h.val v hv; omega⟩
theorem SupI.at {N : Nat} {b : Int} {S : List Int} (h : SupI N b S) {k : Int} (hk : k.toNat < N) : 0 ≤ atI S k ∧ atI S k ≤ b := h.val _ (List.mem_of_getElem? (atI_get (by rw [h.len]; exact hk)))
theorem SupI.one {N : Nat} {b : Int} {R S : List Int} {i : Nat} {k : Int} (h : SupI N b S) (hk : 0 ≤ k ∧ k < N) : SupI N (b + 1) (sup1 R i S k) := by
  unfold sup1
  split
  · refine ⟨by simpa using h.len, fun v hv => ?_⟩
    rcases List.mem_or_eq_of_mem_set hv with hv | rfl
    · have := h.val v hv; omega
    · have := h.at (k := k) (by omega); omega
  · exact h.le (by omega)
theorem SupI.row {N : Nat} {R : List Int} {i : Nat} : ∀ {l : List Int} {b : Int} {S : List Int}, SupI N b S → (∀ k ∈ l, 0 ≤ k ∧ k < N) → SupI N (b + l.length) (supRow R i S l)
  | [], b, S, h, _ => by simpa [supRow] using h
  | k :: l, b, S, h, hl => by
    have e : supRow R i S (k :: l) = supRow R i (sup1 R i S k) l := rfl
    rw [e]
    exact (SupI.row (h.one (hl k (by simp))) fun k hk => hl k (by simp [hk])).le (by simp; omega)
theorem SupI.all {nx : Nat → List Int} {N c : Nat} {R : List Int} (hn : ∀ p, p < N → ∀ k ∈ nx p, 0 ≤ k ∧ k < N) (hc : ∀ p, p < N → (nx p).length ≤ c) : ∀ {n : Nat}, n ≤ N → SupI N ((n * c : Nat) : Int) (supAll nx R (List.replicate N 0) n)
  | 0, _ => ⟨by simp [supAll], fun v hv => by rw [(List.mem_replicate.1 hv).2]; simp⟩
  | n + 1, h => by
    rw [supAll, Nat.succ_mul]
    refine (SupI.row (SupI.all hn hc (n := n) (by omega)) (hn n (by omega))).le ?_
    have := hc n (by omega)
    omega
theorem prod_le {a : TAutomaton} {g : TGraph} (ha : validA a = true) (hg : validG g = true) : 1 ≤ a.Accept.length * g.Values.length ∧ a.Accept.length * g.Values.length ≤ 60 := by
  have hA := validA_len ha
  have hG := validG_len hg
  exact ⟨Nat.mul_le_mul (show 1 ≤ a.Accept.length by omega) (show 1 ≤ g.Values.length by omega), Nat.mul_le_mul (by omega : a.Accept.length ≤ 12) (by omega : g.Values.length ≤ 5)⟩
theorem good_parts {g : TGraph} {a : TAutomaton} {x : Int} (h : goodB g a x 0 = true) : validG g = true ∧ validA a = true ∧ 0 ≤ x ∧ x < g.Values.length := by
  unfold goodB inB at h
  simp only [Bool.and_eq_true, decide_eq_true_eq] at h
  exact ⟨h.1.1.1, h.1.1.2, h.1.2.1, by omega⟩
theorem both_good (g : TGraph) (a : TAutomaton) (x : Int) : bothB g a [x] = goodB g a x 0 := by
  unfold bothB goodB
  cases hv : validA a with
  | false => simp
  | true =>
    have hA := validA_len hv
    have e : inB 0 0 ((a.Accept.length : Int) - 1) = true := by unfold inB; simp; omega
    rw [e]
    simp only [List.all_cons, List.all_nil, Bool.and_true]
    cases inB x 0 ((g.Values.length : Int) - 1) <;> cases validG g <;> rfl
end Go.Q
namespace Go.Proofs.Ytjmbiiciogakoaa
open Go.RowKit Go.Q Go.D
end Go.Proofs.Ytjmbiiciogakoaa
