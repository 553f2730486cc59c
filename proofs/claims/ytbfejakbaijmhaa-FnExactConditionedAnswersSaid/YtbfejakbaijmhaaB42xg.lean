/- The least cost of a way: the plain law of two searches that go on until nothing changes. -/
import Derived.Test.YtbfejakbaijmhaaB21xg
set_option linter.unusedVariables false
set_option linter.unusedSimpArgs false
set_option maxHeartbeats 1000000
set_option maxRecDepth 100000
namespace Go.Q
open Go.D
/-- There is a way of cost d from i to a goal. -/
inductive WC (E : Nat → List (Int × Int)) (G : Nat → Bool) : Nat → Int → Prop where
  | goal {i : Nat} : G i = true → WC E G i 0
  | step {i : Nat} {z c d : Int} : (z, c) ∈ E i → WC E G z.toNat d → WC E G i (c + d)
theorem atI_setN {O : List Int} {k j : Nat} {v : Int} (hk : k < O.length) : atI (O.set k v) (j : Int) = if j = k then v else atI O (j : Int) := by
  unfold atI
  simp only [Int.toNat_natCast]
  rw [List.getElem?_set]
  by_cases e : j = k
  · subst e; rw [if_pos rfl, if_pos hk, if_pos rfl]; rfl
  · rw [if_neg (fun h => e h.symm), if_neg e]
theorem negs_set_same {v : Int} (hv : 0 ≤ v) : ∀ {out : List Int} {k : Nat} {x : Int}, out[k]? = some x → 0 ≤ x → negs (out.set k v) = negs out
  | [], _, _, h, _ => by simp at h
  | y :: l, 0, x, h, hx => by
    simp at h
    subst h
    rw [List.set_cons_zero, negs_cons, negs_cons, if_neg (by omega), if_neg (by omega)]
  | y :: l, k + 1, x, h, hx => by
    rw [List.set_cons_succ, negs_cons, negs_cons, negs_set_same hv (out := l) (k := k) (by simpa using h) hx]
def phi (B : Nat) (O : List Int) : Nat := (O.map fun v => if v < 0 then B else v.toNat).sum
theorem phi_set {B : Nat} {v : Int} : ∀ {O : List Int} {k : Nat} {x : Int}, O[k]? = some x → phi B (O.set k v) + (if x < 0 then B else x.toNat) = phi B O + (if v < 0 then B else v.toNat)
  | [], _, _, h => by simp at h
  | y :: l, 0, x, h => by
    simp at h
    subst h
    unfold phi
    simp; omega
  | y :: l, k + 1, x, h => by
    have := phi_set (B := B) (v := v) (O := l) (k := k) (by simpa using h)
    unfold phi at *
    simp only [List.set_cons_succ, List.map_cons, List.sum_cons]
    omega
/-- What holds of the costs all the way. -/
structure CI (E : Nat → List (Int × Int)) (G : Nat → Bool) (N : Nat) (O : List Int) : Prop where
  len : O.length = N
  lo : ∀ v ∈ O, -1 ≤ v
  hi : ∀ v ∈ O, v + 9 * (negs O : Int) ≤ 9 * N
  snd : ∀ i, i < N → 0 ≤ atI O (i : Int) → WC E G i (atI O (i : Int))
  gl : ∀ i, i < N → G i = true → atI O (i : Int) = 0
def fixd (O : List Int) (i : Nat) (e : Int × Int) : Prop := atI O e.1 < 0 ∨ (0 ≤ atI O (i : Int) ∧ atI O (i : Int) ≤ atI O e.1 + e.2)
section
variable {E : Nat → List (Int × Int)} {G : Nat → Bool} {N : Nat} {O : List Int}
theorem CI.at (h : CI E G N O) {i : Nat} (hi : i < N) : -1 ≤ atI O (i : Int) ∧ atI O (i : Int) + 9 * (negs O : Int) ≤ 9 * N := by
  have hm := List.mem_of_getElem? (atI_get (out := O) (k := (i : Int)) (by rw [h.len]; simpa using hi))
  exact ⟨h.lo _ hm, h.hi _ hm⟩
theorem CI.step (h : CI E G N O) {i : Nat} {z c : Int} (hi : i < N) (he : (z, c) ∈ E i) (hz : 0 ≤ z ∧ z < N) (hc : 0 ≤ c ∧ c ≤ 9) (hd : 0 ≤ atI O z) (hl : atI O (i : Int) < 0 ∨ atI O z + c < atI O (i : Int)) :
    CI E G N (O.set i (atI O z + c)) ∧ phi (9 * N + 1) (O.set i (atI O z + c)) < phi (9 * N + 1) O := by
  obtain ⟨zn, rfl⟩ := Int.eq_ofNat_of_zero_le hz.1
  have hzN : zn < N := by omega
  have hil : i < O.length := by rw [h.len]; exact hi
  have hgi : O[i]? = some (atI O (i : Int)) := by have := atI_get (out := O) (k := (i : Int)) (by simpa using hil); simpa using this
  have hzv := h.at hzN
  have hiv := h.at hi
  have hng : negs O = negs (O.set i (atI O (zn : Int) + c)) + (if atI O (i : Int) < 0 then 1 else 0) := by
    by_cases hn : atI O (i : Int) < 0
    · rw [if_pos hn]; exact (negs_set (by omega) hgi hn).symm
    · rw [if_neg hn, negs_set_same (by omega) hgi (by omega)]; omega
  constructor
  · refine ⟨by rw [List.length_set]; exact h.len, fun v hv => ?_, fun v hv => ?_, fun j hj hjv => ?_, fun j hj hG => ?_⟩
    · rcases List.mem_or_eq_of_mem_set hv with hv | rfl
      · exact h.lo v hv
      · omega
    · rcases List.mem_or_eq_of_mem_set hv with hv | rfl
      · have := h.hi v hv
        split at hng <;> omega
      · split at hng <;> omega
    · rw [atI_setN hil] at hjv ⊢
      by_cases e : j = i
      · subst e
        rw [if_pos rfl, Int.add_comm]
        exact .step he (by simpa using h.snd zn hzN hd)
      · rw [if_neg e] at hjv ⊢
        exact h.snd j hj hjv
    · rw [atI_setN hil]
      by_cases e : j = i
      · subst e
        have := h.gl j hj hG
        omega
      · rw [if_neg e]; exact h.gl j hj hG
  · have hp := phi_set (B := 9 * N + 1) (v := atI O (zn : Int) + c) hgi
    rw [if_neg (show ¬ atI O (zn : Int) + c < 0 by omega)] at hp
    by_cases hn : atI O (i : Int) < 0
    · rw [if_pos hn] at hp hng; omega
    · rw [if_neg hn] at hp hng; omega
theorem CI.least (h : CI E G N O) (hE : ∀ i, i < N → ∀ e ∈ E i, 0 ≤ e.1 ∧ e.1 < N) (hf : ∀ i, i < N → ∀ e ∈ E i, fixd O i e) {i : Nat} {d : Int} (hw : WC E G i d) : i < N → 0 ≤ atI O (i : Int) ∧ atI O (i : Int) ≤ d := by
  induction hw with
  | goal hg => intro hi; rw [h.gl _ hi hg]; omega
  | @step i z c d he _ ih =>
    intro hi
    have hz := hE i hi _ he
    have h1 := ih (show z.toNat < N by have h5 : (z, c).1 < (N : Int) := hz.2; have h6 : 0 ≤ (z, c).1 := hz.1; dsimp only at h5 h6; omega)
    have hzz : ((z.toNat : Nat) : Int) = z := Int.toNat_of_nonneg hz.1
    rw [hzz] at h1
    rcases hf i hi _ he with h2 | h2
    · simp only at h2; omega
    · simp only at h2; omega
/-- Two ends of such searches are one. -/
theorem CI.same {O' : List Int} (h : CI E G N O) (h' : CI E G N O') (hE : ∀ i, i < N → ∀ e ∈ E i, 0 ≤ e.1 ∧ e.1 < N) (hf : ∀ i, i < N → ∀ e ∈ E i, fixd O i e) (hf' : ∀ i, i < N → ∀ e ∈ E i, fixd O' i e) {i : Nat} (hi : i < N) : atI O (i : Int) = atI O' (i : Int) := by
  have a1 := (h.at hi).1
  have a2 := (h'.at hi).1
  by_cases h1 : 0 ≤ atI O (i : Int)
  · have b1 := h'.least hE hf' (h.snd i hi h1) hi
    have b2 := h.least hE hf (h'.snd i hi b1.1) hi
    omega
  · by_cases h2 : 0 ≤ atI O' (i : Int)
    · have b2 := h.least hE hf (h'.snd i hi h2) hi
      omega
    · omega
end
/-! ### Costs with numbers of steps -/
def lessW (w v : Int × Int) : Bool := decide (v.1 < 0) || (decide (w.1 < v.1) || (decide (w.1 = v.1) && decide (w.2 < v.2)))
def sumS (W : List (Int × Int)) : Nat := (W.map fun w => w.2.toNat).sum
def atW (W : List (Int × Int)) (k : Int) : Int × Int := W[k.toNat]?.getD (0, 0)
theorem atW_fst (W : List (Int × Int)) (k : Int) : (atW W k).1 = atI (W.map (·.1)) k := by
  unfold atW atI
  rw [List.getElem?_map]
  cases W[k.toNat]? <;> rfl
theorem atW_get {W : List (Int × Int)} {k : Int} (h : k.toNat < W.length) : W[k.toNat]? = some (atW W k) := by
  unfold atW; rw [List.getElem?_eq_getElem h]; rfl
theorem sumS_set {v : Int × Int} : ∀ {W : List (Int × Int)} {k : Nat} {x : Int × Int}, W[k]? = some x → sumS (W.set k v) + x.2.toNat = sumS W + v.2.toNat
  | [], _, _, h => by simp at h
  | y :: l, 0, x, h => by
    simp at h
    subst h
    unfold sumS
    simp; omega
  | y :: l, k + 1, x, h => by
    have := sumS_set (v := v) (W := l) (k := k) (by simpa using h)
    unfold sumS at *
    simp only [List.set_cons_succ, List.map_cons, List.sum_cons]
    omega
theorem sumS_le {b : Nat} : ∀ {W : List (Int × Int)}, (∀ w ∈ W, w.2 ≤ b) → sumS W ≤ W.length * b
  | [], _ => by simp [sumS]
  | y :: l, h => by
    have h1 := sumS_le (W := l) fun v hv => h v (by simp [hv])
    have h2 := h y (by simp)
    unfold sumS at *
    simp only [List.map_cons, List.sum_cons, List.length_cons, Nat.succ_mul]
    omega
structure CW (E : Nat → List (Int × Int)) (G : Nat → Bool) (N P0 : Nat) (W : List (Int × Int)) : Prop where
  ci : CI E G N (W.map (·.1))
  ps : phi (9 * N + 1) (W.map (·.1)) ≤ P0
  st : ∀ w ∈ W, 0 ≤ w.2 ∧ w.2 + phi (9 * N + 1) (W.map (·.1)) ≤ P0
def msW (N P0 : Nat) (W : List (Int × Int)) : Nat := phi (9 * N + 1) (W.map (·.1)) * (N * P0 + 1) + sumS W
section
variable {E : Nat → List (Int × Int)} {G : Nat → Bool} {N P0 : Nat} {W : List (Int × Int)}
theorem CW.len (h : CW E G N P0 W) : W.length = N := by have := h.ci.len; simpa using this
theorem CW.step (h : CW E G N P0 W) {i : Nat} {z c : Int} (hi : i < N) (he : (z, c) ∈ E i) (hz : 0 ≤ z ∧ z < N) (hc : 0 ≤ c ∧ c ≤ 9) (hd : 0 ≤ (atW W z).1) (hl : lessW ((atW W z).1 + c, (atW W z).2 + 1) (atW W (i : Int)) = true) :
    CW E G N P0 (W.set i ((atW W z).1 + c, (atW W z).2 + 1)) ∧ msW N P0 (W.set i ((atW W z).1 + c, (atW W z).2 + 1)) < msW N P0 W := by
  have hil : i < W.length := by rw [h.len]; exact hi
  have hgi : W[i]? = some (atW W (i : Int)) := by have := atW_get (W := W) (k := (i : Int)) (by simpa using hil); simpa using this
  have hgz : W[z.toNat]? = some (atW W z) := atW_get (by rw [h.len]; omega)
  have hsz := h.st _ (List.mem_of_getElem? hgz)
  have hsi := h.st _ (List.mem_of_getElem? hgi)
  have hmap : (W.set i ((atW W z).1 + c, (atW W z).2 + 1)).map (·.1) = (W.map (·.1)).set i ((atW W z).1 + c) := by rw [List.map_set]
  have hz1 := atW_fst W z
  have hi1 := atW_fst W (i : Int)
  unfold lessW at hl
  simp only [Bool.or_eq_true, Bool.and_eq_true, decide_eq_true_eq] at hl
  by_cases hcost : (atW W (i : Int)).1 < 0 ∨ (atW W z).1 + c < (atW W (i : Int)).1
  · obtain ⟨g1, g2⟩ := h.ci.step hi he hz hc (by rw [← hz1]; exact hd) (by rw [← hz1, ← hi1]; exact hcost)
    rw [← hz1, ← hmap] at g1 g2
    have hst : ∀ w ∈ W.set i ((atW W z).1 + c, (atW W z).2 + 1), 0 ≤ w.2 ∧ w.2 + phi (9 * N + 1) ((W.set i ((atW W z).1 + c, (atW W z).2 + 1)).map (·.1)) ≤ P0 := fun w hw => by
      rcases List.mem_or_eq_of_mem_set hw with hw | rfl
      · have := h.st w hw; omega
      · simp only; omega
    have hps := h.ps
    refine ⟨⟨g1, by omega, hst⟩, ?_⟩
    have hs := sumS_le (b := P0) (W := W.set i ((atW W z).1 + c, (atW W z).2 + 1)) fun w hw => by have := hst w hw; omega
    rw [List.length_set, h.len] at hs
    unfold msW
    have := Nat.mul_le_mul_right (N * P0 + 1) (Nat.succ_le_of_lt g2)
    rw [Nat.succ_mul] at this
    omega
  · have heq : (atW W z).1 + c = (atW W (i : Int)).1 ∧ (atW W z).2 + 1 < (atW W (i : Int)).2 := by
      rcases hl with h1 | h1 | h1
      · omega
      · omega
      · exact h1
    have hsame : (W.set i ((atW W z).1 + c, (atW W z).2 + 1)).map (·.1) = W.map (·.1) := by
      rw [hmap, heq.1]
      apply List.ext_getElem?
      intro j
      rw [List.getElem?_set]
      by_cases e : i = j
      · subst e
        rw [if_pos rfl, if_pos (by simpa using hil), List.getElem?_map, hgi]; rfl
      · rw [if_neg e]
    refine ⟨⟨by rw [hsame]; exact h.ci, by rw [hsame]; exact h.ps, fun w hw => ?_⟩, ?_⟩
    · rw [hsame]
      rcases List.mem_or_eq_of_mem_set hw with hw | rfl
      · exact h.st w hw
      · simp only; omega
    · have hs := sumS_set (v := ((atW W z).1 + c, (atW W z).2 + 1)) hgi
      unfold msW
      rw [hsame]
      simp only at hs
      omega
end
end Go.Q
