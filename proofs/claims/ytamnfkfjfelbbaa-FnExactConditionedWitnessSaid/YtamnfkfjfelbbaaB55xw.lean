import Derived.Test.YtamnfkfjfelbbaaB21xw
import Derived.Test.YtamnfkfjfelbbaaAbs16xw
import Derived.Test.YtamnfkfjfelbbaaAbsOxw
import Derived.Test.YtamnfkfjfelbbaaB54xw
import Derived.Test.YtamnfkfjfelbbaaB18xw
import Derived.Test.YtamnfkfjfelbbaaB05xw
set_option linter.unusedVariables false
set_option linter.unusedSimpArgs false
set_option maxHeartbeats 1000000
set_option maxRecDepth 100000
namespace Go.Q
open Go.D
inductive WC (E : Nat → List (Int × Int)) (G : Nat → Bool) : Nat → Int → Prop where
 | goal {i : Nat} : G i = true → WC E G i 0
 | step {i : Nat} {z c d : Int} : (z, c) ∈ E i → WC E G z.toNat d → WC E G i (c + d)
theorem atI_setN {O : List Int} {k j : Nat} {v : Int} (hk : k < O.length) : atI (O.set k v) (j : Int) = if j = k then v else atI O (j : Int) := by
 unfold atI
 simp only [Int.toNat_natCast]
 rw [List.getElem?_set]
 by_cases e : j = k
 · subst e; rw [if_pos rfl, if_pos hk, if_pos rfl]; rfl
 · rw [if_neg (fun h => e h.symm), if_neg e]
theorem negs_set_same {v : Int} (hv : 0 ≤ v) : ∀ {out : List Int} {k : Nat} {x : Int}, out[k]? = some x → 0 ≤ x → negs (out.set k v) = negs out
 | [], _, _, h, _ => by simp at h
 | y :: l, 0, x, h, hx => by
  simp at h
  subst h
  rw [List.set_cons_zero, negs_cons, negs_cons, if_neg (by omega), if_neg (by omega)]
 | y :: l, k + 1, x, h, hx => by
  rw [List.set_cons_succ, negs_cons, negs_cons, negs_set_same hv (out := l) (k := k) (by simpa using h) hx]
def phi (B : Nat) (O : List Int) : Nat := (O.map fun v => if v < 0 then B else v.toNat).sum
theorem phi_set {B : Nat} {v : Int} : ∀ {O : List Int} {k : Nat} {x : Int}, O[k]? = some x → phi B (O.set k v) + (if x < 0 then B else x.toNat) = phi B O + (if v < 0 then B else v.toNat)
 | [], _, _, h => by simp at h
 | y :: l, 0, x, h => by
  simp at h
  subst h
  unfold phi
  simp; omega
 | y :: l, k + 1, x, h => by
  have := phi_set (B := B) (v := v) (O := l) (k := k) (by simpa using h)
  unfold phi at *
  simp only [List.set_cons_succ, List.map_cons, List.sum_cons]
  omega
structure CI (E : Nat → List (Int × Int)) (G : Nat → Bool) (N : Nat) (O : List Int) : Prop where
 len : O.length = N
 lo : ∀ v ∈ O, -1 ≤ v
 hi : ∀ v ∈ O, v + 9 * (negs O : Int) ≤ 9 * N
 snd : ∀ i, i < N → 0 ≤ atI O (i : Int) → WC E G i (atI O (i : Int))
 gl : ∀ i, i < N → G i = true → atI O (i : Int) = 0
def fixd (O : List Int) (i : Nat) (e : Int × Int) : Prop := atI O e.1 < 0 ∨ (0 ≤ atI O (i : Int) ∧ atI O (i : Int) ≤ atI O e.1 + e.2)
section
variable {E : Nat → List (Int × Int)} {G : Nat → Bool} {N : Nat} {O : List Int}
theorem CI.at (h : CI E G N O) {i : Nat} (hi : i < N) : -1 ≤ atI O (i : Int) ∧ atI O (i : Int) + 9 * (negs O : Int) ≤ 9 * N := by
 have hm := List.mem_of_getElem? (atI_get (out := O) (k := (i : Int)) (by rw [h.len]; simpa using hi))
 exact ⟨h.lo _ hm, h.hi _ hm⟩
theorem CI.step (h : CI E G N O) {i : Nat} {z c : Int} (hi : i < N) (he : (z, c) ∈ E i) (hz : 0 ≤ z ∧ z < N) (hc : 0 ≤ c ∧ c ≤ 9) (hd : 0 ≤ atI O z) (hl : atI O (i : Int) < 0 ∨ atI O z + c < atI O (i : Int)) :
 CI E G N (O.set i (atI O z + c)) ∧ phi (9 * N + 1) (O.set i (atI O z + c)) < phi (9 * N + 1) O := by
 obtain ⟨zn, rfl⟩ := Int.eq_ofNat_of_zero_le hz.1
 have hzN : zn < N := by omega
 have hil : i < O.length := by rw [h.len]; exact hi
 have hgi : O[i]? = some (atI O (i : Int)) := by have := atI_get (out := O) (k := (i : Int)) (by simpa using hil); simpa using this
 have hzv := h.at hzN
 have hiv := h.at hi
 have hng : negs O = negs (O.set i (atI O (zn : Int) + c)) + (if atI O (i : Int) < 0 then 1 else 0) := by
  by_cases hn : atI O (i : Int) < 0
  · rw [if_pos hn]; exact (negs_set (by omega) hgi hn).symm
  · rw [if_neg hn, negs_set_same (by omega) hgi (by omega)]; omega
 constructor
 · refine ⟨by rw [List.length_set]; exact h.len, fun v hv => ?_, fun v hv => ?_, fun j hj hjv => ?_, fun j hj hG => ?_⟩
   · rcases List.mem_or_eq_of_mem_set hv with hv | rfl
     · exact h.lo v hv
     · omega
   · rcases List.mem_or_eq_of_mem_set hv with hv | rfl
     · have := h.hi v hv
       split at hng <;> omega
     · split at hng <;> omega
   · rw [atI_setN hil] at hjv ⊢
     by_cases e : j = i
     · subst e
       rw [if_pos rfl, Int.add_comm]
       exact .step he (by simpa using h.snd zn hzN hd)
     · rw [if_neg e] at hjv ⊢
       exact h.snd j hj hjv
   · rw [atI_setN hil]
     by_cases e : j = i
     · subst e
       have := h.gl j hj hG
       omega
     · rw [if_neg e]; exact h.gl j hj hG
 · have hp := phi_set (B := 9 * N + 1) (v := atI O (zn : Int) + c) hgi
   rw [if_neg (show ¬ atI O (zn : Int) + c < 0 by omega)] at hp
   by_cases hn : atI O (i : Int) < 0
   · rw [if_pos hn] at hp hng; omega
   · rw [if_neg hn] at hp hng; omega
theorem CI.least (h : CI E G N O) (hE : ∀ i, i < N → ∀ e ∈ E i, 0 ≤ e.1 ∧ e.1 < N) (hf : ∀ i, i < N → ∀ e ∈ E i, fixd O i e) {i : Nat} {d : Int} (hw : WC E G i d) : i < N → 0 ≤ atI O (i : Int) ∧ atI O (i : Int) ≤ d := by
 induction hw with
 | goal hg => intro hi; rw [h.gl _ hi hg]; omega
 | @step i z c d he _ ih =>
  intro hi
  have hz := hE i hi _ he
  have h1 := ih (show z.toNat < N by have h5 : (z, c).1 < (N : Int) := hz.2; have h6 : 0 ≤ (z, c).1 := hz.1; dsimp only at h5 h6; omega)
  have hzz : ((z.toNat : Nat) : Int) = z := Int.toNat_of_nonneg hz.1
  rw [hzz] at h1
  rcases hf i hi _ he with h2 | h2
  · simp only at h2; omega
  · simp only at h2; omega
theorem CI.same {O' : List Int} (h : CI E G N O) (h' : CI E G N O') (hE : ∀ i, i < N → ∀ e ∈ E i, 0 ≤ e.1 ∧ e.1 < N) (hf : ∀ i, i < N → ∀ e ∈ E i, fixd O i e) (hf' : ∀ i, i < N → ∀ e ∈ E i, fixd O' i e) {i : Nat} (hi : i < N) : atI O (i : Int) = atI O' (i : Int) := by
 have a1 := (h.at hi).1
 have a2 := (h'.at hi).1
 by_cases h1 : 0 ≤ atI O (i : Int)
 · have b1 := h'.least hE hf' (h.snd i hi h1) hi
   have b2 := h.least hE hf (h'.snd i hi b1.1) hi
   omega
 · by_cases h2 : 0 ≤ atI O' (i : Int)
   · have b2 := h.least hE hf (h'.snd i hi h2) hi
     omega
   · omega
end
def lessW (w v : Int × Int) : Bool := decide (v.1 < 0) || (decide (w.1 < v.1) || (decide (w.1 = v.1) && decide (w.2 < v.2)))
def sumS (W : List (Int × Int)) : Nat := (W.map fun w => w.2.toNat).sum
def atW (W : List (Int × Int)) (k : Int) : Int × Int := W[k.toNat]?.getD (0, 0)
theorem atW_fst (W : List (Int × Int)) (k : Int) : (atW W k).1 = atI (W.map (·.1)) k := by
 unfold atW atI
 rw [List.getElem?_map]
 cases W[k.toNat]? <;> rfl
theorem atW_get {W : List (Int × Int)} {k : Int} (h : k.toNat < W.length) : W[k.toNat]? = some (atW W k) := by
 unfold atW; rw [List.getElem?_eq_getElem h]; rfl
theorem sumS_set {v : Int × Int} : ∀ {W : List (Int × Int)} {k : Nat} {x : Int × Int}, W[k]? = some x → sumS (W.set k v) + x.2.toNat = sumS W + v.2.toNat
 | [], _, _, h => by simp at h
 | y :: l, 0, x, h => by
  simp at h
  subst h
  unfold sumS
  simp; omega
 | y :: l, k + 1, x, h => by
  have := sumS_set (v := v) (W := l) (k := k) (by simpa using h)
  unfold sumS at *
  simp only [List.set_cons_succ, List.map_cons, List.sum_cons]
  omega
theorem sumS_le {b : Nat} : ∀ {W : List (Int × Int)}, (∀ w ∈ W, w.2 ≤ b) → sumS W ≤ W.length * b
 | [], _ => by simp [sumS]
 | y :: l, h => by
  have h1 := sumS_le (W := l) fun v hv => h v (by simp [hv])
  have h2 := h y (by simp)
  unfold sumS at *
  simp only [List.map_cons, List.sum_cons, List.length_cons, Nat.succ_mul]
  omega
structure CW (E : Nat → List (Int × Int)) (G : Nat → Bool) (N P0 : Nat) (W : List (Int × Int)) : Prop where
 ci : CI E G N (W.map (·.1))
 ps : phi (9 * N + 1) (W.map (·.1)) ≤ P0
 st : ∀ w ∈ W, 0 ≤ w.2 ∧ w.2 + phi (9 * N + 1) (W.map (·.1)) ≤ P0
def msW (N P0 : Nat) (W : List (Int × Int)) : Nat := phi (9 * N + 1) (W.map (·.1)) * (N * P0 + 1) + sumS W
section
variable {E : Nat → List (Int × Int)} {G : Nat → Bool} {N P0 : Nat} {W : List (Int × Int)}
theorem CW.len (h : CW E G N P0 W) : W.length = N := by have := h.ci.len; simpa using this
theorem CW.step (h : CW E G N P0 W) {i : Nat} {z c : Int} (hi : i < N) (he : (z, c) ∈ E i) (hz : 0 ≤ z ∧ z < N) (hc : 0 ≤ c ∧ c ≤ 9) (hd : 0 ≤ (atW W z).1) (hl : lessW ((atW W z).1 + c, (atW W z).2 + 1) (atW W (i : Int)) = true) :
 CW E G N P0 (W.set i ((atW W z).1 + c, (atW W z).2 + 1)) ∧ msW N P0 (W.set i ((atW W z).1 + c, (atW W z).2 + 1)) < msW N P0 W := by
 have hil : i < W.length := by rw [h.len]; exact hi
 have hgi : W[i]? = some (atW W (i : Int)) := by have := atW_get (W := W) (k := (i : Int)) (by simpa using hil); simpa using this
 have hgz : W[z.toNat]? = some (atW W z) := atW_get (by rw [h.len]; omega)
 have hsz := h.st _ (List.mem_of_getElem? hgz)
 have hsi := h.st _ (List.mem_of_getElem? hgi)
 have hmap : (W.set i ((atW W z).1 + c, (atW W z).2 + 1)).map (·.1) = (W.map (·.1)).set i ((atW W z).1 + c) := by rw [List.map_set]
 have hz1 := atW_fst W z
 have hi1 := atW_fst W (i : Int)
 unfold lessW at hl
 simp only [Bool.or_eq_true, Bool.and_eq_true, decide_eq_true_eq] at hl
 by_cases hcost : (atW W (i : Int)).1 < 0 ∨ (atW W z).1 + c < (atW W (i : Int)).1
 · obtain ⟨g1, g2⟩ := h.ci.step hi he hz hc (by rw [← hz1]; exact hd) (by rw [← hz1, ← hi1]; exact hcost)
   rw [← hz1, ← hmap] at g1 g2
   have hst : ∀ w ∈ W.set i ((atW W z).1 + c, (atW W z).2 + 1), 0 ≤ w.2 ∧ w.2 + phi (9 * N + 1) ((W.set i ((atW W z).1 + c, (atW W z).2 + 1)).map (·.1)) ≤ P0 := fun w hw => by
    rcases List.mem_or_eq_of_mem_set hw with hw | rfl
    · have := h.st w hw; omega
    · simp only; omega
   have hps := h.ps
   refine ⟨⟨g1, by omega, hst⟩, ?_⟩
   have hs := sumS_le (b := P0) (W := W.set i ((atW W z).1 + c, (atW W z).2 + 1)) fun w hw => by have := hst w hw; omega
   rw [List.length_set, h.len] at hs
   unfold msW
   have := Nat.mul_le_mul_right (N * P0 + 1) (Nat.succ_le_of_lt g2)
   rw [Nat.succ_mul] at this
   omega
 · have heq : (atW W z).1 + c = (atW W (i : Int)).1 ∧ (atW W z).2 + 1 < (atW W (i : Int)).2 := by
    rcases hl with h1 | h1 | h1
    · omega
    · omega
    · exact h1
   have hsame : (W.set i ((atW W z).1 + c, (atW W z).2 + 1)).map (·.1) = W.map (·.1) := by
    rw [hmap, heq.1]
    apply List.ext_getElem?
    intro j
    rw [List.getElem?_set]
    by_cases e : i = j
    · subst e
      rw [if_pos rfl, if_pos (by simpa using hil), List.getElem?_map, hgi]; rfl
    · rw [if_neg e]
   refine ⟨⟨by rw [hsame]; exact h.ci, by rw [hsame]; exact h.ps, fun w hw => ?_⟩, ?_⟩
   · rw [hsame]
     rcases List.mem_or_eq_of_mem_set hw with hw | rfl
     · exact h.st w hw
     · simp only; omega
   · have hs := sumS_set (v := ((atW W z).1 + c, (atW W z).2 + 1)) hgi
     unfold msW
     rw [hsame]
     simp only at hs
     omega
end
end Go.Q
namespace Go.Q
open Go.RowKit
def swN (u v i : Nat) : Nat := bif Nat.beq i u then v else bif Nat.beq i v then u else i
theorem swN_if (u v i : Nat) : swN u v i = if i = u then v else if i = v then u else i := by
 unfold swN
 have e : ∀ a b : Nat, Nat.beq a b = decide (a = b) := fun a b => by
  cases h : Nat.beq a b with
  | true => simp [Nat.eq_of_beq_eq_true h]
  | false => simp [Nat.ne_of_beq_eq_false h]
 rw [e, e]
 by_cases h1 : i = u
 · simp [h1]
 · by_cases h2 : i = v
   · simp [h1, h2]
   · simp [h1, h2]
theorem swN_swN (u v i : Nat) : swN u v (swN u v i) = i := by
 rw [swN_if, swN_if]
 by_cases h1 : i = u
 · subst h1
   rw [if_pos rfl]
   by_cases h2 : v = i
   · rw [if_pos h2, h2]
   · rw [if_neg h2, if_pos rfl]
 · rw [if_neg h1]
   by_cases h2 : i = v
   · subst h2; rw [if_pos rfl, if_pos rfl]
   · rw [if_neg h2, if_neg h1, if_neg h2]
theorem swN_inj {u v i j : Nat} (h : swN u v i = swN u v j) : i = j := by
 have := congrArg (swN u v) h
 rwa [swN_swN, swN_swN] at this
def swE (u v : Nat) : E → E
 | .t x => .t x
 | .rf id => .rf (swN u v id)
 | .vw id x => .vw (swN u v id) x
 | .pp id o => .pp (swN u v id) o
 | .pr id k i j => .pr (swN u v id) k i j
 | .sb id k i j => .sb (swN u v id) k i j
 | .tl id k j => .tl (swN u v id) k j
 | .pf id k m => .pf (swN u v id) k m
 | .no => .no
def swEs (u v : Nat) : List E → List E
 | [] => []
 | e :: r => swE u v e :: swEs u v r
def swA (u v : Nat) : A → A
 | .one e => .one (swE u v e)
 | .agg l => .agg (swEs u v l)
def swAs (u v : Nat) : List A → List A
 | [] => []
 | e :: r => swA u v e :: swAs u v r
def swS (u v : Nat) : S → S
 | .a x => .a (swA u v x)
 | .tup l => .tup (swAs u v l)
def swR (u v : Nat) : R → R
 | .row k rows => .row k rows
 | .box cs => .box (swEs u v cs)
 | .hdr none x => .hdr none x
 | .hdr (some j) x => .hdr (some (swN u v j)) x
 | .kept K => .kept K
 | .opq => .opq
 | .cur g => .cur g
 | .mp b f => .mp b f
def swSl (u v : Nat) : List (Nat × (Bool × S)) → List (Nat × (Bool × S))
 | [] => []
 | (i, p, x) :: r => (i, p, swS u v x) :: swSl u v r
def swRl (u v : Nat) : List (Nat × R) → List (Nat × R)
 | [] => []
 | (i, x) :: r => (swN u v i, swR u v x) :: swRl u v r
def St.sw (u v : Nat) (σ : St) : St := ⟨σ.n, swSl u v σ.slots, swRl u v σ.res⟩
def Ip.sw (u v : Nat) (I : Ip) : Ip := ⟨I.Z, fun i => I.F (swN u v i), fun i => I.hd (swN u v i), fun i => I.B (swN u v i)⟩
section
variable {u v : Nat} {I : Ip} {w : World}
theorem VE.sw {e : E} {c : Value} (h : VE I w e c) : VE (I.sw u v) w (swE u v e) c := by
 cases e <;> simp only [VE, swE, Ip.sw, swN_swN] at h ⊢ <;> exact h
theorem VEs.sw : ∀ {l : List E} {cs : List Value}, VEs I w l cs → VEs (I.sw u v) w (swEs u v l) cs
 | [], _, h => h
 | e :: r, cs, h => by
  obtain ⟨c, cr, h1, h2, h3⟩ := h
  exact ⟨c, cr, h1, h2.sw, VEs.sw h3⟩
theorem VA.sw {x : A} {c : Value} (h : VA I w x c) : VA (I.sw u v) w (swA u v x) c := by
 cases x with
 | one e => exact VE.sw (show VE I w e c from h)
 | agg l => obtain ⟨cs, h1, h2⟩ := h; exact ⟨cs, h1, h2.sw⟩
theorem VAs.sw : ∀ {l : List A} {cs : List Value}, VAs I w l cs → VAs (I.sw u v) w (swAs u v l) cs
 | [], _, h => h
 | e :: r, cs, h => by
  obtain ⟨c, cr, h1, h2, h3⟩ := h
  exact ⟨c, cr, h1, h2.sw, VAs.sw h3⟩
theorem VS.sw {p : Bool} {x : S} {c : Value} (h : VS I w (p, x) c) : VS (I.sw u v) w (p, swS u v x) c := by
 unfold VS at h ⊢
 simp only at h ⊢
 split at h
 · rename_i hp
   rw [if_pos hp]
   cases x with
   | a x => exact VA.sw h
   | tup l => obtain ⟨vs, h1, h2⟩ := h; exact ⟨vs, h1, h2.sw⟩
 · rename_i hp
   rw [if_neg hp]; exact h
theorem RR.sw {id : Nat} {r : R} (h : RR I w id r) : RR (I.sw u v) w (swN u v id) (swR u v r) := by
 cases r with
 | row k rows => unfold RR swR Ip.sw; simp only [swN_swN]; exact h
 | box cs =>
  obtain ⟨h1, vs, e, h2, h3⟩ := h
  unfold RR swR
  simp only
  refine ⟨by simpa only [Ip.sw, swN_swN] using h1, vs, e, by simpa only [Ip.sw, swN_swN] using h2, h3.sw⟩
 | opq => trivial
 | cur g => unfold RR swR Ip.sw; simp only [swN_swN]; exact h
 | mp b f => unfold RR swR Ip.sw; simp only [swN_swN]; exact h
 | kept K => exact ⟨by unfold Ip.sw; simp only [swN_swN]; exact h.1, h.2⟩
 | hdr j x =>
  obtain ⟨h1, h2⟩ := h
  cases j with
  | none => exact ⟨by simpa only [Ip.sw, swN_swN] using h1, fun i hi => by cases hi⟩
  | some j =>
   refine ⟨by simpa only [Ip.sw, swN_swN] using h1, fun i hi => ?_⟩
   cases hi
   simpa only [Ip.sw, swN_swN] using h2 j rfl
end
theorem look_swSl (u v : Nat) : ∀ (l : List (Nat × (Bool × S))) (i : Nat) (y : Bool × S), look (swSl u v l) i = some y → ∃ x, look l i = some (y.1, x) ∧ y.2 = swS u v x
 | [], _, _, h => by cases h
 | (k, p, x) :: r, i, y, h => by
  rw [swSl, look_cons] at h
  by_cases e : k = i
  · rw [if_pos e] at h
    cases h
    exact ⟨x, by rw [look_cons, if_pos e], rfl⟩
  · rw [if_neg e] at h
    obtain ⟨x', h1, h2⟩ := look_swSl u v r i y h
    exact ⟨x', by rw [look_cons, if_neg e]; exact h1, h2⟩
theorem look_swRl (u v : Nat) : ∀ (l : List (Nat × R)) (i : Nat) (y : R), look (swRl u v l) i = some y → ∃ x, look l (swN u v i) = some x ∧ y = swR u v x
 | [], _, _, h => by cases h
 | (k, x) :: r, i, y, h => by
  rw [swRl, look_cons] at h
  by_cases e : swN u v k = i
  · rw [if_pos e] at h
    cases h
    exact ⟨x, by rw [look_cons, if_pos (by rw [← e, swN_swN])], rfl⟩
  · rw [if_neg e] at h
    obtain ⟨x', h1, h2⟩ := look_swRl u v r i y h
    exact ⟨x', by rw [look_cons, if_neg (fun h => e (by rw [h, swN_swN]))]; exact h1, h2⟩
theorem Le.sw (u v : Nat) (σ : St) : Le σ (σ.sw u v) := by
 rintro w0 a w ⟨I, h⟩
 refine ⟨I.sw u v, ⟨h.ext, h.defers, h.size, fun i x hx => ?_, fun id r hr => ?_, h.old, fun id b hb => h.lt (swN u v id) b hb, fun id r hr => ?_, fun i j hij b hb => ?_⟩⟩
 · obtain ⟨y, h1, h2⟩ := look_swSl u v σ.slots i x hx
   have := (h.slots i _ h1).sw (u := u) (v := v)
   rw [← h2] at this
   exact this
 · obtain ⟨y, h1, h2⟩ := look_swRl u v σ.res id r hr
   have := (h.res _ _ h1).sw (u := u) (v := v)
   rw [swN_swN, ← h2] at this
   exact this
 · obtain ⟨y, h1, h2⟩ := look_swRl u v σ.res id r hr
   exact h.own _ _ h1
 · exact h.apart (swN u v i) (swN u v j) (fun e => hij (swN_inj e)) b hb
theorem Le.trans {σ σ' σ'' : St} (h1 : Le σ σ') (h2 : Le σ' σ'') : Le σ σ'' := fun w0 a w h => h2 w0 a w (h1 w0 a w h)
section
variable {Q : Exit → St → Prop} {σ : St}
theorem ThenQ.ex {K : St → Prop} {i : Nat} (h : Q (.exit i) σ) : ThenQ K Q (.exit i) σ := h
theorem BlockQ.here {i : Nat} (h : Q .normal σ) : BlockQ i Q (.exit i) σ := by
 show (bif Nat.beq i i then Q .normal σ else Q (.exit i) σ)
 rw [Nat.beq_refl]; exact h
theorem BlockQ.past {i j : Nat} (hne : Nat.beq i j = false) (h : Q (.exit i) σ) : BlockQ j Q (.exit i) σ := by
 show (bif Nat.beq i j then Q .normal σ else Q (.exit i) σ)
 rw [hne]; exact h
theorem Round1.ex {β1 : Type} {Inv : β1 → Prop} {J : β1 → St} {m : β1 → Nat} {a1 : β1} {i : Nat} (h : Q (.exit i) σ) : Round1 Inv J m a1 Q (.exit i) σ := h
theorem Round2.ex {β1 β2 : Type} {Inv : β1 → β2 → Prop} {J : β1 → β2 → St} {m : β1 → β2 → Nat} {a1 : β1} {a2 : β2} {i : Nat} (h : Q (.exit i) σ) : Round2 Inv J m a1 a2 Q (.exit i) σ := h
theorem Round3.ex {β1 β2 β3 : Type} {Inv : β1 → β2 → β3 → Prop} {J : β1 → β2 → β3 → St} {m : β1 → β2 → β3 → Nat} {a1 : β1} {a2 : β2} {a3 : β3} {i : Nat} (h : Q (.exit i) σ) : Round3 Inv J m a1 a2 a3 Q (.exit i) σ := h
theorem Round4.ex {β1 β2 β3 β4 : Type} {Inv : β1 → β2 → β3 → β4 → Prop} {J : β1 → β2 → β3 → β4 → St} {m : β1 → β2 → β3 → β4 → Nat} {a1 : β1} {a2 : β2} {a3 : β3} {a4 : β4} {i : Nat} (h : Q (.exit i) σ) : Round4 Inv J m a1 a2 a3 a4 Q (.exit i) σ := h
theorem Round5.ex {β1 β2 β3 β4 β5 : Type} {Inv : β1 → β2 → β3 → β4 → β5 → Prop} {J : β1 → β2 → β3 → β4 → β5 → St} {m : β1 → β2 → β3 → β4 → β5 → Nat} {a1 : β1} {a2 : β2} {a3 : β3} {a4 : β4} {a5 : β5} {i : Nat} (h : Q (.exit i) σ) : Round5 Inv J m a1 a2 a3 a4 a5 Q (.exit i) σ := h
end
section
variable {P : Program} {ops : Array Oper} {o : Oper} {σ : St} {q : Bool}
end
end Go.Q
namespace Go.Q
open Go.RowKit
section
variable {P : Program}
structure MixD (P : Program) (l : List Oper) (n : Nat) (sl : List (Nat × (Bool × S))) (rs : List (Nat × R)) (outs : List Out) (acc : List (Nat × St)) (todo : List (Nat × List Nat)) (es : List (Nat × Nat × Nat)) (Fin : (Nat → St) → Prop) : Prop where
 pf : ∃ st : Nat → St, (∀ k σ, look acc k = some σ → st k = σ) ∧ (∀ p ∈ todo, Le (stL (memN p.2) 0 outs ⟨n, sl, rs⟩) (st p.1)) ∧ (∀ e ∈ es, ∀ o, l[e.2.1]? = some o → ∀ w0, AWl P w0 l.toArray (EndQ (st e.2.2)) [o] (st e.1)) ∧ Fin st
variable {l : List Oper} {n : Nat} {sl : List (Nat × (Bool × S))} {rs : List (Nat × R)} {outs : List Out} {acc : List (Nat × St)} {todo : List (Nat × List Nat)} {es : List (Nat × Nat × Nat)} {Fin : (Nat → St) → Prop}
theorem MixD.add {b : Nat} {S : List Nat} (σ' : St) (hb : look acc b = none) (hle : Le (stL (memN S) 0 outs ⟨n, sl, rs⟩) σ') (h : MixD P l n sl rs outs ((b, σ') :: acc) todo es Fin) : MixD P l n sl rs outs acc ((b, S) :: todo) es Fin := by
 obtain ⟨st, h1, h2, h3⟩ := h.pf
 have h1' : ∀ k σ, look acc k = some σ → st k = σ := fun k σ hk => h1 k σ (by
  rw [look_cons, if_neg (fun e => ?_)]
  · exact hk
  · subst e; rw [hb] at hk; cases hk)
 refine ⟨st, h1', fun p hp => ?_, h3⟩
 rcases List.mem_cons.1 hp with rfl | hp
 · show Le _ (st b)
   rw [h1 b σ' (by rw [look_cons, if_pos rfl])]
   exact hle
 · exact h2 p hp
theorem MixD.go (h : Dag P l acc es Fin) : MixD P l n sl rs outs acc [] es Fin := by
 obtain ⟨st, h1, h2, h3⟩ := h.pf
 exact ⟨st, h1, fun p hp => (by cases hp), h2, h3⟩
def FinX (P : Program) (w0 : Base) (Q : Exit → St → Prop) (N k : Nat) (B : Nat → List Nat) (es : List (Nat × Nat × Nat)) (todo : List (Nat × List Nat)) (l : List Oper) (n : Nat) (sl : List (Nat × (Bool × S))) (rs : List (Nat × R)) (outs : List Out) : Prop :=
 delS (outs.map (·.1)) sl = sl ∧ outB B ⟨n, sl, rs⟩ outs = true ∧ MixD P l n sl rs outs [] todo es (fun st => AWl P w0 l.toArray Q (l.drop N) (st k))
theorem FinX.mk {w0 : Base} {Q : Exit → St → Prop} {N k : Nat} {B : Nat → List Nat} (hd : delS (outs.map (·.1)) sl = sl) (hU : outB B ⟨n, sl, rs⟩ outs = true) (h : MixD P l n sl rs outs [] todo es (fun st => AWl P w0 l.toArray Q (l.drop N) (st k))) : FinX P w0 Q N k B es todo l n sl rs outs := ⟨hd, hU, h⟩
end
end Go.Q
set_option maxHeartbeats 1000000
set_option maxRecDepth 100000
namespace Go.Q
open Go.D
section
variable {E : Nat → List (Int × Int)} {G : Nat → Bool} {N : Nat} {O : List Int}
noncomputable def leastL (E : Nat → List (Int × Int)) (G : Nat → Bool) (N : Nat) : List Int :=
 open Classical in if h : ∃ O, CI E G N O ∧ ∀ i, i < N → ∀ e ∈ E i, fixd O i e then Classical.choose h else []
theorem leastL_eq (hE : ∀ i, i < N → ∀ e ∈ E i, 0 ≤ e.1 ∧ e.1 < N) (h : CI E G N O) (hf : ∀ i, i < N → ∀ e ∈ E i, fixd O i e) : leastL E G N = O := by
 have hx : ∃ O, CI E G N O ∧ ∀ i, i < N → ∀ e ∈ E i, fixd O i e := ⟨O, h, hf⟩
 unfold leastL
 rw [dif_pos hx]
 obtain ⟨h1, h2⟩ := Classical.choose_spec hx
 refine List.ext_getElem? fun i => ?_
 by_cases hi : i < N
 · have e := CI.same h1 h hE h2 hf hi
   have g1 := atI_get (out := Classical.choose hx) (k := (i : Int)) (by rw [h1.len]; simpa using hi)
   have g2 := atI_get (out := O) (k := (i : Int)) (by rw [h.len]; simpa using hi)
   simp only [Int.toNat_natCast] at g1 g2
   rw [g1, g2, e]
 · rw [List.getElem?_eq_none (by rw [h1.len]; omega), List.getElem?_eq_none (by rw [h.len]; omega)]
end
def edgeOf (g : TGraph) (n : Int) (l : List Int) (s : TProductStep) : Int × Int := (s.Node * n + s.State, stepCost g l s.Step)
def edgesOf (g : TGraph) (a : TAutomaton) (l : List Int) (i : Nat) : List (Int × Int) := (stepsOf g a ((i : Int) / a.Accept.length) ((i : Int) % a.Accept.length)).map (edgeOf g a.Accept.length l)
def goalOf (g : TGraph) (a : TAutomaton) (y : Int) (i : Nat) : Bool := decide ((i : Int) / a.Accept.length = y) && acc a ((i : Int) % a.Accept.length) (g.Values[((i : Int) / a.Accept.length).toNat]?.getD 0)
noncomputable def costsOf (g : TGraph) (a : TAutomaton) (l : List Int) (y : Int) : List Int := leastL (edgesOf g a l) (goalOf g a y) (a.Accept.length * g.Values.length)
end Go.Q
set_option maxHeartbeats 1000000
set_option maxRecDepth 100000
namespace Go.Q
open Go.D
end Go.Q
namespace Go.Proofs.Ytamnfkfjfelbbaa
open Go.RowKit Go.Q Go.D
end Go.Proofs.Ytamnfkfjfelbbaa
set_option maxHeartbeats 1000000
set_option maxRecDepth 100000
namespace Go.Q
open Go.D
end Go.Q
namespace Go.Proofs.Ytamnfkfjfelbbaa
open Go.RowKit Go.Q Go.D
end Go.Proofs.Ytamnfkfjfelbbaa
