/- Breadth first: the plain law and the reference's walk. -/
import Derived.Test.YtbfejakbaijmhaaB18xg
set_option linter.unusedVariables false
set_option linter.unusedSimpArgs false
set_option maxHeartbeats 1000000
set_option maxRecDepth 100000
namespace Go.Q
open Go.D
/-! ### Breadth first -/
def negs (out : List Int) : Nat := (out.filter fun x => decide (x < 0)).length
theorem negs_cons (x : Int) (l : List Int) : negs (x :: l) = (if x < 0 then 1 else 0) + negs l := by
  unfold negs
  rw [List.filter_cons]
  split <;> simp_all <;> omega
theorem negs_set {v : Int} (hv : 0 ≤ v) : ∀ {out : List Int} {k : Nat} {x : Int}, out[k]? = some x → x < 0 → negs (out.set k v) + 1 = negs out
  | [], _, _, h, _ => by simp at h
  | y :: l, 0, x, h, hx => by
    simp at h
    subst h
    rw [List.set_cons_zero, negs_cons, negs_cons, if_neg (by omega), if_pos hx]
    omega
  | y :: l, k + 1, x, h, hx => by
    rw [List.set_cons_succ, negs_cons, negs_cons]
    have := negs_set hv (out := l) (k := k) (by simpa using h) hx
    omega
theorem negs_le (out : List Int) : negs out ≤ out.length := List.length_filter_le _ _
def atI (out : List Int) (k : Int) : Int := out[k.toNat]?.getD 0
theorem atI_get {out : List Int} {k : Int} (h : k.toNat < out.length) : out[k.toNat]? = some (atI out k) := by
  unfold atI; rw [List.getElem?_eq_getElem h]; rfl
def rlx (q : Int) (st : List Int × List Int) (k : Int) : List Int × List Int := if atI st.1 k < 0 then (st.1.set k.toNat (atI st.1 q + 1), st.2 ++ [k]) else st
def relax (q : Int) (l : List Int) (st : List Int × List Int) : List Int × List Int := l.foldl (rlx q) st
theorem relax_at {q : Int} {l : List Int} {j : Nat} {k : Int} (h : l[j]? = some k) (st : List Int × List Int) : relax q (l.take (j + 1)) st = rlx q (relax q (l.take j) st) k := by
  unfold relax
  rw [take_at h, List.foldl_append]
  rfl
def bfs (nx : Nat → List Int) : Nat → List Int → List Int → List Int
  | 0, out, _ => out
  | _ + 1, out, [] => out
  | f + 1, out, q :: r => bfs nx f (relax q (nx q.toNat) (out, r)).1 (relax q (nx q.toNat) (out, r)).2
/-- What holds all the way: the lengths, what is queued, how great a number may be. -/
structure BfsI (N : Nat) (out qu : List Int) : Prop where
  len : out.length = N
  mem : ∀ q ∈ qu, 0 ≤ q ∧ q < N
  val : ∀ v ∈ out, -1 ≤ v ∧ v + negs out ≤ N
theorem BfsI.rlx {N : Nat} {out qu : List Int} {q k : Int} (h : BfsI N out qu) (hq : 0 ≤ q ∧ q < N) (hk : 0 ≤ k ∧ k < N) : BfsI N (rlx q (out, qu) k).1 (rlx q (out, qu) k).2 ∧ negs (Go.Q.rlx q (out, qu) k).1 + (Go.Q.rlx q (out, qu) k).2.length = negs out + qu.length ∧ negs (Go.Q.rlx q (out, qu) k).1 ≤ negs out := by
  unfold Go.Q.rlx
  dsimp only
  split
  · rename_i hneg
    have hkl : k.toNat < out.length := by rw [h.len]; omega
    have hql : q.toNat < out.length := by rw [h.len]; omega
    have hvq := h.val _ (List.mem_of_getElem? (atI_get hql))
    have hn := negs_set (v := atI out q + 1) (by omega) (atI_get hkl) hneg
    refine ⟨⟨by simpa using h.len, fun x hx => ?_, fun v hv => ?_⟩, ?_, ?_⟩
    · rcases List.mem_append.1 hx with hx | hx
      · exact h.mem x hx
      · rw [List.mem_singleton] at hx; subst hx; exact hk
    · show -1 ≤ v ∧ v + (negs (out.set k.toNat (atI out q + 1)) : Int) ≤ N
      rcases List.mem_or_eq_of_mem_set hv with hv | rfl
      · have := h.val v hv; omega
      · omega
    · show negs (out.set k.toNat (atI out q + 1)) + (qu ++ [k]).length = _
      simp; omega
    · show negs (out.set k.toNat (atI out q + 1)) ≤ _
      omega
  · exact ⟨h, rfl, Nat.le_refl _⟩
theorem BfsI.relax {N : Nat} {q : Int} (hq : 0 ≤ q ∧ q < N) : ∀ {l : List Int} {st : List Int × List Int}, BfsI N st.1 st.2 → (∀ k ∈ l, 0 ≤ k ∧ k < N) → BfsI N (relax q l st).1 (relax q l st).2 ∧ negs (Go.Q.relax q l st).1 + (Go.Q.relax q l st).2.length = negs st.1 + st.2.length ∧ negs (Go.Q.relax q l st).1 ≤ negs st.1
  | [], st, h, _ => ⟨h, rfl, Nat.le_refl _⟩
  | k :: l, st, h, hl => by
    have e : Go.Q.relax q (k :: l) st = Go.Q.relax q l (Go.Q.rlx q st k) := rfl
    have h1 : BfsI N (Go.Q.rlx q st k).1 (Go.Q.rlx q st k).2 ∧ negs (Go.Q.rlx q st k).1 + (Go.Q.rlx q st k).2.length = negs st.1 + st.2.length ∧ negs (Go.Q.rlx q st k).1 ≤ negs st.1 := h.rlx (k := k) hq (hl k (by simp))
    obtain ⟨h1, h2, h3⟩ := h1
    obtain ⟨g1, g2, g3⟩ := BfsI.relax hq (l := l) h1 fun k hk => hl k (by simp [hk])
    rw [e]
    exact ⟨g1, by omega, by omega⟩
theorem BfsI.tail {N : Nat} {out qu : List Int} {q : Int} (h : BfsI N out (q :: qu)) : BfsI N out qu := ⟨h.len, fun x hx => h.mem x (by simp [hx]), h.val⟩
theorem rlx_len (q : Int) (st : List Int × List Int) (k : Int) : (rlx q st k).1.length = st.1.length := by
  unfold rlx; split <;> simp
def zeroAll (from_ : List Int) (out : List Int) : List Int := from_.foldl (fun out i => out.set i.toNat 0) out
def spreadOf (nx : Nat → List Int) (N : Nat) (from_ : List Int) : List Int := bfs nx (2 * N + from_.length + 1) (zeroAll from_ (List.replicate N (-1))) from_
theorem zeroAll_at {l : List Int} {j : Nat} {k : Int} (h : l[j]? = some k) (out : List Int) : zeroAll (l.take (j + 1)) out = (zeroAll (l.take j) out).set k.toNat 0 := by
  unfold zeroAll
  rw [take_at h, List.foldl_append]
  rfl
theorem zeroAll_len : ∀ (l out : List Int), (zeroAll l out).length = out.length
  | [], _ => rfl
  | k :: l, out => (zeroAll_len l _).trans (by simp)
theorem zeroAll_val : ∀ (l : List Int) {out : List Int}, (∀ v ∈ out, v = -1 ∨ v = 0) → ∀ v ∈ zeroAll l out, v = -1 ∨ v = 0
  | [], _, h => h
  | k :: l, out, h => zeroAll_val l fun v hv => by
    rcases List.mem_or_eq_of_mem_set hv with hv | rfl
    · exact h v hv
    · exact .inr rfl
theorem bfs_start {N : Nat} {l : List Int} (hl : ∀ q ∈ l, 0 ≤ q ∧ q < N) : BfsI N (zeroAll l (List.replicate N (-1))) l := by
  have hlen : (zeroAll l (List.replicate N (-1))).length = N := by rw [zeroAll_len]; simp
  refine ⟨hlen, hl, fun v hv => ?_⟩
  have hn := negs_le (zeroAll l (List.replicate N (-1)))
  rcases zeroAll_val l (fun v hv => .inl (List.mem_replicate.1 hv).2) v hv with rfl | rfl <;> omega
theorem bfs_nil {nx : Nat → List Int} {f : Nat} {out : List Int} (h : 0 < f) : bfs nx f out [] = out := by
  match f, h with
  | f + 1, _ => rfl
theorem rlx_pre (q : Int) (out pre r : List Int) (k : Int) : rlx q (out, pre ++ r) k = ((rlx q (out, r) k).1, pre ++ (rlx q (out, r) k).2) := by
  unfold rlx; dsimp only
  split <;> simp
theorem relax_pre (q : Int) : ∀ (l out pre r : List Int), relax q l (out, pre ++ r) = ((relax q l (out, r)).1, pre ++ (relax q l (out, r)).2)
  | [], _, _, _ => rfl
  | k :: l, out, pre, r => by
    have e : ∀ st, relax q (k :: l) st = relax q l (rlx q st k) := fun _ => rfl
    rw [e, e, rlx_pre, relax_pre q l]
/-- One queue, read from place i on. -/
def BfsAt (nx : Nat → List Int) (res out qu : List Int) (i : Nat) : Prop := ∃ f, negs out + (qu.length - i) < f ∧ bfs nx f out (qu.drop i) = res
theorem BfsAt.next {nx : Nat → List Int} {N : Nat} {res out qu : List Int} {i : Nat} {q : Int} (h : BfsAt nx res out qu i) (hI : BfsI N out qu) (hq : qu[i]? = some q) (hn : ∀ k ∈ nx q.toNat, 0 ≤ k ∧ k < N) : BfsAt nx res (relax q (nx q.toNat) (out, qu)).1 (relax q (nx q.toNat) (out, qu)).2 (i + 1) := by
  obtain ⟨f, hf, e⟩ := h
  have hil := (List.getElem?_eq_some_iff.1 hq).1
  have hd : qu.drop i = q :: qu.drop (i + 1) := by
    rw [List.drop_eq_getElem_cons hil, (List.getElem?_eq_some_iff.1 hq).2]
  obtain ⟨f', rfl⟩ : ∃ f', f = f' + 1 := ⟨f - 1, by omega⟩
  rw [hd, bfs] at e
  have hr := BfsI.relax (N := N) (hI.mem q (List.mem_of_getElem? hq)) (l := nx q.toNat) (st := (out, qu)) hI hn
  have e2 : qu = qu.take (i + 1) ++ qu.drop (i + 1) := (List.take_append_drop _ _).symm
  have e3 := relax_pre q (nx q.toNat) out (qu.take (i + 1)) (qu.drop (i + 1))
  rw [← e2] at e3
  refine ⟨f', ?_, ?_⟩
  · have h1 := hr.2.1
    have h2 : i + 1 ≤ (relax q (nx q.toNat) (out, qu)).2.length := by rw [e3]; simp; omega
    dsimp only at h1
    omega
  · rw [e3]
    dsimp only
    rw [List.drop_left' (by rw [List.length_take]; omega)]
    exact e
theorem BfsAt.done {nx : Nat → List Int} {res out qu : List Int} {i : Nat} (h : BfsAt nx res out qu i) (hi : qu.length ≤ i) : out = res := by
  obtain ⟨f, hf, e⟩ := h
  rw [List.drop_eq_nil_of_le hi, bfs_nil (by omega)] at e
  exact e
theorem BfsAt.start {nx : Nat → List Int} {N : Nat} {l : List Int} : BfsAt nx (spreadOf nx N l) (zeroAll l (List.replicate N (-1))) l 0 := by
  refine ⟨2 * N + l.length + 1, ?_, rfl⟩
  have := negs_le (zeroAll l (List.replicate N (-1)))
  rw [zeroAll_len] at this
  simp at this
  omega
theorem nd_ok {n V p : Nat} (hn : 1 ≤ n) (hp : p < n * V) : (0 ≤ (p : Int) / (n : Int) ∧ (p : Int) / (n : Int) < V) ∧ 0 ≤ (p : Int) % (n : Int) ∧ (p : Int) % (n : Int) < n := by
  have h1 : p / n < V := Nat.div_lt_of_lt_mul hp
  have h2 : p % n < n := Nat.mod_lt _ hn
  have e1 : (p : Int) / (n : Int) = ((p / n : Nat) : Int) := by simp
  have e2 : (p : Int) % (n : Int) = ((p % n : Nat) : Int) := by simp
  rw [e1, e2]
  exact ⟨⟨Int.natCast_nonneg _, by exact_mod_cast h1⟩, Int.natCast_nonneg _, by exact_mod_cast h2⟩
theorem nxN_steps (g : TGraph) (a : TAutomaton) (p : Nat) : nxN g a p = (stepsOf g a ((p : Int) / (a.Accept.length : Int)) ((p : Int) % (a.Accept.length : Int))).map fun (z : TProductStep) => z.Node * (a.Accept.length : Int) + z.State := by
  unfold nxN
  rw [nextsOf_eq]
  simp
theorem steps_ok {g : TGraph} {a : TAutomaton} (ha : validA a = true) (hg : validG g = true) {x s v : Int} (hv : g.Values[x.toNat]? = some v) (hs : s < a.Accept.length) : ∀ z ∈ stepsOf g a x s, 0 ≤ z.Node ∧ z.Node < g.Values.length ∧ 0 ≤ z.State ∧ z.State < a.Accept.length := by
  intro z hz
  unfold stepsOf at hz
  rw [hv] at hz
  obtain ⟨y, hy, hz⟩ := List.mem_flatMap.1 hz
  unfold vertS at hz
  obtain ⟨t, ht, rfl⟩ := List.mem_map.1 hz
  obtain ⟨j, hj⟩ := List.getElem?_of_mem hy
  have hyo := arcsAt_ok hg hj
  have hvv := validG_val hg hv
  have htl := bits_lt (aft1_lt ha hvv hs (by omega)) ht
  dsimp only
  omega
theorem nxN_ok {g : TGraph} {a : TAutomaton} (ha : validA a = true) (hg : validG g = true) {p : Nat} (hp : p < a.Accept.length * g.Values.length) : ∀ k ∈ nxN g a p, 0 ≤ k ∧ k < ((a.Accept.length * g.Values.length : Nat) : Int) := by
  intro k hk
  have hA := validA_len ha
  have hd := nd_ok hA.1 hp
  rw [nxN_steps] at hk
  obtain ⟨z, hz, rfl⟩ := List.mem_map.1 hk
  obtain ⟨v, hv⟩ : ∃ v, g.Values[((p : Int) / (a.Accept.length : Int)).toNat]? = some v := ⟨_, List.getElem?_eq_getElem (by omega)⟩
  have hz := steps_ok ha hg hv hd.2.2 z hz
  obtain ⟨xn, hx⟩ := Int.eq_ofNat_of_zero_le hz.1
  obtain ⟨sn, hs⟩ := Int.eq_ofNat_of_zero_le hz.2.2.1
  rw [hx, hs] at hz ⊢
  have := idx_lt (x := xn) (s := sn) (n := a.Accept.length) (V := g.Values.length) (by omega) (by omega)
  constructor
  · exact Int.add_nonneg (Int.mul_nonneg (by omega) (by omega)) (by omega)
  · exact_mod_cast this
theorem start_ok {g : TGraph} {a : TAutomaton} (ha : validA a = true) {x : Int} (hx : 0 ≤ x ∧ x < g.Values.length) : 0 ≤ x * (a.Accept.length : Int) + a.Start ∧ x * (a.Accept.length : Int) + a.Start < ((a.Accept.length * g.Values.length : Nat) : Int) := by
  have hA := validA_len ha
  obtain ⟨xn, rfl⟩ := Int.eq_ofNat_of_zero_le hx.1
  obtain ⟨sn, hs⟩ := Int.eq_ofNat_of_zero_le hA.2.2.2.1
  rw [hs] at hA ⊢
  have := idx_lt (x := xn) (s := sn) (n := a.Accept.length) (V := g.Values.length) (by omega) (by omega)
  constructor
  · exact Int.add_nonneg (Int.mul_nonneg (by omega) (by omega)) (by omega)
  · exact_mod_cast this
end Go.Q
namespace Go.Proofs.Ytbfejakbaijmhaa
open Go.RowKit Go.Q Go.D
end Go.Proofs.Ytbfejakbaijmhaa
