import Derived.Test.YtamnfkfjfelbbaaB18xw
set_option linter.unusedVariables false
set_option linter.unusedSimpArgs false
set_option maxHeartbeats 1000000
set_option maxRecDepth 100000
namespace Go.Q
open Go.D
def negs (out : List Int) : Nat := (out.filter fun x => decide (x < 0)).length
theorem negs_cons (x : Int) (l : List Int) : negs (x :: l) = (if x < 0 then 1 else 0) + negs l := by
 unfold negs
 rw [List.filter_cons]
 split <;> simp_all <;> omega
theorem negs_set {v : Int} (hv : 0 ≤ v) : ∀ {out : List Int} {k : Nat} {x : Int}, out[k]? = some x → x < 0 → negs (out.set k v) + 1 = negs out
 | [], _, _, h, _ => by simp at h
 | y :: l, 0, x, h, hx => by
  simp at h
  subst h
  rw [List.set_cons_zero, negs_cons, negs_cons, if_neg (by omega), if_pos hx]
  omega
 | y :: l, k + 1, x, h, hx => by
  rw [List.set_cons_succ, negs_cons, negs_cons]
  have := negs_set hv (out := l) (k := k) (by simpa using h) hx
  omega
theorem negs_le (out : List Int) : negs out ≤ out.length := List.length_filter_le _ _
def atI (out : List Int) (k : Int) : Int := out[k.toNat]?.getD 0
theorem atI_get {out : List Int} {k : Int} (h : k.toNat < out.length) : out[k.toNat]? = some (atI out k) := by
 unfold atI; rw [List.getElem?_eq_getElem h]; rfl
def rlx (q : Int) (st : List Int × List Int) (k : Int) : List Int × List Int := if atI st.1 k < 0 then (st.1.set k.toNat (atI st.1 q + 1), st.2 ++ [k]) else st
def relax (q : Int) (l : List Int) (st : List Int × List Int) : List Int × List Int := l.foldl (rlx q) st
theorem relax_at {q : Int} {l : List Int} {j : Nat} {k : Int} (h : l[j]? = some k) (st : List Int × List Int) : relax q (l.take (j + 1)) st = rlx q (relax q (l.take j) st) k := by
 unfold relax
 rw [take_at h, List.foldl_append]
 rfl
def bfs (nx : Nat → List Int) : Nat → List Int → List Int → List Int
 | 0, out, _ => out
 | _ + 1, out, [] => out
 | f + 1, out, q :: r => bfs nx f (relax q (nx q.toNat) (out, r)).1 (relax q (nx q.toNat) (out, r)).2
structure BfsI (N : Nat) (out qu : List Int) : Prop where
 len : out.length = N
 mem : ∀ q ∈ qu, 0 ≤ q ∧ q < N
 val : ∀ v ∈ out, -1 ≤ v ∧ v + negs out ≤ N
theorem BfsI.rlx {N : Nat} {out qu : List Int} {q k : Int} (h : BfsI N out qu) (hq : 0 ≤ q ∧ q < N) (hk : 0 ≤ k ∧ k < N) : BfsI N (rlx q (out, qu) k).1 (rlx q (out, qu) k).2 ∧ negs (Go.Q.rlx q (out, qu) k).1 + (Go.Q.rlx q (out, qu) k).2.length = negs out + qu.length ∧ negs (Go.Q.rlx q (out, qu) k).1 ≤ negs out := by
 unfold Go.Q.rlx
 dsimp only
 split
 · rename_i hneg
   have hkl : k.toNat < out.length := by rw [h.len]; omega
   have hql : q.toNat < out.length := by rw [h.len]; omega
   have hvq := h.val _ (List.mem_of_getElem? (atI_get hql))
   have hn := negs_set (v := atI out q + 1) (by omega) (atI_get hkl) hneg
   refine ⟨⟨by simpa using h.len, fun x hx => ?_, fun v hv => ?_⟩, ?_, ?_⟩
   · rcases List.mem_append.1 hx with hx | hx
     · exact h.mem x hx
     · rw [List.mem_singleton] at hx; subst hx; exact hk
   · show -1 ≤ v ∧ v + (negs (out.set k.toNat (atI out q + 1)) : Int) ≤ N
     rcases List.mem_or_eq_of_mem_set hv with hv | rfl
     · have := h.val v hv; omega
     · omega
   · show negs (out.set k.toNat (atI out q + 1)) + (qu ++ [k]).length = _
     simp; omega
   · show negs (out.set k.toNat (atI out q + 1)) ≤ _
     omega
 · exact ⟨h, rfl, Nat.le_refl _⟩
theorem BfsI.relax {N : Nat} {q : Int} (hq : 0 ≤ q ∧ q < N) : ∀ {l : List Int} {st : List Int × List Int}, BfsI N st.1 st.2 → (∀ k ∈ l, 0 ≤ k ∧ k < N) → BfsI N (relax q l st).1 (relax q l st).2 ∧ negs (Go.Q.relax q l st).1 + (Go.Q.relax q l st).2.length = negs st.1 + st.2.length ∧ negs (Go.Q.relax q l st).1 ≤ negs st.1
 | [], st, h, _ => ⟨h, rfl, Nat.le_refl _⟩
 | k :: l, st, h, hl => by
  have e : Go.Q.relax q (k :: l) st = Go.Q.relax q l (Go.Q.rlx q st k) := rfl
  have h1 : BfsI N (Go.Q.rlx q st k).1 (Go.Q.rlx q st k).2 ∧ negs (Go.Q.rlx q st k).1 + (Go.Q.rlx q st k).2.length = negs st.1 + st.2.length ∧ negs (Go.Q.rlx q st k).1 ≤ negs st.1 := h.rlx (k := k) hq (hl k (by simp))
  obtain ⟨h1, h2, h3⟩ := h1
  obtain ⟨g1, g2, g3⟩ := BfsI.relax hq (l := l) h1 fun k hk => hl k (by simp [hk])
  rw [e]
  exact ⟨g1, by omega, by omega⟩
theorem BfsI.tail {N : Nat} {out qu : List Int} {q : Int} (h : BfsI N out (q :: qu)) : BfsI N out qu := ⟨h.len, fun x hx => h.mem x (by simp [hx]), h.val⟩
theorem rlx_len (q : Int) (st : List Int × List Int) (k : Int) : (rlx q st k).1.length = st.1.length := by
 unfold rlx; split <;> simp
def zeroAll (from_ : List Int) (out : List Int) : List Int := from_.foldl (fun out i => out.set i.toNat 0) out
def spreadOf (nx : Nat → List Int) (N : Nat) (from_ : List Int) : List Int := bfs nx (2 * N + from_.length + 1) (zeroAll from_ (List.replicate N (-1))) from_
theorem zeroAll_at {l : List Int} {j : Nat} {k : Int} (h : l[j]? = some k) (out : List Int) : zeroAll (l.take (j + 1)) out = (zeroAll (l.take j) out).set k.toNat 0 := by
 unfold zeroAll
 rw [take_at h, List.foldl_append]
 rfl
theorem zeroAll_len : ∀ (l out : List Int), (zeroAll l out).length = out.length
 | [], _ => rfl
 | k :: l, out => (zeroAll_len l _).trans (by simp)
theorem zeroAll_val : ∀ (l : List Int) {out : List Int}, (∀ v ∈ out, v = -1 ∨ v = 0) → ∀ v ∈ zeroAll l out, v = -1 ∨ v = 0
 | [], _, h => h
 | k :: l, out, h => zeroAll_val l fun v hv => by
  rcases List.mem_or_eq_of_mem_set hv with hv | rfl
  · exact h v hv
  · exact .inr rfl
theorem bfs_start {N : Nat} {l : List Int} (hl : ∀ q ∈ l, 0 ≤ q ∧ q < N) : BfsI N (zeroAll l (List.replicate N (-1))) l := by
 have hlen : (zeroAll l (List.replicate N (-1))).length = N := by rw [zeroAll_len]; simp
 refine ⟨hlen, hl, fun v hv => ?_⟩
 have hn := negs_le (zeroAll l (List.replicate N (-1)))
 rcases zeroAll_val l (fun v hv => .inl (List.mem_replicate.1 hv).2) v hv with rfl | rfl <;> omega
theorem bfs_nil {nx : Nat → List Int} {f : Nat} {out : List Int} (h : 0 < f) : bfs nx f out [] = out := by
 match f, h with
 | f + 1, _ => rfl
theorem rlx_pre (q : Int) (out pre r : List Int) (k : Int) : rlx q (out, pre ++ r) k = ((rlx q (out, r) k).1, pre ++ (rlx q (out, r) k).2) := by
 unfold rlx; dsimp only
 split <;> simp
theorem relax_pre (q : Int) : ∀ (l out pre r : List Int), relax q l (out, pre ++ r) = ((relax q l (out, r)).1, pre ++ (relax q l (out, r)).2)
 | [], _, _, _ => rfl
 | k :: l, out, pre, r => by
  have e : ∀ st, relax q (k :: l) st = relax q l (rlx q st k) := fun _ => rfl
  rw [e, e, rlx_pre, relax_pre q l]
def BfsAt (nx : Nat → List Int) (res out qu : List Int) (i : Nat) : Prop := ∃ f, negs out + (qu.length - i) < f ∧ bfs nx f out (qu.drop i) = res
theorem BfsAt.next {nx : Nat → List Int} {N : Nat} {res out qu : List Int} {i : Nat} {q : Int} (h : BfsAt nx res out qu i) (hI : BfsI N out qu) (hq : qu[i]? = some q) (hn : ∀ k ∈ nx q.toNat, 0 ≤ k ∧ k < N) : BfsAt nx res (relax q (nx q.toNat) (out, qu)).1 (relax q (nx q.toNat) (out, qu)).2 (i + 1) := by
 obtain ⟨f, hf, e⟩ := h
 have hil := (List.getElem?_eq_some_iff.1 hq).1
 have hd : qu.drop i = q :: qu.drop (i + 1) := by
  rw [List.drop_eq_getElem_cons hil, (List.getElem?_eq_some_iff.1 hq).2]
 obtain ⟨f', rfl⟩ : ∃ f', f = f' + 1 := ⟨f - 1, by omega⟩
 rw [hd, bfs] at e
 have hr := BfsI.relax (N := N) (hI.mem q (List.mem_of_getElem? hq)) (l := nx q.toNat) (st := (out, qu)) hI hn
 have e2 : qu = qu.take (i + 1) ++ qu.drop (i + 1) := (List.take_append_drop _ _).symm
 have e3 := relax_pre q (nx q.toNat) out (qu.take (i + 1)) (qu.drop (i + 1))
 rw [← e2] at e3
 refine ⟨f', ?_, ?_⟩
 · have h1 := hr.2.1
   have h2 : i + 1 ≤ (relax q (nx q.toNat) (out, qu)).2.length := by rw [e3]; simp; omega
   dsimp only at h1
   omega
 · rw [e3]
   dsimp only
   rw [List.drop_left' (by rw [List.length_take]; omega)]
   exact e
theorem BfsAt.done {nx : Nat → List Int} {res out qu : List Int} {i : Nat} (h : BfsAt nx res out qu i) (hi : qu.length ≤ i) : out = res := by
 obtain ⟨f, hf, e⟩ := h
 rw [List.drop_eq_nil_of_le hi, bfs_nil (by omega)] at e
 exact e
theorem BfsAt.start {nx : Nat → List Int} {N : Nat} {l : List Int} : BfsAt nx (spreadOf nx N l) (zeroAll l (List.replicate N (-1))) l 0 := by
 refine ⟨2 * N + l.length + 1, ?_, rfl⟩
 have := negs_le (zeroAll l (List.replicate N (-1)))
 rw [zeroAll_len] at this
 simp at this
 omega
theorem nd_ok {n V p : Nat} (hn : 1 ≤ n) (hp : p < n * V) : (0 ≤ (p : Int) / (n : Int) ∧ (p : Int) / (n : Int) < V) ∧ 0 ≤ (p : Int) % (n : Int) ∧ (p : Int) % (n : Int) < n := by
 have h1 : p / n < V := Nat.div_lt_of_lt_mul hp
 have h2 : p % n < n := Nat.mod_lt _ hn
 have e1 : (p : Int) / (n : Int) = ((p / n : Nat) : Int) := by simp
 have e2 : (p : Int) % (n : Int) = ((p % n : Nat) : Int) := by simp
 rw [e1, e2]
 exact ⟨⟨Int.natCast_nonneg _, by exact_mod_cast h1⟩, Int.natCast_nonneg _, by exact_mod_cast h2⟩
theorem nxN_steps (g : TGraph) (a : TAutomaton) (p : Nat) : nxN g a p = (stepsOf g a ((p : Int) / (a.Accept.length : Int)) ((p : Int) % (a.Accept.length : Int))).map fun (z : TProductStep) => z.Node * (a.Accept.length : Int) + z.State := by
 unfold nxN
 rw [nextsOf_eq]
 simp
theorem steps_ok {g : TGraph} {a : TAutomaton} (ha : validA a = true) (hg : validG g = true) {x s v : Int} (hv : g.Values[x.toNat]? = some v) (hs : s < a.Accept.length) : ∀ z ∈ stepsOf g a x s, 0 ≤ z.Node ∧ z.Node < g.Values.length ∧ 0 ≤ z.State ∧ z.State < a.Accept.length := by
 intro z hz
 unfold stepsOf at hz
 rw [hv] at hz
 obtain ⟨y, hy, hz⟩ := List.mem_flatMap.1 hz
 unfold vertS at hz
 obtain ⟨t, ht, rfl⟩ := List.mem_map.1 hz
 obtain ⟨j, hj⟩ := List.getElem?_of_mem hy
 have hyo := arcsAt_ok hg hj
 have hvv := validG_val hg hv
 have htl := bits_lt (aft1_lt ha hvv hs (by omega)) ht
 dsimp only
 omega
theorem nxN_ok {g : TGraph} {a : TAutomaton} (ha : validA a = true) (hg : validG g = true) {p : Nat} (hp : p < a.Accept.length * g.Values.length) : ∀ k ∈ nxN g a p, 0 ≤ k ∧ k < ((a.Accept.length * g.Values.length : Nat) : Int) := by
 intro k hk
 have hA := validA_len ha
 have hd := nd_ok hA.1 hp
 rw [nxN_steps] at hk
 obtain ⟨z, hz, rfl⟩ := List.mem_map.1 hk
 obtain ⟨v, hv⟩ : ∃ v, g.Values[((p : Int) / (a.Accept.length : Int)).toNat]? = some v := ⟨_, List.getElem?_eq_getElem (by omega)⟩
 have hz := steps_ok ha hg hv hd.2.2 z hz
 obtain ⟨xn, hx⟩ := Int.eq_ofNat_of_zero_le hz.1
 obtain ⟨sn, hs⟩ := Int.eq_ofNat_of_zero_le hz.2.2.1
 rw [hx, hs] at hz ⊢
 have := idx_lt (x := xn) (s := sn) (n := a.Accept.length) (V := g.Values.length) (by omega) (by omega)
 constructor
 · exact Int.add_nonneg (Int.mul_nonneg (by omega) (by omega)) (by omega)
 · exact_mod_cast this
theorem start_ok {g : TGraph} {a : TAutomaton} (ha : validA a = true) {x : Int} (hx : 0 ≤ x ∧ x < g.Values.length) : 0 ≤ x * (a.Accept.length : Int) + a.Start ∧ x * (a.Accept.length : Int) + a.Start < ((a.Accept.length * g.Values.length : Nat) : Int) := by
 have hA := validA_len ha
 obtain ⟨xn, rfl⟩ := Int.eq_ofNat_of_zero_le hx.1
 obtain ⟨sn, hs⟩ := Int.eq_ofNat_of_zero_le hA.2.2.2.1
 rw [hs] at hA ⊢
 have := idx_lt (x := xn) (s := sn) (n := a.Accept.length) (V := g.Values.length) (by omega) (by omega)
 constructor
 · exact Int.add_nonneg (Int.mul_nonneg (by omega) (by omega)) (by omega)
 · exact_mod_cast this
end Go.Q
namespace Go.Proofs.Ytamnfkfjfelbbaa
open Go.RowKit Go.Q Go.D
end Go.Proofs.Ytamnfkfjfelbbaa
set_option maxHeartbeats 1000000
set_option maxRecDepth 100000
namespace Go.Q
open Go.D
inductive CanR (nx : Nat → List Int) (G : Nat → Bool) : Nat → Prop where
 | goal {i : Nat} : G i = true → CanR nx G i
 | step {i : Nat} {z : Int} : z ∈ nx i → CanR nx G z.toNat → CanR nx G i
theorem atI_set' {O : List Int} {k : Nat} {j v : Int} (hk : k < O.length) : atI (O.set k v) j = if j.toNat = k then v else atI O j := by
 unfold atI
 rw [List.getElem?_set]
 by_cases e : j.toNat = k
 · rw [e, if_pos rfl, if_pos hk, if_pos rfl]; rfl
 · rw [if_neg (fun h => e h.symm), if_neg e]
theorem atI_lo {O : List Int} {i : Nat} (hi : i < O.length) (h : ∀ v ∈ O, -1 ≤ v) : -1 ≤ atI O (i : Int) := h _ (List.mem_of_getElem? (atI_get (out := O) (k := (i : Int)) (by omega)))
def backOne (nx : Nat → List Int) (d : Int) (out : List Int) (i : Nat) : List Int := if atI out (i : Int) < 0 ∧ ((nx i).any fun z => decide (atI out z = d - 1)) = true then out.set i d else out
structure IsDist (nx : Nat → List Int) (G : Nat → Bool) (N : Nat) (O : List Int) : Prop where
 len : O.length = N
 lo : ∀ v ∈ O, -1 ≤ v
 ex : ∀ i, i < N → 0 < atI O (i : Int) → ∃ z ∈ nx i, atI O z = atI O (i : Int) - 1
 z0 : ∀ i, i < N → (atI O (i : Int) = 0 ↔ G i = true)
 cl : ∀ i, i < N → ∀ z ∈ nx i, 0 ≤ atI O z → 0 ≤ atI O (i : Int) ∧ atI O (i : Int) ≤ atI O z + 1
structure DistI (nx : Nat → List Int) (G : Nat → Bool) (N : Nat) (d : Int) (O : List Int) : Prop where
 len : O.length = N
 lo : ∀ v ∈ O, -1 ≤ v ∧ v < d
 ex : ∀ i, i < N → 0 < atI O (i : Int) → ∃ z ∈ nx i, atI O z = atI O (i : Int) - 1
 z0 : ∀ i, i < N → (atI O (i : Int) = 0 ↔ G i = true)
 cl : ∀ i, i < N → ∀ z ∈ nx i, 0 ≤ atI O z → atI O z < d - 1 → 0 ≤ atI O (i : Int) ∧ atI O (i : Int) ≤ atI O z + 1
section
variable {nx : Nat → List Int} {G : Nat → Bool} {N : Nat} {d : Int} {out : List Int}
structure DistM (nx : Nat → List Int) (N : Nat) (d : Int) (out o : List Int) (i : Nat) : Prop where
 len : o.length = N
 lo : ∀ v ∈ o, -1 ≤ v ∧ v ≤ d
 old : ∀ j, j < N → 0 ≤ atI out (j : Int) → atI o (j : Int) = atI out (j : Int)
 new : ∀ j, j < N → atI out (j : Int) < 0 → atI o (j : Int) = atI out (j : Int) ∨ (atI o (j : Int) = d ∧ ∃ z ∈ nx j, atI out z = d - 1)
 dn : ∀ j, j < i → j < N → ∀ z ∈ nx j, 0 ≤ atI out z → 0 ≤ atI o (j : Int)
theorem DistM.start (h : DistI nx G N d out) : DistM nx N d out out 0 :=
 ⟨h.len, fun v hv => by have := h.lo v hv; omega, fun _ _ _ => rfl, fun _ _ _ => .inl rfl, fun j hj => absurd hj (Nat.not_lt_zero j)⟩
theorem DistM.step (hd : 1 ≤ d) (hn : ∀ p, p < N → ∀ k ∈ nx p, 0 ≤ k ∧ k < N) (hI : DistI nx G N d out) {o : List Int} {i : Nat} (h : DistM nx N d out o i) (hi : i < N) : DistM nx N d out (backOne nx d o i) (i + 1) := by
 have hval : ∀ z : Int, 0 ≤ z → z < N → (atI o z = d - 1 → atI out z = d - 1) ∧ (atI out z = d - 1 → atI o z = d - 1) := fun z h0 hz => by
  have e : ((z.toNat : Nat) : Int) = z := Int.toNat_of_nonneg h0
  have h1 := h.old z.toNat (by omega)
  have h2 := h.new z.toNat (by omega)
  rw [e] at h1 h2
  rcases Int.lt_or_le (atI out z) 0 with h3 | h3
  · have := h2 h3
    rcases this with h4 | h4 <;> omega
  · have := h1 h3; omega
 have hdone : ∀ z ∈ nx i, 0 ≤ atI out z → atI o (i : Int) < 0 → atI o z = d - 1 := fun z hz h0 hneg => by
  have hb := hn i hi z hz
  have hlt : atI out z < d := (hI.lo _ (List.mem_of_getElem? (atI_get (out := out) (k := z) (by rw [hI.len]; omega)))).2
  rcases Int.lt_or_le (atI out z) (d - 1) with h3 | h3
  · have h4 := (hI.cl i hi z hz h0 h3).1
    have := h.old i hi h4
    omega
  · exact (hval z hb.1 hb.2).2 (by omega)
 unfold backOne
 split
 · rename_i hc
   obtain ⟨z, hz, hzd⟩ := List.any_eq_true.1 hc.2
   have hzd := of_decide_eq_true hzd
   have hb := hn i hi z hz
   have hil : i < o.length := by rw [h.len]; exact hi
   have hat : ∀ j : Nat, atI (o.set i d) (j : Int) = if j = i then d else atI o (j : Int) := fun j => by rw [atI_set' hil]; simp
   refine ⟨by rw [List.length_set]; exact h.len, fun v hv => ?_, fun j hj hv => ?_, fun j hj hv => ?_, fun j hji hj y hy hv => ?_⟩
   · rcases List.mem_or_eq_of_mem_set hv with hv | rfl
     · exact h.lo v hv
     · omega
   · rw [hat]
     by_cases e : j = i
     · subst e; have := h.old j hj hv; omega
     · rw [if_neg e]; exact h.old j hj hv
   · rw [hat]
     by_cases e : j = i
     · subst e; rw [if_pos rfl]; exact .inr ⟨rfl, z, hz, (hval z hb.1 hb.2).1 hzd⟩
     · rw [if_neg e]; exact h.new j hj hv
   · rw [hat]
     by_cases e : j = i
     · rw [if_pos e]; omega
     · rw [if_neg e]; exact h.dn j (by omega) hj y hy hv
 · rename_i hc
   refine ⟨h.len, h.lo, h.old, h.new, fun j hji hj y hy hv => ?_⟩
   by_cases e : j = i
   · subst e
     rcases Int.lt_or_le (atI o (j : Int)) 0 with h3 | h3
     · exact absurd ⟨h3, List.any_eq_true.2 ⟨y, hy, decide_eq_true (hdone y hy hv h3)⟩⟩ hc
     · exact h3
   · exact h.dn j (by omega) hj y hy hv
theorem DistM.done (hd : 1 ≤ d) (hn : ∀ p, p < N → ∀ k ∈ nx p, 0 ≤ k ∧ k < N) (hI : DistI nx G N d out) {o : List Int} (h : DistM nx N d out o N) : DistI nx G N (d + 1) o := by
 have hlo : ∀ i, i < N → -1 ≤ atI out (i : Int) ∧ atI out (i : Int) < d := fun i hi => hI.lo _ (List.mem_of_getElem? (atI_get (out := out) (k := (i : Int)) (by rw [hI.len]; omega)))
 have hnz : ∀ i, i < N → ∀ z ∈ nx i, z = ((z.toNat : Nat) : Int) ∧ z.toNat < N := fun i hi z hz => by have := hn i hi z hz; omega
 refine ⟨h.len, fun v hv => by have := h.lo v hv; omega, fun i hi hp => ?_, fun i hi => ?_, fun i hi z hz h0 h1 => ?_⟩
 · rcases Int.lt_or_le (atI out (i : Int)) 0 with h3 | h3
   · rcases h.new i hi h3 with h4 | ⟨h4, z, hz, h5⟩
     · omega
     · obtain ⟨e, hzN⟩ := hnz i hi z hz
       refine ⟨z, hz, ?_⟩
       rw [e] at h5 ⊢
       rw [h.old _ hzN (by omega)]; omega
   · have h4 := h.old i hi h3
     obtain ⟨z, hz, h5⟩ := hI.ex i hi (by omega)
     obtain ⟨e, hzN⟩ := hnz i hi z hz
     refine ⟨z, hz, ?_⟩
     rw [e] at h5 ⊢
     rw [h.old _ hzN (by omega)]; omega
 · rw [← hI.z0 i hi]
   rcases Int.lt_or_le (atI out (i : Int)) 0 with h3 | h3
   · rcases h.new i hi h3 with h4 | ⟨h4, _⟩ <;> omega
   · rw [h.old i hi h3]
 · obtain ⟨e, hzN⟩ := hnz i hi z hz
   have hz0 : 0 ≤ atI out z ∧ atI o z = atI out z := by
    rw [e] at h0 h1 ⊢
    rcases Int.lt_or_le (atI out ((z.toNat : Nat) : Int)) 0 with h3 | h3
    · rcases h.new _ hzN h3 with h4 | ⟨h4, _⟩ <;> omega
    · exact ⟨h3, h.old _ hzN h3⟩
   have hpos := h.dn i hi hi z hz hz0.1
   refine ⟨hpos, ?_⟩
   rcases Int.lt_or_le (atI out z) (d - 1) with h3 | h3
   · have h4 := hI.cl i hi z hz hz0.1 h3
     rw [h.old i hi h4.1]; omega
   · have := h.lo _ (List.mem_of_getElem? (atI_get (out := o) (k := (i : Int)) (by rw [h.len]; omega)))
     omega
theorem DistM.stay (hI : DistI nx G N d out) (h : DistM nx N d out out N) : IsDist nx G N out := by
 refine ⟨hI.len, fun v hv => (hI.lo v hv).1, hI.ex, hI.z0, fun i hi z hz h0 => ?_⟩
 have hpos := h.dn i hi hi z hz h0
 refine ⟨hpos, ?_⟩
 rcases Int.lt_or_le (atI out z) (d - 1) with h3 | h3
 · exact (hI.cl i hi z hz h0 h3).2
 · have := (hI.lo _ (List.mem_of_getElem? (atI_get (out := out) (k := (i : Int)) (by rw [hI.len]; omega)))).2
   omega
theorem IsDist.le (hn : ∀ p, p < N → ∀ k ∈ nx p, 0 ≤ k ∧ k < N) {A B : List Int} (hA : IsDist nx G N A) (hB : IsDist nx G N B) : ∀ (n i : Nat), i < N → atI A (i : Int) = n → 0 ≤ atI B (i : Int) ∧ atI B (i : Int) ≤ n
 | 0, i, hi, h => by
  have := (hB.z0 i hi).2 ((hA.z0 i hi).1 (by simpa using h))
  omega
 | n + 1, i, hi, h => by
  obtain ⟨z, hz, h5⟩ := hA.ex i hi (by omega)
  have hb := hn i hi z hz
  have e : ((z.toNat : Nat) : Int) = z := Int.toNat_of_nonneg hb.1
  have ih := IsDist.le hn hA hB n z.toNat (by omega) (by rw [e]; omega)
  rw [e] at ih
  have := hB.cl i hi z hz ih.1
  omega
theorem IsDist.uniq (hn : ∀ p, p < N → ∀ k ∈ nx p, 0 ≤ k ∧ k < N) {A B : List Int} (hA : IsDist nx G N A) (hB : IsDist nx G N B) : A = B := by
 refine List.ext_getElem? fun i => ?_
 by_cases hi : i < N
 · have h1 := atI_get (out := A) (k := (i : Int)) (by rw [hA.len]; omega)
   have h2 := atI_get (out := B) (k := (i : Int)) (by rw [hB.len]; omega)
   have l1 := atI_lo (O := A) (i := i) (by rw [hA.len]; exact hi) hA.lo
   have l2 := atI_lo (O := B) (i := i) (by rw [hB.len]; exact hi) hB.lo
   simp only [Int.toNat_natCast] at h1 h2
   rw [h1, h2]
   congr 1
   rcases Int.lt_or_le (atI A (i : Int)) 0 with h3 | h3
   · rcases Int.lt_or_le (atI B (i : Int)) 0 with h4 | h4
     · omega
     · have := IsDist.le hn hB hA (atI B (i : Int)).toNat i hi (by omega); omega
   · have h4 := IsDist.le hn hA hB (atI A (i : Int)).toNat i hi (by omega)
     have h5 := IsDist.le hn hB hA (atI B (i : Int)).toNat i hi (by omega)
     omega
 · rw [List.getElem?_eq_none (by rw [hA.len]; omega), List.getElem?_eq_none (by rw [hB.len]; omega)]
theorem IsDist.can (hn : ∀ p, p < N → ∀ k ∈ nx p, 0 ≤ k ∧ k < N) {A : List Int} (hA : IsDist nx G N A) {i : Nat} (hi : i < N) : 0 ≤ atI A (i : Int) ↔ CanR nx G i := by
 constructor
 · intro h
   have key : ∀ (n i : Nat), i < N → atI A (i : Int) = n → CanR nx G i := by
    intro n
    induction n with
    | zero => exact fun i hi h => .goal ((hA.z0 i hi).1 (by simpa using h))
    | succ n ih =>
     intro i hi h
     obtain ⟨z, hz, h5⟩ := hA.ex i hi (by omega)
     have hb := hn i hi z hz
     exact .step hz (ih z.toNat (by omega) (by rw [Int.toNat_of_nonneg hb.1]; omega))
   exact key (atI A (i : Int)).toNat i hi (by omega)
 · intro hc
   induction hc with
   | goal hg => have := (hA.z0 _ hi).2 hg; omega
   | @step i z hz _ ih =>
    have hb := hn i hi z hz
    have := ih (by omega)
    rw [Int.toNat_of_nonneg hb.1] at this
    exact (hA.cl i hi z hz this).1
end
open Classical in
noncomputable def distOf (nx : Nat → List Int) (G : Nat → Bool) (N : Nat) : List Int := if h : ∃ O, IsDist nx G N O then h.choose else []
inductive OneAt {β : Type} (es : List β) (tst : β → List Int → Bool) (i : Nat) (d : Int) (O1 : List Int) (c1 : Bool) : Nat → List Int → Bool → Prop where
 | still {j : Nat} : (∀ e ∈ es.take j, tst e O1 = false) → OneAt es tst i d O1 c1 j O1 c1
 | set {j : Nat} {e : β} : e ∈ es → tst e O1 = true → atI O1 (i : Int) < 0 → OneAt es tst i d O1 c1 j (O1.set i d) true
theorem OneAt.fin {β : Type} {es : List β} {tst : β → List Int → Bool} {i : Nat} {d : Int} {O1 O2 : List Int} {c1 c2 : Bool} {j : Nat} {nx : Nat → List Int} (hd : 0 ≤ d) (hi : i < O1.length) (hnx : ((nx i).any fun z => decide (atI O1 z = d - 1)) = es.any fun e => tst e O1) (h : OneAt es tst i d O1 c1 j O2 c2) (hx : es.length ≤ j ∨ 0 ≤ atI O2 (i : Int)) :
 O2 = backOne nx d O1 i ∧ (c2 = false → O2 = O1 ∧ c1 = false) ∧ (c2 = true → c1 = true ∨ negs O2 < negs O1) ∧ negs O2 ≤ negs O1 := by
 unfold backOne
 rw [hnx]
 cases h with
 | still h =>
  refine ⟨?_, fun e => ⟨rfl, e⟩, fun e => .inl e, Nat.le_refl _⟩
  rw [if_neg]
  rintro ⟨h1, h2⟩
  rcases hx with hx | hx
  · obtain ⟨e, he, h3⟩ := List.any_eq_true.1 h2
    rw [List.take_of_length_le hx] at h
    rw [h e he] at h3; cases h3
  · omega
 | set h1 h2 h3 =>
  have h4 := negs_set hd (atI_get (out := O1) (k := (i : Int)) (by omega)) h3
  rw [Int.toNat_natCast] at h4
  refine ⟨?_, fun e => (by cases e), fun _ => .inr (by omega), by omega⟩
  rw [if_pos ⟨h3, List.any_eq_true.2 ⟨_, h1, h2⟩⟩]
theorem OneAt.on {β : Type} {es : List β} {tst : β → List Int → Bool} {i : Nat} {d : Int} {O1 O2 : List Int} {c1 c2 : Bool} {j : Nat} (hd : 0 ≤ d) (hi : i < O1.length) (h : OneAt es tst i d O1 c1 j O2 c2) (hneg : atI O2 (i : Int) < 0) : O2 = O1 ∧ c2 = c1 ∧ ∀ e ∈ es.take j, tst e O1 = false := by
 cases h with
 | still h => exact ⟨rfl, rfl, h⟩
 | set h1 h2 h3 =>
  rw [atI_set' hi, Int.toNat_natCast, if_pos rfl] at hneg
  omega
theorem OneAt.next {β : Type} {es : List β} {tst : β → List Int → Bool} {i : Nat} {d : Int} {O1 O2 : List Int} {c1 c2 : Bool} {j : Nat} {z : β} (hd : 0 ≤ d) (hi : i < O1.length) (h : OneAt es tst i d O1 c1 j O2 c2) (hneg : atI O2 (i : Int) < 0) (hz : es[j]? = some z) : (tst z O2 = true → OneAt es tst i d O1 c1 (j + 1) (O2.set i d) true) ∧ (tst z O2 = false → OneAt es tst i d O1 c1 (j + 1) O2 c2) := by
 obtain ⟨rfl, rfl, h3⟩ := h.on hd hi hneg
 refine ⟨fun ht => .set (List.mem_of_getElem? hz) ht hneg, fun ht => .still fun e he => ?_⟩
 rw [take_at hz] at he
 rcases List.mem_append.1 he with h4 | h4
 · exact h3 e h4
 · rw [List.mem_singleton] at h4; subst h4; exact ht
end Go.Q
