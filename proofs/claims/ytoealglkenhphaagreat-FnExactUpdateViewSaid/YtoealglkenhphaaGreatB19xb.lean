import Derived.Test.YtoealglkenhphaaGreatB18xb
set_option linter.unusedVariables false
set_option linter.unusedSimpArgs false
set_option maxHeartbeats 1000000
set_option maxRecDepth 100000
namespace Go.Q
open Go.D
def negs (out : List Int) : Nat := (out.filter fun x => decide (x < 0)).length
theorem negs_cons (x : Int) (l : List Int) : negs (x :: l) = (if x < 0 then 1 else 0) + negs l := by
 unfold negs
 rw [List.filter_cons]
 split <;> simp_all <;> omega
theorem negs_set {v : Int} (hv : 0 ≤ v) : ∀ {out : List Int} {k : Nat} {x : Int}, out[k]? = some x → x < 0 → negs (out.set k v) + 1 = negs out
 | [], _, _, h, _ => by simp at h
 | y :: l, 0, x, h, hx => by
  simp at h
  subst h
  rw [List.set_cons_zero, negs_cons, negs_cons, if_neg (by omega), if_pos hx]
  omega
 | y :: l, k + 1, x, h, hx => by
  rw [List.set_cons_succ, negs_cons, negs_cons]
  have := negs_set hv (out := l) (k := k) (by simpa using h) hx
  omega
theorem negs_le (out : List Int) : negs out ≤ out.length := List.length_filter_le _ _
def atI (out : List Int) (k : Int) : Int := out[k.toNat]?.getD 0
theorem atI_get {out : List Int} {k : Int} (h : k.toNat < out.length) : out[k.toNat]? = some (atI out k) := by
 unfold atI; rw [List.getElem?_eq_getElem h]; rfl
def rlx (q : Int) (st : List Int × List Int) (k : Int) : List Int × List Int := if atI st.1 k < 0 then (st.1.set k.toNat (atI st.1 q + 1), st.2 ++ [k]) else st
def relax (q : Int) (l : List Int) (st : List Int × List Int) : List Int × List Int := l.foldl (rlx q) st
theorem relax_at {q : Int} {l : List Int} {j : Nat} {k : Int} (h : l[j]? = some k) (st : List Int × List Int) : relax q (l.take (j + 1)) st = rlx q (relax q (l.take j) st) k := by
 unfold relax
 rw [take_at h, List.foldl_append]
 rfl
def bfs (nx : Nat → List Int) : Nat → List Int → List Int → List Int
 | 0, out, _ => out
 | _ + 1, out, [] => out
 | f + 1, out, q :: r => bfs nx f (relax q (nx q.toNat) (out, r)).1 (relax q (nx q.toNat) (out, r)).2
structure BfsI (N : Nat) (out qu : List Int) : Prop where
 len : out.length = N
 mem : ∀ q ∈ qu, 0 ≤ q ∧ q < N
 val : ∀ v ∈ out, -1 ≤ v ∧ v + negs out ≤ N
theorem BfsI.rlx {N : Nat} {out qu : List Int} {q k : Int} (h : BfsI N out qu) (hq : 0 ≤ q ∧ q < N) (hk : 0 ≤ k ∧ k < N) : BfsI N (rlx q (out, qu) k).1 (rlx q (out, qu) k).2 ∧ negs (Go.Q.rlx q (out, qu) k).1 + (Go.Q.rlx q (out, qu) k).2.length = negs out + qu.length ∧ negs (Go.Q.rlx q (out, qu) k).1 ≤ negs out := by
 unfold Go.Q.rlx
 dsimp only
 split
 ·rename_i hneg
  have hkl : k.toNat < out.length := by rw [h.len]; omega
  have hql : q.toNat < out.length := by rw [h.len]; omega
  have hvq := h.val _ (List.mem_of_getElem? (atI_get hql))
  have hn := negs_set (v := atI out q + 1) (by omega) (atI_get hkl) hneg
  refine ⟨⟨by simpa using h.len, fun x hx => ?_, fun v hv => ?_⟩, ?_, ?_⟩
  ·rcases List.mem_append.1 hx with hx | hx
   ·exact h.mem x hx
   ·rw [List.mem_singleton] at hx; subst hx; exact hk
  ·show -1 ≤ v ∧ v + (negs (out.set k.toNat (atI out q + 1)) : Int) ≤ N
   rcases List.mem_or_eq_of_mem_set hv with hv | rfl
   ·have := h.val v hv; omega
   ·omega
  ·show negs (out.set k.toNat (atI out q + 1)) + (qu ++ [k]).length = _
   simp; omega
  ·show negs (out.set k.toNat (atI out q + 1)) ≤ _
   omega
 ·exact ⟨h, rfl, Nat.le_refl _⟩
theorem BfsI.relax {N : Nat} {q : Int} (hq : 0 ≤ q ∧ q < N) : ∀ {l : List Int} {st : List Int × List Int}, BfsI N st.1 st.2 → (∀ k ∈ l, 0 ≤ k ∧ k < N) → BfsI N (relax q l st).1 (relax q l st).2 ∧ negs (Go.Q.relax q l st).1 + (Go.Q.relax q l st).2.length = negs st.1 + st.2.length ∧ negs (Go.Q.relax q l st).1 ≤ negs st.1
 | [], st, h, _ => ⟨h, rfl, Nat.le_refl _⟩
 | k :: l, st, h, hl => by
  have e : Go.Q.relax q (k :: l) st = Go.Q.relax q l (Go.Q.rlx q st k) := rfl
  have h1 : BfsI N (Go.Q.rlx q st k).1 (Go.Q.rlx q st k).2 ∧ negs (Go.Q.rlx q st k).1 + (Go.Q.rlx q st k).2.length = negs st.1 + st.2.length ∧ negs (Go.Q.rlx q st k).1 ≤ negs st.1 := h.rlx (k := k) hq (hl k (by simp))
  obtain ⟨h1, h2, h3⟩ := h1
  obtain ⟨g1, g2, g3⟩ := BfsI.relax hq (l := l) h1 fun k hk => hl k (by simp [hk])
  rw [e]
  exact ⟨g1, by omega, by omega⟩
theorem BfsI.tail {N : Nat} {out qu : List Int} {q : Int} (h : BfsI N out (q :: qu)) : BfsI N out qu := ⟨h.len, fun x hx => h.mem x (by simp [hx]), h.val⟩
def zeroAll (from_ : List Int) (out : List Int) : List Int := from_.foldl (fun out i => out.set i.toNat 0) out
def spreadOf (nx : Nat → List Int) (N : Nat) (from_ : List Int) : List Int := bfs nx (2 * N + from_.length + 1) (zeroAll from_ (List.replicate N (-1))) from_
theorem zeroAll_at {l : List Int} {j : Nat} {k : Int} (h : l[j]? = some k) (out : List Int) : zeroAll (l.take (j + 1)) out = (zeroAll (l.take j) out).set k.toNat 0 := by
 unfold zeroAll
 rw [take_at h, List.foldl_append]
 rfl
theorem zeroAll_len : ∀ (l out : List Int), (zeroAll l out).length = out.length
 | [], _ => rfl
 | k :: l, out => (zeroAll_len l _).trans (by simp)
theorem zeroAll_val : ∀ (l : List Int) {out : List Int}, (∀ v ∈ out, v = -1 ∨ v = 0) → ∀ v ∈ zeroAll l out, v = -1 ∨ v = 0
 | [], _, h => h
 | k :: l, out, h => zeroAll_val l fun v hv => by
  rcases List.mem_or_eq_of_mem_set hv with hv | rfl
  ·exact h v hv
  ·exact .inr rfl
theorem bfs_start {N : Nat} {l : List Int} (hl : ∀ q ∈ l, 0 ≤ q ∧ q < N) : BfsI N (zeroAll l (List.replicate N (-1))) l := by
 have hlen : (zeroAll l (List.replicate N (-1))).length = N := by rw [zeroAll_len]; simp
 refine ⟨hlen, hl, fun v hv => ?_⟩
 have hn := negs_le (zeroAll l (List.replicate N (-1)))
 rcases zeroAll_val l (fun v hv => .inl (List.mem_replicate.1 hv).2) v hv with rfl | rfl <;> omega
theorem bfs_nil {nx : Nat → List Int} {f : Nat} {out : List Int} (h : 0 < f) : bfs nx f out [] = out := by
 match f, h with
 | f + 1, _ => rfl
theorem rlx_pre (q : Int) (out pre r : List Int) (k : Int) : rlx q (out, pre ++ r) k = ((rlx q (out, r) k).1, pre ++ (rlx q (out, r) k).2) := by
 unfold rlx; dsimp only
 split <;> simp
theorem relax_pre (q : Int) : ∀ (l out pre r : List Int), relax q l (out, pre ++ r) = ((relax q l (out, r)).1, pre ++ (relax q l (out, r)).2)
 | [], _, _, _ => rfl
 | k :: l, out, pre, r => by
  have e : ∀ st, relax q (k :: l) st = relax q l (rlx q st k) := fun _ => rfl
  rw [e, e, rlx_pre, relax_pre q l]
def BfsAt (nx : Nat → List Int) (res out qu : List Int) (i : Nat) : Prop := ∃ f, negs out + (qu.length - i) < f ∧ bfs nx f out (qu.drop i) = res
theorem BfsAt.next {nx : Nat → List Int} {N : Nat} {res out qu : List Int} {i : Nat} {q : Int} (h : BfsAt nx res out qu i) (hI : BfsI N out qu) (hq : qu[i]? = some q) (hn : ∀ k ∈ nx q.toNat, 0 ≤ k ∧ k < N) : BfsAt nx res (relax q (nx q.toNat) (out, qu)).1 (relax q (nx q.toNat) (out, qu)).2 (i + 1) := by
 obtain ⟨f, hf, e⟩ := h
 have hil := (List.getElem?_eq_some_iff.1 hq).1
 have hd : qu.drop i = q :: qu.drop (i + 1) := by
  rw [List.drop_eq_getElem_cons hil, (List.getElem?_eq_some_iff.1 hq).2]
 obtain ⟨f', rfl⟩ : ∃ f', f = f' + 1 := ⟨f - 1, by omega⟩
 rw [hd, bfs] at e
 have hr := BfsI.relax (N := N) (hI.mem q (List.mem_of_getElem? hq)) (l := nx q.toNat) (st := (out, qu)) hI hn
 have e2 : qu = qu.take (i + 1) ++ qu.drop (i + 1) := (List.take_append_drop _ _).symm
 have e3 := relax_pre q (nx q.toNat) out (qu.take (i + 1)) (qu.drop (i + 1))
 rw [← e2] at e3
 refine ⟨f', ?_, ?_⟩
 ·have h1 := hr.2.1
  have h2 : i + 1 ≤ (relax q (nx q.toNat) (out, qu)).2.length := by rw [e3]; simp; omega
  dsimp only at h1
  omega
 ·rw [e3]
  dsimp only
  rw [List.drop_left' (by rw [List.length_take]; omega)]
  exact e
theorem BfsAt.done {nx : Nat → List Int} {res out qu : List Int} {i : Nat} (h : BfsAt nx res out qu i) (hi : qu.length ≤ i) : out = res := by
 obtain ⟨f, hf, e⟩ := h
 rw [List.drop_eq_nil_of_le hi, bfs_nil (by omega)] at e
 exact e
theorem BfsAt.start {nx : Nat → List Int} {N : Nat} {l : List Int} : BfsAt nx (spreadOf nx N l) (zeroAll l (List.replicate N (-1))) l 0 := by
 refine ⟨2 * N + l.length + 1, ?_, rfl⟩
 have := negs_le (zeroAll l (List.replicate N (-1)))
 rw [zeroAll_len] at this
 simp at this
 omega
theorem nd_ok {n V p : Nat} (hn : 1 ≤ n) (hp : p < n * V) : (0 ≤ (p : Int) / (n : Int) ∧ (p : Int) / (n : Int) < V) ∧ 0 ≤ (p : Int) % (n : Int) ∧ (p : Int) % (n : Int) < n := by
 have h1 : p / n < V := Nat.div_lt_of_lt_mul hp
 have h2 : p % n < n := Nat.mod_lt _ hn
 have e1 : (p : Int) / (n : Int) = ((p / n : Nat) : Int) := by simp
 have e2 : (p : Int) % (n : Int) = ((p % n : Nat) : Int) := by simp
 rw [e1, e2]
 exact ⟨⟨Int.natCast_nonneg _, by exact_mod_cast h1⟩, Int.natCast_nonneg _, by exact_mod_cast h2⟩
theorem nxN_steps (g : TGraph) (a : TAutomaton) (p : Nat) : nxN g a p = (stepsOf g a ((p : Int) / (a.Accept.length : Int)) ((p : Int) % (a.Accept.length : Int))).map fun (z : TProductStep) => z.Node * (a.Accept.length : Int) + z.State := by
 unfold nxN
 rw [nextsOf_eq]
 simp
theorem steps_ok {g : TGraph} {a : TAutomaton} (ha : validA a = true) (hg : validG g = true) {x s v : Int} (hv : g.Values[x.toNat]? = some v) (hs : s < a.Accept.length) : ∀ z ∈ stepsOf g a x s, 0 ≤ z.Node ∧ z.Node < g.Values.length ∧ 0 ≤ z.State ∧ z.State < a.Accept.length := by
 intro z hz
 unfold stepsOf at hz
 rw [hv] at hz
 obtain ⟨y, hy, hz⟩ := List.mem_flatMap.1 hz
 unfold vertS at hz
 obtain ⟨t, ht, rfl⟩ := List.mem_map.1 hz
 obtain ⟨j, hj⟩ := List.getElem?_of_mem hy
 have hyo := arcsAt_ok hg hj
 have hvv := validG_val hg hv
 have htl := bits_lt (aft1_lt ha hvv hs (by omega)) ht
 dsimp only
 omega
theorem nxN_ok {g : TGraph} {a : TAutomaton} (ha : validA a = true) (hg : validG g = true) {p : Nat} (hp : p < a.Accept.length * g.Values.length) : ∀ k ∈ nxN g a p, 0 ≤ k ∧ k < ((a.Accept.length * g.Values.length : Nat) : Int) := by
 intro k hk
 have hA := validA_len ha
 have hd := nd_ok hA.1 hp
 rw [nxN_steps] at hk
 obtain ⟨z, hz, rfl⟩ := List.mem_map.1 hk
 obtain ⟨v, hv⟩ : ∃ v, g.Values[((p : Int) / (a.Accept.length : Int)).toNat]? = some v := ⟨_, List.getElem?_eq_getElem (by omega)⟩
 have hz := steps_ok ha hg hv hd.2.2 z hz
 obtain ⟨xn, hx⟩ := Int.eq_ofNat_of_zero_le hz.1
 obtain ⟨sn, hs⟩ := Int.eq_ofNat_of_zero_le hz.2.2.1
 rw [hx, hs] at hz ⊢
 have := idx_lt (x := xn) (s := sn) (n := a.Accept.length) (V := g.Values.length) (by omega) (by omega)
 constructor
 ·exact Int.add_nonneg (Int.mul_nonneg (by omega) (by omega)) (by omega)
 ·exact_mod_cast this
theorem steps_len (g : TGraph) (a : TAutomaton) (x s : Int) : (stepsOf g a x s).length ≤ (arcsAt g x).length * 64 := flatMap_len (b := 64) (vertS_len a s _) _
theorem relax_more (q : Int) (l out qu : List Int) : qu.length ≤ (relax q l (out, qu)).2.length := by
 have := relax_pre q l out qu []
 rw [List.append_nil] at this
 rw [this]; simp
theorem relax_front (q : Int) (l out qu : List Int) {i : Nat} (hi : i < qu.length) : (relax q l (out, qu)).2[i]? = qu[i]? := by
 have := relax_pre q l out qu []
 rw [List.append_nil] at this
 rw [this]
 dsimp only
 rw [List.getElem?_append_left hi]
theorem start_ok {g : TGraph} {a : TAutomaton} (ha : validA a = true) {x : Int} (hx : 0 ≤ x ∧ x < g.Values.length) : 0 ≤ x * (a.Accept.length : Int) + a.Start ∧ x * (a.Accept.length : Int) + a.Start < ((a.Accept.length * g.Values.length : Nat) : Int) := by
 have hA := validA_len ha
 obtain ⟨xn, rfl⟩ := Int.eq_ofNat_of_zero_le hx.1
 obtain ⟨sn, hs⟩ := Int.eq_ofNat_of_zero_le hA.2.2.2.1
 rw [hs] at hA ⊢
 have := idx_lt (x := xn) (s := sn) (n := a.Accept.length) (V := g.Values.length) (by omega) (by omega)
 constructor
 ·exact Int.add_nonneg (Int.mul_nonneg (by omega) (by omega)) (by omega)
 ·exact_mod_cast this
def ranksOf (g : TGraph) (a : TAutomaton) (x : Int) : List Int := spreadOf (nxN g a) (a.Accept.length * g.Values.length) [x * a.Accept.length + a.Start]
end Go.Q
namespace Go.Proofs.YtoealglkenhphaaGreat
open Go.RowKit Go.Q Go.D
theorem specl14Ranks (g : TGraph) (a : TAutomaton) (ha : validA a = true) (hg : validG g = true) (x : Int) (hx : 0 ≤ x ∧ x < g.Values.length) : FnT Tryz.prog 101 [.agg (cGraph g), .agg (cAutomaton a), .one (.v (.int .i64 x))] (.a (.one (.sl 1 ((ranksOf g a x).map cInt)))) := by
 refine FnT.walk Tryz.func101 rfl (by kernel_rfl) Tryz.ntmps101 rfl fun hlen w0 => ?_
 try simp [cEdge, cGraph, cStep, cChange, cBatch, cAutomaton, cProductStep, cView] at hlen
 have hA := validA_len ha
 have hG := validG_len hg
 have hN : a.Accept.length * g.Values.length ≤ 60 := Nat.mul_le_mul (by omega : a.Accept.length ≤ 12) (by omega : g.Values.length ≤ 5)
 have hcm : (g.Values.length : Int) * (a.Accept.length : Int) = ((a.Accept.length * g.Values.length : Nat) : Int) := by rw [Nat.mul_comm]; simp
 have hs0 := start_ok ha hx
 have hq0 : [x * (a.Accept.length : Int) + a.Start][(0 : Int).toNat]? = some (x * (a.Accept.length : Int) + a.Start) := rfl
 have hr0 : (List.replicate (a.Accept.length * g.Values.length) (-1 : Int))[(x * (a.Accept.length : Int) + a.Start).toNat]? = some (-1) := by rw [List.getElem?_replicate, if_pos (by omega)]
 refine AW.sr ?_
 refine AWl.put (R_boxz rfl rfl rfl (.tm rfl) (ts := _) (by rfl)) rfl ?_
 refine AWl.put (R_boxz rfl rfl rfl (.tm rfl) (ts := _) (by rfl)) rfl ?_
 refine AWl.ac rfl rfl rfl rfl rfl ?_
 refine AWl.nilS (i := 6) 20001 1 rfl rfl ?_
 refine AWl.nil ?_
 refine AW.sr ?_
 refine AWl.put (by exact R_fieldAddr rfl (.no rfl) rfl (.tm rfl) fl36_1) rfl ?_
 refine AWl.put (by exact R_load rfl (.no rfl) rfl (.tm rfl) ty26 rfl rfl) rfl ?_
 refine AWl.put (by exact R_lenm rfl (.no rfl) rfl (.tm rfl) (by exact .t) Tryz.underlying26) rfl ?_
 refine AWl.av rfl rfl rfl rfl rfl ?_
 refine AWl.nil ?_
 refine AW.sr ?_
 refine AWl.add (R_empty 18 rfl rfl rfl Tryz.underlying22 ty3 rfl) rfl ?_
 refine AWl.av rfl rfl rfl rfl rfl ?_
 refine AWl.nil ?_
 refine AW.seq ?_
 refine AW.sr ?_
 refine AWl.ac rfl rfl rfl rfl rfl ?_
 refine AWl.nil ?_
 refine AW.block ?_
 refine AW.loop1 (fun (k : Nat) => (k ≤ a.Accept.length * g.Values.length) ∧ True) (fun (k : Nat) => ⟨_, [(9, (true, .a (.one (.t (.v (.int .i64 (k : Nat))))))), (8, (true, .a (.one (.rf 18)))), (2, _), (3, _), (4, _), (6, _), (7, _)], [(18, .row 1 ((List.replicate k (-1 : Int)).map cInt))]⟩) (fun (k : Nat) => a.Accept.length * g.Values.length - k) (0) ⟨Nat.zero_le _, trivial⟩ (Le.sub0 rfl ⟨rfl, rfl, rfl, rfl, rfl, rfl, rfl, trivial⟩ ⟨rfl, trivial⟩) ?_
 rintro k ⟨hk, he⟩
 refine AW.seq ?_
 refine AW.sr ?_
 refine AWl.mv rfl rfl rfl rfl rfl ?_
 refine AWl.put (by exact R_fieldAddr rfl (.no rfl) rfl (.tm rfl) fl43_0) rfl ?_
 refine AWl.put (by exact R_load rfl (.no rfl) rfl (.tm rfl) ty22 rfl rfl) rfl ?_
 refine AWl.put (by exact R_lenm rfl (.no rfl) rfl (.tm rfl) (by exact .t) Tryz.underlying22) rfl ?_
 refine AWl.mv rfl rfl rfl rfl rfl ?_
 refine AWl.put (R_mul rfl (.no rfl) rfl (.tm rfl) (.tm rfl) (fun _ => ⟨by omega, by omega⟩)) rfl ?_
 refine AWl.put (R_lt rfl (.no rfl) rfl (.tm rfl) (.tm rfl)) rfl ?_
 refine AWl.nil ?_
 refine AW.cond (.tm rfl) (fun h25 => ?_) (fun h25 => ?_)
 ·skip
  try simp at h25
  refine AW.skip ?_
  refine AW.seq ?_
  refine AW.block ?_
  refine AW.le (σ' := ⟨_, [(2, _), (3, _), (4, _), (6, _), (7, _), (8, _), (9, _)], [(18, _)]⟩) (Le.sub0 rfl ⟨rfl, rfl, rfl, rfl, rfl, rfl, rfl, trivial⟩ ⟨rfl, trivial⟩) ?_
  refine AW.region ?_
  refine AWl.mv rfl rfl rfl rfl rfl ?_
  refine AWl.absadd (R_list (xs := [.const (.int .i64 (-1))]) 29 rfl rfl rfl (.cons (.const rfl) rfl rfl .nil) Tryz.underlying22 in3 rfl rfl rfl rfl) rfl ?_
  refine AWl.chgput (R_append rfl rfl rfl (.tm rfl) rfl (.tm rfl) (by exact .rf rfl) (by rfl) Tryz.underlying22 in3 rfl (by (simp [chunk]; omega)) (by (unfold maxLen; simp [chunk]; omega))) rfl ?_
  refine AWl.le (σ' := ⟨_, [(2, _), (3, _), (4, _), (6, _), (7, _), (8, _), (9, _), (30, _)], [(18, _), (29, _)]⟩) (Le.sub0 rfl ⟨rfl, rfl, rfl, rfl, rfl, rfl, rfl, rfl, trivial⟩ ⟨rfl, rfl, trivial⟩) ?_
  refine AWl.av rfl rfl rfl rfl rfl ?_
  refine AWl.nil ?_
  refine AW.region ?_
  refine AWl.mv rfl rfl rfl rfl rfl ?_
  refine AWl.put (R_add rfl (.no rfl) rfl (.tm rfl) (.const rfl) (fun _ => by omega)) rfl ?_
  refine AWl.av rfl rfl rfl rfl rfl ?_
  refine AWl.nil ?_
  repeat (with_reducible refine BlockQ.nor ?_)
  refine Round1.next (k + 1) ⟨by omega, trivial⟩ (by omega) (Le.sub0 rfl ⟨rfl, rfl, rfl, rfl, rfl, rfl, rfl, trivial⟩ ⟨(by refine congrArg (fun r => some (R.row 1 r)) ?_; first | (rw [List.replicate_succ']; simp [chunk, cInt]; done) | (rw [relax_at hzk]; unfold rlx; rw [if_pos h87]; simp [List.map_set, cInt]; done) | (rw [relax_at hzk]; unfold rlx; rw [if_neg (by omega)]; done) | (rw [List.take_of_length_le (by omega)]; done)), trivial⟩)
 ·skip
  try simp at h25
  refine AW.exit ?_
  refine AW.seq ?_
  refine AW.le (σ' := ⟨_, [(2, _), (3, _), (4, _), (6, _), (7, _), (8, _), (9, _)], [(18, _)]⟩) (Le.sub0 rfl ⟨rfl, rfl, rfl, rfl, rfl, rfl, rfl, trivial⟩ ⟨rfl, trivial⟩) ?_
  refine AW.region ?_
  refine AWl.mv rfl rfl rfl rfl rfl ?_
  refine AWl.mv rfl rfl rfl rfl rfl ?_
  refine AWl.put (R_mul rfl (.no rfl) rfl (.tm rfl) (.tm rfl) (fun _ => ⟨by omega, by omega⟩)) rfl ?_
  refine AWl.put (by exact R_fieldAddr rfl (.no rfl) rfl (.tm rfl) fl36_0) rfl ?_
  refine AWl.put (by exact R_load rfl (.no rfl) rfl (.tm rfl) ty3 rfl rfl) rfl ?_
  refine AWl.put (R_add rfl (.no rfl) rfl (.tm rfl) (.tm rfl) (fun _ => ⟨by omega, by omega⟩)) rfl ?_
  refine AWl.absadd (R_list (xs := [.tmp 36]) 37 rfl rfl rfl (.cons (.tm rfl) rfl rfl .nil) Tryz.underlying22 in3 rfl rfl rfl rfl) rfl ?_
  refine AWl.av rfl rfl rfl rfl rfl ?_
  refine AWl.nil ?_
  refine AW.seq ?_
  refine AW.le (σ' := ⟨_, [(2, _), (3, _), (4, _), (6, _), (7, _), (8, _), (9, _), (10, _)], [(18, .row 1 ((List.replicate (a.Accept.length * g.Values.length) (-1 : Int)).map cInt)), (37, .row 1 ([x * (a.Accept.length : Int) + a.Start].map cInt))]⟩) (Le.sub0 rfl ⟨rfl, rfl, rfl, rfl, rfl, rfl, rfl, rfl, trivial⟩ ⟨by rw [show k = a.Accept.length * g.Values.length by omega]; rfl, rfl, trivial⟩) ?_
  refine AW.region ?_
  refine AWl.mv rfl rfl rfl rfl rfl ?_
  refine AWl.mv rfl rfl rfl rfl rfl ?_
  refine AWl.put (by exact R_indexAddr_rf rfl (.no rfl) rfl (.tm rfl) rfl (.const rfl) Tryz.underlying22 ty3 (fun _ => ⟨by omega, (by exact map_get hq0)⟩)) rfl ?_
  refine AWl.put (by exact R_load_pr rfl (.no rfl) rfl (.tm rfl) rfl (by exact map_get hq0) ty3 rfl rfl) rfl ?_
  refine AWl.put (by exact R_indexAddr_rf rfl (.no rfl) rfl (.tm rfl) rfl (.tm rfl) Tryz.underlying22 ty3 (fun _ => ⟨by omega, (by exact map_get hr0)⟩)) rfl ?_
  refine AWl.absupd (R_store_pr rfl rfl rfl (.const rfl) rfl (.tm rfl) rfl (by exact map_get hr0) ty3 rfl rfl rfl rfl) ?_
  refine AWl.nil ?_
  refine AW.seq ?_
  refine AW.seq ?_
  refine AW.le (σ' := ⟨_, [(2, _), (3, _), (4, _), (6, _), (7, _), (8, _), (9, _), (10, _)], [(18, .row 1 ((zeroAll [x * (a.Accept.length : Int) + a.Start] (List.replicate (a.Accept.length * g.Values.length) (-1 : Int))).map cInt)), (37, _)]⟩) (Le.sub0 rfl ⟨rfl, rfl, rfl, rfl, rfl, rfl, rfl, rfl, trivial⟩ ⟨by refine congrArg (fun r => some (R.row 1 r)) ?_; simp [zeroAll, List.map_set, cInt], rfl, trivial⟩) ?_
  refine AW.region ?_
  refine AWl.ac rfl rfl rfl rfl rfl ?_
  refine AWl.nil ?_
  refine AW.block ?_
  refine AW.loop3 (fun (i : Nat) (O : List Int) (Q1 : List Int) => (i ≤ Q1.length ∧ BfsI (a.Accept.length * g.Values.length) O Q1 ∧ Q1.length + negs O ≤ 200) ∧ BfsAt (nxN g a) (ranksOf g a x) O Q1 i) (fun (i : Nat) (O : List Int) (Q1 : List Int) => ⟨_, [(11, (true, .a (.one (.t (.v (.int .i64 (i : Nat))))))), (8, (true, .a (.one (.rf 18)))), (10, (true, .a (.one (.rf 37)))), (3, _), (4, _), (6, _), (7, _)], [(18, .row 1 (O.map cInt)), (37, .row 1 (Q1.map cInt))]⟩) (fun (i : Nat) (O : List Int) (Q1 : List Int) => negs O + (Q1.length - i)) (0) (zeroAll [x * a.Accept.length + a.Start] (List.replicate (a.Accept.length * g.Values.length) (-1))) ([x * a.Accept.length + a.Start]) ⟨⟨Nat.zero_le _, bfs_start (by simpa using hs0), by have := negs_le (zeroAll [x * a.Accept.length + a.Start] (List.replicate (a.Accept.length * g.Values.length) (-1))); rw [zeroAll_len] at this; simp at this ⊢; omega⟩, BfsAt.start⟩ (Le.sub0 rfl ⟨rfl, rfl, rfl, rfl, rfl, rfl, rfl, trivial⟩ ⟨rfl, rfl, trivial⟩) ?_
  rintro i O Q1 ⟨hk1, he1⟩
  refine AW.seq ?_
  refine AW.sr ?_
  refine AWl.mv rfl rfl rfl rfl rfl ?_
  refine AWl.mv rfl rfl rfl rfl rfl ?_
  refine AWl.put (by exact R_lenm rfl (.no rfl) rfl (.tm rfl) (by exact .rf rfl) Tryz.underlying22) rfl ?_
  refine AWl.put (R_lt rfl (.no rfl) rfl (.tm rfl) (.tm rfl)) rfl ?_
  refine AWl.nil ?_
  refine AW.cond (.tm rfl) (fun h46 => ?_) (fun h46 => ?_)
  ·skip
   try simp at h46
   obtain ⟨q, hq⟩ : ∃ ξ, Q1[i]? = some ξ := ⟨_, List.getElem?_eq_getElem (by omega)⟩
   have hqr := hk1.2.1.mem q (List.mem_of_getElem? hq)
   obtain ⟨p, rfl⟩ := Int.eq_ofNat_of_zero_le hqr.1
   have hpl : p < a.Accept.length * g.Values.length := by omega
   have hdm := nd_ok (by omega) hpl
   obtain ⟨v, hv⟩ : ∃ v, g.Values[((p : Int) / (a.Accept.length : Int)).toNat]? = some v := ⟨_, List.getElem?_eq_getElem (by omega)⟩
   have hnx := nxN_steps g a p
   have hS : (stepsOf g a ((p : Int) / (a.Accept.length : Int)) ((p : Int) % (a.Accept.length : Int))).length = (nxN g a p).length := by rw [hnx, List.length_map]
   have hnk := nxN_ok ha hg hpl
   have hal : (arcsAt g ((p : Int) / (a.Accept.length : Int))).length ≤ 24 := Nat.le_trans (arcsL_len _ _) (by omega)
   have hSl := steps_len g a ((p : Int) / (a.Accept.length : Int)) ((p : Int) % (a.Accept.length : Int))
   have hfull := BfsI.relax hqr (l := nxN g a p) (st := (O, Q1)) hk1.2.1 hnk
   dsimp only at hfull
   have hlq := relax_more (p : Int) (nxN g a p) O Q1
   refine AW.skip ?_
   refine AW.seq ?_
   refine AW.block ?_
   refine AW.seq ?_
   refine AW.drawn 16 (nthB [[], [], [], [], [2, 3], [2, 3, 4], [], [2, 3, 4, 5, 6], [], [], [8, 9], [8, 9, 10], [], [8, 9, 10, 11, 12], [0, 1, 2, 3, 4, 5, 6, 7, 8, 9, 10, 11, 12, 13], [0, 1, 2, 3, 4, 5, 6, 7, 8, 9, 10, 11, 12, 13, 14]]) (by kernel_rfl) (by kernel_rfl) (by kernel_rfl) ?_
   refine DrawC.step rfl rfl rfl (Loc.of rfl fun σ' hs => (by exact R_load rfl (.no rfl) (hd_sup hs rfl) (.tm (hs.slots _ _ rfl)) ty43 rfl rfl)) ?_
   refine DrawC.step rfl rfl rfl (Loc.of rfl fun σ' hs => (by exact R_load rfl (.no rfl) (hd_sup hs rfl) (.tm (hs.slots _ _ rfl)) ty36 rfl rfl)) ?_
   refine DrawC.step rfl rfl rfl (Loc.of rfl fun σ' hs => R_move rfl (.no rfl) (hd_sup hs rfl) (.tm (hs.slots _ _ rfl))) ?_
   refine DrawC.step rfl rfl rfl (Loc.of rfl fun σ' hs => R_move rfl (.no rfl) (hd_sup hs rfl) (.tm (hs.slots _ _ rfl))) ?_
   refine DrawC.step rfl rfl rfl (Loc.of rfl fun σ' hs => (by exact R_indexAddr_rf rfl (.no rfl) (hd_sup hs rfl) (.tm (hs.slots _ _ rfl)) (hs.res _ _ rfl) (.tm (hs.slots _ _ rfl)) Tryz.underlying22 ty3 (fun _ => ⟨by omega, (by exact map_get hq)⟩))) ?_
   refine DrawC.step rfl rfl rfl (Loc.of rfl fun σ' hs => (by exact R_load_pr rfl (.no rfl) (hd_sup hs rfl) (.tm (hs.slots _ _ rfl)) (hs.res _ _ rfl) (by exact map_get hq) ty3 rfl rfl)) ?_
   refine DrawC.step rfl rfl rfl (Loc.of rfl fun σ' hs => R_move rfl (.no rfl) (hd_sup hs rfl) (.tm (hs.slots _ _ rfl))) ?_
   refine DrawC.step rfl rfl rfl (Loc.of rfl fun σ' hs => R_quo rfl (.no rfl) (hd_sup hs rfl) (.tm (hs.slots _ _ rfl)) (.tm (hs.slots _ _ rfl)) (fun _ => by omega)) ?_
   refine DrawC.step rfl rfl rfl (Loc.of rfl fun σ' hs => R_move rfl (.no rfl) (hd_sup hs rfl) (.tm (hs.slots _ _ rfl))) ?_
   refine DrawC.step rfl rfl rfl (Loc.of rfl fun σ' hs => R_move rfl (.no rfl) (hd_sup hs rfl) (.tm (hs.slots _ _ rfl))) ?_
   refine DrawC.step rfl rfl rfl (Loc.of rfl fun σ' hs => (by exact R_indexAddr_rf rfl (.no rfl) (hd_sup hs rfl) (.tm (hs.slots _ _ rfl)) (hs.res _ _ rfl) (.tm (hs.slots _ _ rfl)) Tryz.underlying22 ty3 (fun _ => ⟨by omega, (by exact map_get hq)⟩))) ?_
   refine DrawC.step rfl rfl rfl (Loc.of rfl fun σ' hs => (by exact R_load_pr rfl (.no rfl) (hd_sup hs rfl) (.tm (hs.slots _ _ rfl)) (hs.res _ _ rfl) (by exact map_get hq) ty3 rfl rfl)) ?_
   refine DrawC.step rfl rfl rfl (Loc.of rfl fun σ' hs => R_move rfl (.no rfl) (hd_sup hs rfl) (.tm (hs.slots _ _ rfl))) ?_
   refine DrawC.step rfl rfl rfl (Loc.of rfl fun σ' hs => R_rem rfl (.no rfl) (hd_sup hs rfl) (.tm (hs.slots _ _ rfl)) (.tm (hs.slots _ _ rfl)) (fun _ => by omega)) ?_
   refine DrawC.step rfl rfl rfl (Loc.of rfl fun σ' hs => R_callz (FnT.fr (specl14Steps g a ha hg ((p : Int) / (a.Accept.length : Int)) ((p : Int) % (a.Accept.length : Int)) v (by omega) hv (by omega))) rfl (.no rfl) (hd_sup hs rfl) (.cons (.tm (hs.slots _ _ rfl)) (readA_sup hs rfl) (.cons (.tm (hs.slots _ _ rfl)) (readA_sup hs rfl) (.cons (.tm (hs.slots _ _ rfl)) (readA_sup hs rfl) (.cons (.tm (hs.slots _ _ rfl)) (readA_sup hs rfl) .nil))))) ?_
   refine DrawC.step rfl rfl rfl (Loc.of rfl fun σ' hs => R_assign rfl (.no rfl) (hd_sup hs rfl) (.tm (hs.slots _ _ rfl))) ?_
   refine DrawC.fin rfl rfl ?_
   refine AWl.nil ?_
   refine AW.seq ?_
   refine AW.le (σ' := ⟨_, [(3, _), (4, _), (6, _), (7, _), (8, _), (10, _), (11, _), (12, _)], [(18, _), (37, _)]⟩) (Le.sub0 rfl ⟨rfl, rfl, rfl, rfl, rfl, rfl, rfl, rfl, trivial⟩ ⟨rfl, rfl, trivial⟩) ?_
   refine AW.region ?_
   refine AWl.ac rfl rfl rfl rfl rfl ?_
   refine AWl.nil ?_
   refine AW.block ?_
   refine AW.loop1 (fun (j : Nat) => (j ≤ (nxN g a p).length) ∧ True) (fun (j : Nat) => ⟨_, [(13, (true, .a (.one (.t (.v (.int .i64 (j : Nat))))))), (8, (true, .a (.one (.rf 18)))), (10, (true, .a (.one (.rf 37)))), (3, _), (4, _), (6, _), (7, _), (11, _), (12, _)], [(18, .row 1 ((relax (p : Int) ((nxN g a p).take j) (O, Q1)).1.map cInt)), (37, .row 1 ((relax (p : Int) ((nxN g a p).take j) (O, Q1)).2.map cInt))]⟩) (fun (j : Nat) => (nxN g a p).length - j) (0) ⟨Nat.zero_le _, trivial⟩ (Le.sub0 rfl ⟨rfl, rfl, rfl, rfl, rfl, rfl, rfl, rfl, rfl, trivial⟩ ⟨rfl, rfl, trivial⟩) ?_
   rintro j ⟨hk2, he2⟩
   refine AW.seq ?_
   refine AW.sr ?_
   refine AWl.mv rfl rfl rfl rfl rfl ?_
   refine AWl.mv rfl rfl rfl rfl rfl ?_
   refine AWl.put (by exact R_lenm rfl (.no rfl) rfl (.tm rfl) (by exact .t) Tryz.underlying144) rfl ?_
   refine AWl.put (R_lt rfl (.no rfl) rfl (.tm rfl) (.tm rfl)) rfl ?_
   refine AWl.nil ?_
   refine AW.cond (.tm rfl) (fun h67 => ?_) (fun h67 => ?_)
   ·skip
    try simp at h67
    obtain ⟨z, hz⟩ : ∃ ξ, (stepsOf g a ((p : Int) / (a.Accept.length : Int)) ((p : Int) % (a.Accept.length : Int)))[j]? = some ξ := ⟨_, List.getElem?_eq_getElem (by omega)⟩
    have hzk : (nxN g a p)[j]? = some (z.Node * (a.Accept.length : Int) + z.State) := by rw [hnx, List.getElem?_map, hz]; rfl
    have hzo := steps_ok ha hg hv (by omega) z (List.mem_of_getElem? hz)
    have hkk := hnk _ (List.mem_of_getElem? hzk)
    have hzm : 0 ≤ z.Node * (a.Accept.length : Int) := Int.mul_nonneg hzo.1 (by omega)
    have hst := BfsI.relax hqr (l := (nxN g a p).take j) (st := (O, Q1)) hk1.2.1 (fun k hk => hnk k (List.mem_of_mem_take hk))
    dsimp only at hst
    have hgk := atI_get (out := (relax (p : Int) ((nxN g a p).take j) (O, Q1)).1) (k := z.Node * (a.Accept.length : Int) + z.State) (by rw [hst.1.len]; omega)
    have hgp := atI_get (out := (relax (p : Int) ((nxN g a p).take j) (O, Q1)).1) (k := (p : Int)) (by rw [hst.1.len]; omega)
    have hvp := hst.1.val _ (List.mem_of_getElem? hgp)
    have hqi : (relax (p : Int) ((nxN g a p).take j) (O, Q1)).2[i]? = some (p : Int) := by rw [relax_front _ _ _ _ (by omega)]; exact hq
    refine AW.skip ?_
    refine AW.seq ?_
    refine AW.block ?_
    refine AW.seq ?_
    refine AW.drawn 14 (nthB [[], [], [0, 1], [0, 1, 2], [0, 1, 2, 3], [], [0, 1, 2, 3, 4, 5], [], [], [7, 8], [7, 8, 9], [7, 8, 9, 10], [0, 1, 2, 3, 4, 5, 6, 7, 8, 9, 10, 11], [0, 1, 2, 3, 4, 5, 6, 7, 8, 9, 10, 11, 12]]) (by kernel_rfl) (by kernel_rfl) (by kernel_rfl) ?_
    refine DrawC.step rfl rfl rfl (Loc.of rfl fun σ' hs => R_move rfl (.no rfl) (hd_sup hs rfl) (.tm (hs.slots _ _ rfl))) ?_
    refine DrawC.step rfl rfl rfl (Loc.of rfl fun σ' hs => R_move rfl (.no rfl) (hd_sup hs rfl) (.tm (hs.slots _ _ rfl))) ?_
    refine DrawC.step rfl rfl rfl (Loc.of rfl fun σ' hs => (by exact R_indexAddr rfl (.no rfl) (hd_sup hs rfl) (.tm (hs.slots _ _ rfl)) (.tm (hs.slots _ _ rfl)) Tryz.underlying144 ty149 (fun _ => ⟨by omega, (by exact map_get hz)⟩))) ?_
    refine DrawC.step rfl rfl rfl (Loc.of rfl fun σ' hs => (by exact R_fieldAddr rfl (.no rfl) (hd_sup hs rfl) (.tm (hs.slots _ _ rfl)) fl149_1)) ?_
    refine DrawC.step rfl rfl rfl (Loc.of rfl fun σ' hs => (by exact R_load rfl (.no rfl) (hd_sup hs rfl) (.tm (hs.slots _ _ rfl)) ty3 rfl rfl)) ?_
    refine DrawC.step rfl rfl rfl (Loc.of rfl fun σ' hs => R_move rfl (.no rfl) (hd_sup hs rfl) (.tm (hs.slots _ _ rfl))) ?_
    refine DrawC.step rfl rfl rfl (Loc.of rfl fun σ' hs => R_mul rfl (.no rfl) (hd_sup hs rfl) (.tm (hs.slots _ _ rfl)) (.tm (hs.slots _ _ rfl)) (fun _ => by omega)) ?_
    refine DrawC.step rfl rfl rfl (Loc.of rfl fun σ' hs => R_move rfl (.no rfl) (hd_sup hs rfl) (.tm (hs.slots _ _ rfl))) ?_
    refine DrawC.step rfl rfl rfl (Loc.of rfl fun σ' hs => R_move rfl (.no rfl) (hd_sup hs rfl) (.tm (hs.slots _ _ rfl))) ?_
    refine DrawC.step rfl rfl rfl (Loc.of rfl fun σ' hs => (by exact R_indexAddr rfl (.no rfl) (hd_sup hs rfl) (.tm (hs.slots _ _ rfl)) (.tm (hs.slots _ _ rfl)) Tryz.underlying144 ty149 (fun _ => ⟨by omega, (by exact map_get hz)⟩))) ?_
    refine DrawC.step rfl rfl rfl (Loc.of rfl fun σ' hs => (by exact R_fieldAddr rfl (.no rfl) (hd_sup hs rfl) (.tm (hs.slots _ _ rfl)) fl149_2)) ?_
    refine DrawC.step rfl rfl rfl (Loc.of rfl fun σ' hs => (by exact R_load rfl (.no rfl) (hd_sup hs rfl) (.tm (hs.slots _ _ rfl)) ty3 rfl rfl)) ?_
    refine DrawC.step rfl rfl rfl (Loc.of rfl fun σ' hs => R_add rfl (.no rfl) (hd_sup hs rfl) (.tm (hs.slots _ _ rfl)) (.tm (hs.slots _ _ rfl)) (fun _ => by omega)) ?_
    refine DrawC.step rfl rfl rfl (Loc.of rfl fun σ' hs => R_assign rfl (.no rfl) (hd_sup hs rfl) (.tm (hs.slots _ _ rfl))) ?_
    refine DrawC.fin rfl rfl ?_
    refine AWl.nil ?_
    refine AW.seq ?_
    refine AW.le (σ' := ⟨_, [(3, _), (4, _), (6, _), (7, _), (8, _), (10, _), (11, _), (12, _), (13, _), (14, _)], [(18, _), (37, _)]⟩) (Le.sub0 rfl ⟨rfl, rfl, rfl, rfl, rfl, rfl, rfl, rfl, rfl, rfl, trivial⟩ ⟨rfl, rfl, trivial⟩) ?_
    refine AW.region ?_
    refine AWl.mv rfl rfl rfl rfl rfl ?_
    refine AWl.mv rfl rfl rfl rfl rfl ?_
    refine AWl.put (by exact R_indexAddr_rf rfl (.no rfl) rfl (.tm rfl) rfl (.tm rfl) Tryz.underlying22 ty3 (fun _ => ⟨by omega, (by exact map_get hgk)⟩)) rfl ?_
    refine AWl.put (by exact R_load_pr rfl (.no rfl) rfl (.tm rfl) rfl (by exact map_get hgk) ty3 rfl rfl) rfl ?_
    refine AWl.put (R_lt rfl (.no rfl) rfl (.tm rfl) (.const rfl)) rfl ?_
    refine AWl.nil ?_
    refine AW.cond (.tm rfl) (fun h87 => ?_) (fun h87 => ?_)
    ·skip
     try simp at h87
     refine AW.sr ?_
     refine AWl.mv rfl rfl rfl rfl rfl ?_
     refine AWl.mv rfl rfl rfl rfl rfl ?_
     refine AWl.mv rfl rfl rfl rfl rfl ?_
     refine AWl.mv rfl rfl rfl rfl rfl ?_
     refine AWl.mv rfl rfl rfl rfl rfl ?_
     refine AWl.put (by exact R_indexAddr_rf rfl (.no rfl) rfl (.tm rfl) rfl (.tm rfl) Tryz.underlying22 ty3 (fun _ => ⟨by omega, (by exact map_get hqi)⟩)) rfl ?_
     refine AWl.put (by exact R_load_pr rfl (.no rfl) rfl (.tm rfl) rfl (by exact map_get hqi) ty3 rfl rfl) rfl ?_
     refine AWl.put (by exact R_indexAddr_rf rfl (.no rfl) rfl (.tm rfl) rfl (.tm rfl) Tryz.underlying22 ty3 (fun _ => ⟨by omega, (by exact map_get hgp)⟩)) rfl ?_
     refine AWl.put (by exact R_load_pr rfl (.no rfl) rfl (.tm rfl) rfl (by exact map_get hgp) ty3 rfl rfl) rfl ?_
     refine AWl.put (R_add rfl (.no rfl) rfl (.tm rfl) (.const rfl) (fun _ => ⟨by omega, by omega⟩)) rfl ?_
     refine AWl.put (by exact R_indexAddr_rf rfl (.no rfl) rfl (.tm rfl) rfl (.tm rfl) Tryz.underlying22 ty3 (fun _ => ⟨by omega, (by exact map_get hgk)⟩)) rfl ?_
     refine AWl.absupd (R_store_pr rfl rfl rfl (.tm rfl) rfl (.tm rfl) rfl (by exact map_get hgk) ty3 rfl rfl rfl rfl) ?_
     refine AWl.nil ?_
     refine AW.le (σ' := ⟨_, [(3, _), (4, _), (6, _), (7, _), (8, _), (10, _), (11, _), (12, _), (13, _), (14, _)], [(18, _), (37, _)]⟩) (Le.sub0 rfl ⟨rfl, rfl, rfl, rfl, rfl, rfl, rfl, rfl, rfl, rfl, trivial⟩ ⟨rfl, rfl, trivial⟩) ?_
     refine AW.region ?_
     refine AWl.mv rfl rfl rfl rfl rfl ?_
     refine AWl.mv rfl rfl rfl rfl rfl ?_
     refine AWl.absadd (R_list (xs := [.tmp 100]) 101 rfl rfl rfl (.cons (.tm rfl) rfl rfl .nil) Tryz.underlying22 in3 rfl rfl rfl rfl) rfl ?_
     refine AWl.chgput (R_append rfl rfl rfl (.tm rfl) rfl (.tm rfl) (by exact .rf rfl) (by rfl) Tryz.underlying22 in3 rfl (by (simp [chunk]; omega)) (by (unfold maxLen; simp [chunk]; omega))) rfl ?_
     refine AWl.le (σ' := ⟨_, [(3, _), (4, _), (6, _), (7, _), (8, _), (10, _), (11, _), (12, _), (13, _), (14, _), (102, _)], [(18, _), (37, _), (101, _)]⟩) (Le.sub0 rfl ⟨rfl, rfl, rfl, rfl, rfl, rfl, rfl, rfl, rfl, rfl, rfl, trivial⟩ ⟨rfl, rfl, rfl, trivial⟩) ?_
     refine AWl.av rfl rfl rfl rfl rfl ?_
     refine AWl.nil ?_
     refine AW.region ?_
     refine AWl.mv rfl rfl rfl rfl rfl ?_
     refine AWl.put (R_add rfl (.no rfl) rfl (.tm rfl) (.const rfl) (fun _ => by omega)) rfl ?_
     refine AWl.av rfl rfl rfl rfl rfl ?_
     refine AWl.nil ?_
     repeat (with_reducible refine BlockQ.nor ?_)
     refine Round1.next (j + 1) ⟨by omega, trivial⟩ (by omega) (Le.sub0 rfl ⟨rfl, rfl, rfl, rfl, rfl, rfl, rfl, rfl, rfl, trivial⟩ ⟨(by refine congrArg (fun r => some (R.row 1 r)) ?_; first | (rw [List.replicate_succ']; simp [chunk, cInt]; done) | (rw [relax_at hzk]; unfold rlx; rw [if_pos h87]; simp [List.map_set, cInt]; done) | (rw [relax_at hzk]; unfold rlx; rw [if_neg (by omega)]; done) | (rw [List.take_of_length_le (by omega)]; done)), (by refine congrArg (fun r => some (R.row 1 r)) ?_; first | rfl | (rw [relax_at hzk]; unfold rlx; rw [if_pos h87]; simp [cInt, chunk]; done) | (rw [relax_at hzk]; unfold rlx; rw [if_neg (by omega)]; done) | (rw [List.take_of_length_le (by omega)]; done)), trivial⟩)
    ·skip
     try simp at h87
     refine AW.skip ?_
     refine AW.region ?_
     refine AWl.mv rfl rfl rfl rfl rfl ?_
     refine AWl.put (R_add rfl (.no rfl) rfl (.tm rfl) (.const rfl) (fun _ => by omega)) rfl ?_
     refine AWl.av rfl rfl rfl rfl rfl ?_
     refine AWl.nil ?_
     repeat (with_reducible refine BlockQ.nor ?_)
     refine Round1.next (j + 1) ⟨by omega, trivial⟩ (by omega) (Le.sub0 rfl ⟨rfl, rfl, rfl, rfl, rfl, rfl, rfl, rfl, rfl, trivial⟩ ⟨(by refine congrArg (fun r => some (R.row 1 r)) ?_; first | (rw [List.replicate_succ']; simp [chunk, cInt]; done) | (rw [relax_at hzk]; unfold rlx; rw [if_pos h87]; simp [List.map_set, cInt]; done) | (rw [relax_at hzk]; unfold rlx; rw [if_neg (by omega)]; done) | (rw [List.take_of_length_le (by omega)]; done)), (by refine congrArg (fun r => some (R.row 1 r)) ?_; first | rfl | (rw [relax_at hzk]; unfold rlx; rw [if_pos h87]; simp [cInt, chunk]; done) | (rw [relax_at hzk]; unfold rlx; rw [if_neg (by omega)]; done) | (rw [List.take_of_length_le (by omega)]; done)), trivial⟩)
   ·skip
    try simp at h67
    refine AW.exit ?_
    refine AW.region ?_
    refine AWl.mv rfl rfl rfl rfl rfl ?_
    refine AWl.put (R_add rfl (.no rfl) rfl (.tm rfl) (.const rfl) (fun _ => by omega)) rfl ?_
    refine AWl.av rfl rfl rfl rfl rfl ?_
    refine AWl.nil ?_
    repeat (with_reducible refine BlockQ.nor ?_)
    refine Round3.next (i + 1) ((relax (p : Int) (nxN g a p) (O, Q1)).1) ((relax (p : Int) (nxN g a p) (O, Q1)).2) ⟨⟨by omega, hfull.1, by omega⟩, BfsAt.next he1 hk1.2.1 hq hnk⟩ (by omega) (Le.sub0 rfl ⟨rfl, rfl, rfl, rfl, rfl, rfl, rfl, trivial⟩ ⟨(by refine congrArg (fun r => some (R.row 1 r)) ?_; first | (rw [List.replicate_succ']; simp [chunk, cInt]; done) | (rw [relax_at hzk]; unfold rlx; rw [if_pos h87]; simp [List.map_set, cInt]; done) | (rw [relax_at hzk]; unfold rlx; rw [if_neg (by omega)]; done) | (rw [List.take_of_length_le (by omega)]; done)), (by refine congrArg (fun r => some (R.row 1 r)) ?_; first | rfl | (rw [relax_at hzk]; unfold rlx; rw [if_pos h87]; simp [cInt, chunk]; done) | (rw [relax_at hzk]; unfold rlx; rw [if_neg (by omega)]; done) | (rw [List.take_of_length_le (by omega)]; done)), trivial⟩)
  ·skip
   try simp at h46
   refine AW.exit ?_
   refine AW.sr ?_
   refine AWl.mv rfl rfl rfl rfl rfl ?_
   refine AWl.av rfl rfl rfl rfl rfl ?_
   refine AWl.nil ?_
   refine AW.ret ?_
   refine Res.one rfl (.tmp rfl .nil) rfl ?_
   rw [BfsAt.done he1 (by omega)]; rfl
end Go.Proofs.YtoealglkenhphaaGreat
