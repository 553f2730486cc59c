import Derived.Test.YtamnfkfjfelbbaaB70xw
set_option linter.unusedVariables false
set_option linter.unusedSimpArgs false
set_option maxHeartbeats 1000000
set_option maxRecDepth 100000
namespace Go.Q
open Go.D
structure BfsD (nx : Nat → List Int) (S : Int → Prop) (out qu : List Int) : Prop where
 vis : ∀ q ∈ qu, visI out q
 srt : qu.Pairwise fun p q => atI out p ≤ atI out q
 top : ∀ p ∈ qu, ∀ j, visI out j → atI out j ≤ atI out p + 1
 cls : ∀ p, visI out p → p ∈ qu ∨ ∀ k ∈ nx p.toNat, visI out k ∧ atI out k ≤ atI out p + 1
 ex : ∀ j, visI out j → 0 < atI out j → ∃ q, visI out q ∧ j ∈ nx q.toNat ∧ atI out j = atI out q + 1
 z0 : ∀ j, visI out j → (atI out j = 0 ↔ S j)
structure BfsM (nx : Nat → List Int) (S : Int → Prop) (q : Int) (l out r : List Int) : Prop where
 qv : visI out q
 vis : ∀ p ∈ r, visI out p
 srt : r.Pairwise fun p q => atI out p ≤ atI out q
 lo : ∀ p ∈ r, atI out q ≤ atI out p
 top : ∀ j, visI out j → atI out j ≤ atI out q + 1
 cls : ∀ p, visI out p → p ∈ r ∨ p = q ∨ ∀ k ∈ nx p.toNat, visI out k ∧ atI out k ≤ atI out p + 1
 dn : ∀ k ∈ l, visI out k
 ex : ∀ j, visI out j → 0 < atI out j → ∃ q, visI out q ∧ j ∈ nx q.toNat ∧ atI out j = atI out q + 1
 z0 : ∀ j, visI out j → (atI out j = 0 ↔ S j)
theorem BfsM.step {nx : Nat → List Int} {S : Int → Prop} {q : Int} {l out r : List Int} (hS : ∀ j, S j → visI out j) (h : BfsM nx S q l out r) {k : Int} (hk : 0 ≤ k ∧ k < out.length) (hkn : k ∈ nx q.toNat) : BfsM nx S q (l ++ [k]) (rlx q (out, r) k).1 (rlx q (out, r) k).2 := by
 have hvis : ∀ j, visI (rlx q (out, r) k).1 j ↔ visI out j ∨ j = k := fun j => rlx_vis h.qv hk
 by_cases hneg : atI out k < 0
 · have e : rlx q (out, r) k = (out.set k.toNat (atI out q + 1), r ++ [k]) := by unfold rlx; rw [if_pos hneg]
   rw [e] at hvis ⊢
   dsimp only at hvis ⊢
   have hnv : ¬ visI out k := fun hv => by have := hv.2.2; omega
   have hold : ∀ j, visI out j → atI (out.set k.toNat (atI out q + 1)) j = atI out j := fun j hj => by
    rw [atI_set hk hj.1, if_neg (fun e => hnv (by rw [← e]; exact hj))]
   have hnew : atI (out.set k.toNat (atI out q + 1)) k = atI out q + 1 := by rw [atI_set hk hk.1, if_pos rfl]
   have hq0 := h.qv.2.2
   refine ⟨(hvis q).2 (.inl h.qv), fun p hp => ?_, ?_, fun p hp => ?_, fun j hj => ?_, fun p hp => ?_, fun x hx => ?_, fun j hj h0 => ?_, fun j hj => ?_⟩
   · rcases List.mem_append.1 hp with hp | hp
     · exact (hvis p).2 (.inl (h.vis p hp))
     · rw [List.mem_singleton] at hp; exact (hvis p).2 (.inr hp)
   · refine List.pairwise_append.2 ⟨h.srt.imp_of_mem fun {a b} ha hb hab => ?_, List.pairwise_singleton _ _, fun a ha b hb => ?_⟩
     · rw [hold a (h.vis a ha), hold b (h.vis b hb)]; exact hab
     · rw [List.mem_singleton] at hb
       subst hb
       rw [hold a (h.vis a ha), hnew]; exact h.top a (h.vis a ha)
   · rw [hold q h.qv]
     rcases List.mem_append.1 hp with hp | hp
     · rw [hold p (h.vis p hp)]; exact h.lo p hp
     · rw [List.mem_singleton] at hp; subst hp; rw [hnew]; omega
   · rw [hold q h.qv]
     rcases (hvis j).1 hj with hj | rfl
     · rw [hold j hj]; exact h.top j hj
     · rw [hnew]; omega
   · rcases (hvis p).1 hp with hp | rfl
     · rcases h.cls p hp with h1 | h1 | h1
       · exact .inl (List.mem_append.2 (.inl h1))
       · exact .inr (.inl h1)
       · refine .inr (.inr fun x hx => ?_)
         rw [hold p hp, hold x (h1 x hx).1]
         exact ⟨(hvis x).2 (.inl (h1 x hx).1), (h1 x hx).2⟩
     · exact .inl (List.mem_append.2 (.inr (by simp)))
   · rcases List.mem_append.1 hx with hx | hx
     · exact (hvis x).2 (.inl (h.dn x hx))
     · rw [List.mem_singleton] at hx; exact (hvis x).2 (.inr hx)
   · rcases (hvis j).1 hj with hj | rfl
     · rw [hold j hj] at h0 ⊢
       obtain ⟨p, h1, h2, h3⟩ := h.ex j hj h0
       exact ⟨p, (hvis p).2 (.inl h1), h2, by rw [hold p h1]; exact h3⟩
     · exact ⟨q, (hvis q).2 (.inl h.qv), hkn, by rw [hnew, hold q h.qv]⟩
   · rcases (hvis j).1 hj with hj | rfl
     · rw [hold j hj]; exact h.z0 j hj
     · rw [hnew]
       constructor
       · intro h0; omega
       · intro hs; exact absurd (hS _ hs) hnv
 · have e : rlx q (out, r) k = (out, r) := by unfold rlx; rw [if_neg hneg]
   rw [e]
   refine ⟨h.qv, h.vis, h.srt, h.lo, h.top, h.cls, fun x hx => ?_, h.ex, h.z0⟩
   rcases List.mem_append.1 hx with hx | hx
   · exact h.dn x hx
   · rw [List.mem_singleton] at hx; subst hx; exact ⟨hk.1, hk.2, Int.not_lt.1 hneg⟩
theorem BfsM.all {nx : Nat → List Int} {S : Int → Prop} {q : Int} : ∀ (l2 : List Int) {l1 out r : List Int}, (∀ j, S j → visI out j) → BfsM nx S q l1 out r → (∀ k ∈ l2, (0 ≤ k ∧ k < out.length) ∧ k ∈ nx q.toNat) → BfsM nx S q (l1 ++ l2) (relax q l2 (out, r)).1 (relax q l2 (out, r)).2
 | [], l1, out, r, _, h, _ => by rw [List.append_nil]; exact h
 | k :: l2, l1, out, r, hS, h, hl => by
  have hk := hl k (by simp)
  have h1 := h.step hS hk.1 hk.2
  have e : relax q (k :: l2) (out, r) = relax q l2 ((rlx q (out, r) k).1, (rlx q (out, r) k).2) := rfl
  rw [e, show l1 ++ k :: l2 = l1 ++ [k] ++ l2 by simp]
  exact BfsM.all l2 (fun j hj => (rlx_vis h.qv hk.1).2 (.inl (hS j hj))) h1 fun x hx => by rw [rlx_len]; exact hl x (by simp [hx])
theorem BfsD.next {nx : Nat → List Int} {S : Int → Prop} {q : Int} {out r : List Int} (hS : ∀ j, S j → visI out j) (h : BfsD nx S out (q :: r)) (hn : ∀ k ∈ nx q.toNat, 0 ≤ k ∧ k < out.length) : BfsD nx S (relax q (nx q.toNat) (out, r)).1 (relax q (nx q.toNat) (out, r)).2 := by
 have hp := List.pairwise_cons.1 h.srt
 have h0 : BfsM nx S q [] out r := ⟨h.vis q (by simp), fun p hp => h.vis p (by simp [hp]), hp.2, hp.1, fun j hj => h.top q (by simp) j hj, fun p hv => by
  rcases h.cls p hv with h1 | h1
  · rcases List.mem_cons.1 h1 with h1 | h1
    · exact .inr (.inl h1)
    · exact .inl h1
  · exact .inr (.inr h1), fun k hk => (by cases hk), h.ex, h.z0⟩
 have h1 := BfsM.all (nx q.toNat) hS h0 fun k hk => ⟨hn k hk, hk⟩
 rw [List.nil_append] at h1
 refine ⟨h1.vis, h1.srt, fun p hp j hj => Int.le_trans (h1.top j hj) (Int.add_le_add_right (h1.lo p hp) 1), fun p hv => ?_, h1.ex, h1.z0⟩
 rcases h1.cls p hv with h2 | rfl | h2
 · exact .inl h2
 · exact .inr fun k hk => ⟨h1.dn k hk, h1.top k (h1.dn k hk)⟩
 · exact .inr h2
theorem bfs_D {nx : Nat → List Int} {S : Int → Prop} {N : Nat} (hn : ∀ p, p < N → ∀ k ∈ nx p, 0 ≤ k ∧ k < N) : ∀ (f : Nat) (out qu : List Int), (∀ j, S j → visI out j) → BfsI N out qu → negs out + qu.length < f → BfsD nx S out qu → BfsD nx S (bfs nx f out qu) []
 | 0, _, _, _, _, h, _ => by omega
 | f + 1, out, [], _, _, _, h => by rw [bfs]; exact h
 | f + 1, out, q :: r, hS, hI, hf, h => by
  rw [bfs]
  have hq := hI.mem q (by simp)
  have hnq := hn q.toNat (by omega)
  have hR := BfsI.relax (N := N) hq (l := nx q.toNat) (st := (out, r)) hI.tail hnq
  have h2 := hR.2.1
  simp only [List.length_cons] at hf h2
  exact bfs_D hn f _ _ (fun j hj => ((relax_vis (q := q) (j := j) (l := nx q.toNat) (out := out) (r := r) (h.vis q (by simp)) fun k hk => by rw [hI.len]; exact hnq k hk).1).2 (.inl (hS j hj))) hR.1 (by omega) (h.next hS fun k hk => by rw [hI.len]; exact hnq k hk)
theorem spread_D {nx : Nat → List Int} {N : Nat} (hn : ∀ p, p < N → ∀ k ∈ nx p, 0 ≤ k ∧ k < N) {l : List Int} (hl : ∀ q ∈ l, 0 ≤ q ∧ q < (N : Int)) : BfsD nx (· ∈ l) (spreadOf nx N l) [] := by
 have hz : ∀ p, visI (zeroAll l (List.replicate N (-1))) p ↔ p ∈ l := fun p => by
  rw [zeroAll_vis fun q hq => by simpa using hl q hq]
  constructor
  · rintro (⟨h1, h3, h2⟩ | h)
    · exfalso
      unfold atI at h2
      rw [List.length_replicate] at h3
      rw [List.getElem?_replicate, if_pos (by omega)] at h2; simp at h2
    · exact h
  · exact .inr
 have hv : ∀ p, visI (zeroAll l (List.replicate N (-1))) p → atI (zeroAll l (List.replicate N (-1))) p = 0 := fun p hp => by
  have h1 := zeroAll_val l (out := List.replicate N (-1)) (fun v hv => .inl (List.mem_replicate.1 hv).2) _ (List.mem_of_getElem? (atI_get (out := zeroAll l (List.replicate N (-1))) (k := p) (by have := hp.1; have := hp.2.1; omega)))
  have := hp.2.2
  omega
 have hng := negs_le (zeroAll l (List.replicate N (-1)))
 rw [zeroAll_len, List.length_replicate] at hng
 unfold spreadOf
 refine bfs_D hn _ _ _ (fun j hj => (hz j).2 hj) (bfs_start hl) (by omega) ⟨fun q hq => (hz q).2 hq, ?_, fun p hp j hj => ?_, fun p hp => .inl ((hz p).1 hp), fun j hj h0 => ?_, fun j hj => ⟨fun _ => (hz j).1 hj, fun _ => hv j hj⟩⟩
 · exact List.pairwise_of_forall_mem_list fun a ha b hb => by rw [hv a ((hz a).2 ha), hv b ((hz b).2 hb)]; exact Int.le_refl _
 · rw [hv j hj, hv p ((hz p).2 hp)]; omega
 · rw [hv j hj] at h0; omega
def CanN (nx : Nat → List Int) (G : Nat → Bool) : Nat → Nat → Prop
 | 0, i => G i = true
 | r + 1, i => ∃ z ∈ nx i, CanN nx G r z.toNat
theorem IsDist.canN {nx : Nat → List Int} {G : Nat → Bool} {N : Nat} (hn : ∀ p, p < N → ∀ k ∈ nx p, 0 ≤ k ∧ k < N) {O : List Int} (h : IsDist nx G N O) : ∀ (n i : Nat), i < N → atI O (i : Int) = n → CanN nx G n i
 | 0, i, hi, e => (h.z0 i hi).1 (by simpa using e)
 | n + 1, i, hi, e => by
  obtain ⟨z, hz, h5⟩ := h.ex i hi (by omega)
  have hb := hn i hi z hz
  exact ⟨z, hz, h.canN hn n z.toNat (by omega) (by rw [Int.toNat_of_nonneg hb.1]; omega)⟩
theorem IsDist.min {nx : Nat → List Int} {G : Nat → Bool} {N : Nat} (hn : ∀ p, p < N → ∀ k ∈ nx p, 0 ≤ k ∧ k < N) {O : List Int} (h : IsDist nx G N O) : ∀ (n i : Nat), i < N → CanN nx G n i → 0 ≤ atI O (i : Int) ∧ atI O (i : Int) ≤ n
 | 0, i, hi, hc => by have := (h.z0 i hi).2 hc; omega
 | n + 1, i, hi, hc => by
  obtain ⟨z, hz, hc⟩ := hc
  have hb := hn i hi z hz
  have ih := h.min hn n z.toNat (by omega) hc
  rw [Int.toNat_of_nonneg hb.1] at ih
  have := h.cl i hi z hz ih.1
  omega
theorem distC_is {g : TGraph} {a : TAutomaton} (ha : validA a = true) (hg : validG g = true) (c : Int) {y v : Int} (hy : 0 ≤ y ∧ y < g.Values.length) (hv : g.Values[y.toNat]? = some v) : IsDist (nxC g a c) (goalOf g a y) (NP g a) (distC g a c y v) := by
 have hnl : (nextC g a c).length = NP g a := nextC_len g a c
 have htl : (turnedL (nextC g a c)).length = NP g a := by rw [turnedL_len, hnl]
 have hok : ∀ p, p < (turnedL (nextC g a c)).length → ∀ k ∈ nxL (turnedL (nextC g a c)) p, 0 ≤ k ∧ k < (turnedL (nextC g a c)).length := fun p hp k hk => by rw [turnedL_len] at hp ⊢; exact turnedL_ok p hp k hk
 have hgr : ∀ q ∈ goalsL a y v, 0 ≤ q ∧ q < ((turnedL (nextC g a c)).length : Int) := by rw [htl]; exact goals_rng ha hy
 have hlen := (toC_ok ha hg c hy hv).1
 have hD : BfsD (nxL (turnedL (nextC g a c))) (· ∈ goalsL a y v) (distC g a c y v) [] := spread_D hok hgr
 have hlo : ∀ x ∈ distC g a c y v, -1 ≤ x := fun x hx => ((spread_ok hok hgr).2 x hx).1
 have hgl : ∀ i : Nat, i < NP g a → ((i : Int) ∈ goalsL a y v ↔ goalOf g a y i = true) := fun i hi => goals_iff ha hy.1 hv hi
 have hvi : ∀ i : Nat, i < NP g a → 0 ≤ atI (distC g a c y v) (i : Int) → visI (distC g a c y v) (i : Int) := fun i hi h0 => ⟨by omega, by rw [hlen]; omega, h0⟩
 have htn : ∀ q : Int, visI (distC g a c y v) q → nxL (turnedL (nextC g a c)) q.toNat = turnAt (nxL (nextC g a c)) (nextC g a c).length q.toNat := fun q hq => turnedL_at (by have := hq.1; have := hq.2.1; omega)
 refine ⟨hlen, hlo, fun i hi h0 => ?_, fun i hi => ?_, fun i hi z hz h0 => ?_⟩
 · obtain ⟨q, hq, h1, h2⟩ := hD.ex i (hvi i hi (by omega)) h0
   rw [htn q hq] at h1
   obtain ⟨i', hi', e, z, hz, ez⟩ := mem_turnAt.1 h1
   have e : i = i' := by omega
   subst e
   rw [nextC_at hi] at hz
   have hb := nxC_ok ha hg hi z hz
   have : z = q := by have := hq.1; omega
   subst this
   exact ⟨z, hz, by omega⟩
 · constructor
   · intro h0
     exact (hgl i hi).1 ((hD.z0 i (hvi i hi (by omega))).1 h0)
   · intro hG
     have h1 := (hgl i hi).2 hG
     have h2 : visI (distC g a c y v) (i : Int) := (spread_vis hok hgr).2 (.base h1)
     exact (hD.z0 i h2).2 h1
 · have hb := nxC_ok ha hg hi z hz
   have hz' : visI (distC g a c y v) z := ⟨hb.1, by rw [hlen]; exact hb.2, h0⟩
   have h1 := (hD.cls z hz').resolve_left (by simp) (i : Int) (by
    rw [htn z hz']
    exact mem_turnAt.2 ⟨i, by omega, rfl, z, by rw [nextC_at hi]; exact hz, rfl⟩)
   exact ⟨h1.1.2.2, h1.2⟩
def cwC (g : TGraph) (a : TAutomaton) (c y : Int) : Nat → Int → Nat → Int
 | 0, u, m => if m = 0 then 0 else if u = y ∧ accS a m (valAt g u) = true then 1 else 0
 | r + 1, u, m => if m = 0 then 0 else (arcsC g c u).foldl (fun n z => min 1000000 (n + cwC g a c y r z.to (aftS a m (valAt g u) z.letter))) 0
def cwT (g : TGraph) (a : TAutomaton) (c y : Int) (r : Nat) (u : Int) (m j : Nat) : Int := ((arcsC g c u).take j).foldl (fun n z => min 1000000 (n + cwC g a c y r z.to (aftS a m (valAt g u) z.letter))) 0
theorem cwT_at {g : TGraph} {a : TAutomaton} {c y : Int} {r : Nat} {u : Int} {m j : Nat} {z : TArc} (h : (arcsC g c u)[j]? = some z) : cwT g a c y r u m (j + 1) = min 1000000 (cwT g a c y r u m j + cwC g a c y r z.to (aftS a m (valAt g u) z.letter)) := by
 unfold cwT; rw [take_at h, List.foldl_append]; rfl
theorem cwT_all {g : TGraph} {a : TAutomaton} {c y : Int} {r : Nat} {u : Int} {m j : Nat} (hm : m ≠ 0) (h : (arcsC g c u).length ≤ j) : cwT g a c y r u m j = cwC g a c y (r + 1) u m := by
 unfold cwT; rw [List.take_of_length_le h, cwC, if_neg hm]
theorem cap_fold {α : Type} {f : α → Int} (hf : ∀ z, 0 ≤ f z) : ∀ (l : List α) {n : Int}, 0 ≤ n → n ≤ 1000000 → 0 ≤ l.foldl (fun n z => min 1000000 (n + f z)) n ∧ l.foldl (fun n z => min 1000000 (n + f z)) n ≤ 1000000 ∧ (0 < l.foldl (fun n z => min 1000000 (n + f z)) n ↔ 0 < n ∨ ∃ z ∈ l, 0 < f z)
 | [], n, h0, h1 => by simp [h0, h1]
 | z :: l, n, h0, h1 => by
  have hz := hf z
  have ih := cap_fold hf l (n := min 1000000 (n + f z)) (by omega) (by omega)
  refine ⟨ih.1, ih.2.1, ?_⟩
  rw [List.foldl_cons, ih.2.2]
  simp only [List.mem_cons, exists_eq_or_imp]
  rw [← or_assoc]
  exact or_congr (by omega) Iff.rfl
theorem cwC_rng (g : TGraph) (a : TAutomaton) (c y : Int) : ∀ (r : Nat) (u : Int) (m : Nat), 0 ≤ cwC g a c y r u m ∧ cwC g a c y r u m ≤ 1000000
 | 0, u, m => by rw [cwC]; split <;> (try split) <;> omega
 | r + 1, u, m => by
  rw [cwC]
  split
  · omega
  · have := cap_fold (f := fun z : TArc => cwC g a c y r z.to (aftS a m (valAt g u) z.letter)) (fun z => (cwC_rng g a c y r _ _).1) (arcsC g c u) (n := 0) (by omega) (by omega)
    exact ⟨this.1, this.2.1⟩
theorem cwT_rng (g : TGraph) (a : TAutomaton) (c y : Int) (r : Nat) (u : Int) (m j : Nat) : 0 ≤ cwT g a c y r u m j ∧ cwT g a c y r u m j ≤ 1000000 := by
 have := cap_fold (f := fun z : TArc => cwC g a c y r z.to (aftS a m (valAt g u) z.letter)) (fun z => (cwC_rng g a c y r _ _).1) ((arcsC g c u).take j) (n := 0) (by omega) (by omega)
 exact ⟨this.1, this.2.1⟩
theorem cwC_pos {g : TGraph} {a : TAutomaton} {c y : Int} {r : Nat} {u : Int} {m : Nat} : 0 < cwC g a c y (r + 1) u m ↔ m ≠ 0 ∧ ∃ z ∈ arcsC g c u, 0 < cwC g a c y r z.to (aftS a m (valAt g u) z.letter) := by
 rw [cwC]
 have := (cap_fold (f := fun z : TArc => cwC g a c y r z.to (aftS a m (valAt g u) z.letter)) (fun z => (cwC_rng g a c y r _ _).1) (arcsC g c u) (n := 0) (by omega) (by omega)).2.2
 split
 · rename_i h; simp [h]
 · rename_i h
   rw [this]
   simp [h]
theorem cwC_pos0 {g : TGraph} {a : TAutomaton} {c y : Int} {u : Int} {m : Nat} : 0 < cwC g a c y 0 u m ↔ u = y ∧ accS a m (valAt g u) = true := by
 rw [cwC]
 by_cases hm : m = 0
 · subst hm
   simp [accS, bitsN]
 · rw [if_neg hm]
   by_cases h : u = y ∧ accS a m (valAt g u) = true
   · rw [if_pos h]; exact ⟨fun _ => h, fun _ => by omega⟩
   · rw [if_neg h]; exact ⟨fun h0 => by omega, fun h0 => absurd h0 h⟩
theorem accS_bit {a : TAutomaton} {m : Nat} {v : Int} : accS a m v = true ↔ ∃ q ∈ bitsN m, acc a (q : Nat) v = true := by
 unfold accS; rw [List.any_eq_true]
theorem goal_vtx {g : TGraph} {a : TAutomaton} {u y : Int} {q : Nat} (hu : 0 ≤ u) (hq : q < a.Accept.length) : goalOf g a y (vtx a u q) = true ↔ u = y ∧ acc a (q : Nat) (valAt g u) = true := by
 have hdq := div_idx (x := u.toNat) hq
 have e1 : (((u.toNat * a.Accept.length + q : Nat) : Int) / (a.Accept.length : Int)) = u := by
  show (((u.toNat * a.Accept.length + q) / a.Accept.length : Nat) : Int) = u
  rw [hdq.1, Int.toNat_of_nonneg hu]
 have e2 : (((u.toNat * a.Accept.length + q : Nat) : Int) % (a.Accept.length : Int)) = (q : Int) := by
  show (((u.toNat * a.Accept.length + q) % a.Accept.length : Nat) : Int) = q
  rw [hdq.2]
 unfold goalOf vtx valAt
 rw [e1, e2, Bool.and_eq_true, decide_eq_true_eq]
theorem nxC_vtx {g : TGraph} {a : TAutomaton} {c u : Int} (hu : 0 ≤ u) {q : Nat} (hq : q < a.Accept.length) : nxC g a c (vtx a u q) = (arcsC g c u).flatMap (vertN a (q : Nat) (valAt g u)) := by
 have hd := div_idx (x := u.toNat) hq
 unfold nxC vtx
 rw [hd.1, hd.2, Int.toNat_of_nonneg hu]
theorem vtx_nat {a : TAutomaton} {u : Int} (h0 : 0 ≤ u) (t : Nat) : (u * (a.Accept.length : Int) + (t : Int)).toNat = vtx a u t := by
 obtain ⟨k, rfl⟩ := Int.eq_ofNat_of_zero_le h0
 unfold vtx
 show ((k : Int) * (a.Accept.length : Int) + (t : Int)).toNat = k * a.Accept.length + t
 rw [← Int.natCast_mul, ← Int.natCast_add, Int.toNat_natCast]
theorem cnt_can {g : TGraph} {a : TAutomaton} (ha : validA a = true) (hg : validG g = true) {c y : Int} : ∀ (r : Nat) (u : Int) (m : Nat), 0 ≤ u ∧ u < g.Values.length → m < 2 ^ a.Accept.length → (0 < cwC g a c y r u m ↔ ∃ q, m.testBit q = true ∧ CanN (nxC g a c) (goalOf g a y) r (vtx a u q))
 | 0, u, m, hu, hm => by
  have hA := validA_len ha
  rw [cwC_pos0, accS_bit]
  constructor
  · rintro ⟨h1, q, hq, h2⟩
    exact ⟨q, (mem_bitsN.1 hq).2, (goal_vtx hu.1 (bits_lt hm hq)).2 ⟨h1, h2⟩⟩
  · rintro ⟨q, hq, h⟩
    have hqn : q < a.Accept.length := by
     cases Nat.lt_or_ge q a.Accept.length with
     | inl h => exact h
     | inr h => rw [testBit_lt hm h] at hq; cases hq
    have := (goal_vtx hu.1 hqn).1 h
    exact ⟨this.1, q, mem_bitsN.2 ⟨by omega, hq⟩, this.2⟩
 | r + 1, u, m, hu, hm => by
  have hA := validA_len ha
  have hv := valAt_ok hg hu
  rw [cwC_pos]
  constructor
  · rintro ⟨_, z, hz, h⟩
    have h1 := arc_mem hg (List.mem_filter.1 hz).1
    have hlt := aftS_lt ha hm hv.2 (k := z.letter) ⟨h1.1, by omega⟩
    obtain ⟨t, ht, hc⟩ := (cnt_can ha hg r _ _ h1.2.2 hlt).1 h
    obtain ⟨q, hq, h2⟩ := aftS_bit.1 ht
    have hqn := bits_lt hm hq
    refine ⟨q, (mem_bitsN.1 hq).2, z.to * (a.Accept.length : Int) + (t : Int), ?_, ?_⟩
    · rw [nxC_vtx hu.1 hqn]
      have hl1 := aft1_lt ha hv.2 (s := (q : Int)) (by omega) (k := z.letter) ⟨h1.1, by omega⟩
      have htn : t < a.Accept.length := by
       cases Nat.lt_or_ge t a.Accept.length with
       | inl h => exact h
       | inr h => rw [testBit_lt hl1 h] at h2; cases h2
      exact List.mem_flatMap.2 ⟨z, hz, List.mem_map.2 ⟨t, mem_bitsN.2 ⟨by omega, h2⟩, rfl⟩⟩
    · rw [vtx_nat h1.2.2.1]; exact hc
  · rintro ⟨q, hq, x, hx, hc⟩
    have hqn : q < a.Accept.length := by
     cases Nat.lt_or_ge q a.Accept.length with
     | inl h => exact h
     | inr h => rw [testBit_lt hm h] at hq; cases hq
    rw [nxC_vtx hu.1 hqn] at hx
    obtain ⟨z, hz, hx⟩ := List.mem_flatMap.1 hx
    obtain ⟨t, ht, rfl⟩ := List.mem_map.1 hx
    have h1 := arc_mem hg (List.mem_filter.1 hz).1
    have hlt := aftS_lt ha hm hv.2 (k := z.letter) ⟨h1.1, by omega⟩
    rw [vtx_nat h1.2.2.1] at hc
    refine ⟨bit_ne hq, z, hz, (cnt_can ha hg r _ _ h1.2.2 hlt).2 ⟨t, aftS_bit.2 ⟨q, mem_bitsN.2 ⟨by omega, hq⟩, (mem_bitsN.1 ht).2⟩, hc⟩⟩
def pickC (g : TGraph) (a : TAutomaton) (c y : Int) (r : Nat) (u : Int) (m : Nat) : Option TArc := (arcsC g c u).find? fun z => decide (0 < cwC g a c y r z.to (aftS a m (valAt g u) z.letter))
def gwS (g : TGraph) (a : TAutomaton) (c y : Int) : Nat → Int → Nat → List TStep
 | 0, _, _ => []
 | r + 1, u, m => match pickC g a c y r u m with
  | none => []
  | some z => z.step :: gwS g a c y r z.to (aftS a m (valAt g u) z.letter)
theorem gwS_at {g : TGraph} {a : TAutomaton} {c y : Int} {r : Nat} {u : Int} {m : Nat} {z : TArc} (h : pickC g a c y r u m = some z) : gwS g a c y (r + 1) u m = z.step :: gwS g a c y r z.to (aftS a m (valAt g u) z.letter) := by rw [gwS, h]
theorem pick_some {g : TGraph} {a : TAutomaton} {c y : Int} {r : Nat} {u : Int} {m : Nat} (h : 0 < cwC g a c y (r + 1) u m) : ∃ z, pickC g a c y r u m = some z := by
 obtain ⟨_, z, hz, h⟩ := cwC_pos.1 h
 cases e : pickC g a c y r u m with
 | some z => exact ⟨z, rfl⟩
 | none =>
  unfold pickC at e
  rw [List.find?_eq_none] at e
  exact absurd h (by simpa using e z hz)
theorem pick_at {g : TGraph} {a : TAutomaton} {c y : Int} {r : Nat} {u : Int} {m j : Nat} {z : TArc} (hz : (arcsC g c u)[j]? = some z) (hp : 0 < cwC g a c y r z.to (aftS a m (valAt g u) z.letter)) (hn : ∀ x ∈ (arcsC g c u).take j, ¬ 0 < cwC g a c y r x.to (aftS a m (valAt g u) x.letter)) : pickC g a c y r u m = some z := by
 unfold pickC
 rw [List.find?_eq_some_iff_append]
 refine ⟨by simpa using hp, (arcsC g c u).take j, (arcsC g c u).drop (j + 1), ?_, fun x hx => by simpa using hn x hx⟩
 have hj := (List.getElem?_eq_some_iff.1 hz)
 rw [← hj.2, ← List.drop_eq_getElem_cons hj.1, List.take_append_drop]
def upS (L : List TNd) : Nat → Nat → List TStep
 | 0, _ => []
 | f + 1, k => match L[k]? with
  | none => []
  | some d => if d.from_ < 0 then [] else upS L f d.from_.toNat ++ [d.step]
structure FrmN (g : TGraph) (a : TAutomaton) (c : Int) (L : List TNd) (b : Nat) (e : TNd) (f : Nat) (d : TNd) (j : Nat) (y : TArc) : Prop where
 hd : L[f]? = some d
 lt : f < b
 hy : (arcsAt g d.node)[j]? = some y
 sk : skipN g a c d y = false
 eq : e = ⟨y.to, setOf g a d y, (f : Int), y.step⟩
 pr : ∀ i di, i < f → L[i]? = some di → clsd g a c (L.take b) di (arcsAt g di.node)
 cu : clsd g a c (L.take b) d ((arcsAt g d.node).take j)
def ExR (g : TGraph) (a : TAutomaton) (c : Int) (L : List TNd) : Prop := ∀ b e, L[b]? = some e → 0 < b → ∃ f d j y, FrmN g a c L b e f d j y
theorem ExR.app {g : TGraph} {a : TAutomaton} {c : Int} {L : List TNd} (h : ExR g a c L) {f j : Nat} {d : TNd} {y : TArc} (hd : L[f]? = some d) (hy : (arcsAt g d.node)[j]? = some y) (sk : skipN g a c d y = false) (pr : ∀ i di, i < f → L[i]? = some di → clsd g a c L di (arcsAt g di.node)) (cu : clsd g a c L d ((arcsAt g d.node).take j)) : ExR g a c (L ++ [⟨y.to, setOf g a d y, (f : Int), y.step⟩]) := by
 intro b e hb h0
 have hfl := (List.getElem?_eq_some_iff.1 hd).1
 rcases Nat.lt_or_ge b L.length with hbl | hbl
 · rw [List.getElem?_append_left hbl] at hb
   obtain ⟨f', d', j', y', hF⟩ := h b e hb h0
   have ht : (L ++ [(⟨y.to, setOf g a d y, (f : Int), y.step⟩ : TNd)]).take b = L.take b := List.take_append_of_le_length (by omega)
   refine ⟨f', d', j', y', ⟨by rw [List.getElem?_append_left (by have := hF.lt; omega)]; exact hF.hd, hF.lt, hF.hy, hF.sk, hF.eq, fun i di hi hdi => ?_, by rw [ht]; exact hF.cu⟩⟩
   rw [ht]
   rw [List.getElem?_append_left (by have := hF.lt; omega)] at hdi
   exact hF.pr i di hi hdi
 · have hbe : b = L.length := by
    have := (List.getElem?_eq_some_iff.1 hb).1
    simp at this; omega
   subst hbe
   have ht : (L ++ [(⟨y.to, setOf g a d y, (f : Int), y.step⟩ : TNd)]).take L.length = L := by rw [List.take_append_of_le_length (Nat.le_refl _), List.take_length]
   rw [List.getElem?_append_right (Nat.le_refl _), Nat.sub_self] at hb
   simp only [List.getElem?_cons_zero, Option.some.injEq] at hb
   refine ⟨f, d, j, y, ⟨by rw [List.getElem?_append_left hfl]; exact hd, hfl, hy, sk, hb.symm, fun i di hi hdi => ?_, by rw [ht]; exact cu⟩⟩
   rw [ht]
   rw [List.getElem?_append_left (by omega)] at hdi
   exact pr i di hi hdi
theorem ExR.expN {g : TGraph} {a : TAutomaton} {c : Int} {L : List TNd} (h : ExR g a c L) {k : Nat} {d : TNd} (hd : L[k]? = some d) (hcl : ∀ i di, i < k → L[i]? = some di → clsd g a c L di (arcsAt g di.node)) : ∀ j, j ≤ (arcsAt g d.node).length → ExR g a c (Go.Q.expN g a c k d j L)
 | 0, _ => h
 | j + 1, hj => by
  have ih := ExR.expN h hd hcl j (by omega)
  have hy : (arcsAt g d.node)[j]? = some ((arcsAt g d.node)[j]'(by omega)) := List.getElem?_eq_getElem _
  have hkl := (List.getElem?_eq_some_iff.1 hd).1
  rw [expN_at hy]
  unfold addN
  split
  · exact ih
  · rename_i hc
    simp only [Bool.or_eq_true, not_or, Bool.not_eq_true] at hc
    refine ih.app (by rw [expN_get hkl]; exact hd) hy hc.1 (fun i di hi hdi => ?_) (clsd_adds _ _)
    rw [expN_get (by omega)] at hdi
    obtain ⟨r, h2⟩ := expN_pre g a c k d L ((arcsAt g d.node).take j)
    show clsd g a c (List.foldl _ _ _) di _
    rw [h2]
    exact (hcl i di hi hdi).more
theorem ExR.at (g : TGraph) (a : TAutomaton) (c x : Int) : ∀ k, ExR g a c (expAt g a c x k)
 | 0 => fun b e hb h0 => by
  have := (List.getElem?_eq_some_iff.1 hb).1
  simp [expAt] at this; omega
 | k + 1 => by
  rw [expAt]
  have ih := ExR.at g a c x k
  split
  · exact ih
  · rename_i d hd
    exact ih.expN hd (fun i di hi hdi => clsd_at hi hdi) _ (Nat.le_refl _)
theorem exp_zero (g : TGraph) (a : TAutomaton) (c x : Int) : ∀ k, (expAt g a c x k)[0]? = some (startN a x)
 | 0 => rfl
 | k + 1 => by
  rw [expAt]
  split
  · exact exp_zero g a c x k
  · rw [expN_get (by have := (List.getElem?_eq_some_iff.1 (exp_zero g a c x k)).1; omega)]; exact exp_zero g a c x k
theorem upS_from {g : TGraph} {a : TAutomaton} {c x : Int} {K : Nat} {b : Nat} {e : TNd} (he : (expAt g a c x K)[b]? = some e) : (b = 0 ∧ e.from_ = -1) ∨ (0 < b ∧ 0 ≤ e.from_ ∧ e.from_.toNat < b) := by
 rcases Nat.eq_zero_or_pos b with rfl | hb
 · rw [exp_zero] at he; cases he; exact .inl ⟨rfl, rfl⟩
 · obtain ⟨f, d, j, y, hF⟩ := ExR.at g a c x K b e he hb
   rw [hF.eq]
   have := hF.lt
   refine .inr ⟨hb, ?_, ?_⟩
   · show 0 ≤ (f : Int); omega
   · show (f : Int).toNat < b; omega
theorem upS_step {L : List TNd} {f k : Nat} {d : TNd} (h : L[k]? = some d) (h0 : 0 ≤ d.from_) : upS L (f + 1) k = upS L f d.from_.toNat ++ [d.step] := by
 rw [upS, h]; dsimp only; rw [if_neg (by omega)]
theorem upS_end {L : List TNd} {f k : Nat} {d : TNd} (h : L[k]? = some d) (h0 : d.from_ < 0) : upS L f k = [] := by
 cases f with
 | zero => rfl
 | succ f => rw [upS, h]; dsimp only; rw [if_pos h0]
theorem upS_fuel {g : TGraph} {a : TAutomaton} {c x : Int} {K : Nat} : ∀ (k : Nat) {f f' : Nat}, k < (expAt g a c x K).length → k ≤ f → k ≤ f' → upS (expAt g a c x K) f k = upS (expAt g a c x K) f' k := by
 intro k
 induction k using Nat.strongRecOn with
 | ind k ih =>
  intro f f' hk hf hf'
  have hd : (expAt g a c x K)[k]? = some ((expAt g a c x K)[k]'hk) := List.getElem?_eq_getElem _
  rcases upS_from hd with ⟨h0, h1⟩ | ⟨h0, h1, h2⟩
  · rw [upS_end hd (by omega), upS_end hd (by omega)]
  · obtain ⟨f, rfl⟩ : ∃ f0, f = f0 + 1 := ⟨f - 1, by omega⟩
    obtain ⟨f', rfl⟩ : ∃ f0, f' = f0 + 1 := ⟨f' - 1, by omega⟩
    rw [upS_step hd h1, upS_step hd h1, ih _ h2 (f := f) (f' := f') (by omega) (by omega) (by omega)]
theorem least_at {P : Nat → Prop} {n : Nat} (h : P n) : ∃ b, P b ∧ ∀ k, k < b → ¬ P k := by
 induction n using Nat.strongRecOn with
 | ind n ih =>
  by_cases hx : ∃ m, m < n ∧ P m
  · obtain ⟨m, hm, hp⟩ := hx
    exact ih m hm hp
  · exact ⟨n, h, fun k hk hp => hx ⟨k, hk, hp⟩⟩
def FstN (g : TGraph) (a : TAutomaton) (c y : Int) (L : List TNd) (r k : Nat) (d : TNd) : Prop := L[k]? = some d ∧ 0 < cwC g a c y r d.node d.set ∧ ∀ i di, i < k → L[i]? = some di → ¬ 0 < cwC g a c y r di.node di.set
theorem fst_step {g : TGraph} {a : TAutomaton} (ha : validA a = true) (hg : validG g = true) {c x y : Int} (hx : 0 ≤ x ∧ x < g.Values.length) {K r k : Nat} {d : TNd} (hK : (expAt g a c x K).length ≤ K) (hF : FstN g a c y (expAt g a c x K) (r + 1) k d) (hs : ¬ 0 < cwC g a c y r x (2 ^ a.Start.toNat)) :
 ∃ b e z, FstN g a c y (expAt g a c x K) r b e ∧ pickC g a c y r d.node d.set = some z ∧ e.node = z.to ∧ e.set = aftS a d.set (valAt g d.node) z.letter ∧ e.step = z.step ∧ e.from_ = (k : Int) ∧ 0 < b := by
 obtain ⟨hd, hp, hn⟩ := hF
 obtain ⟨z, hz⟩ := pick_some hp
 have hI := ExI.at g a c x K
 have hr := hI.rch d (List.mem_of_getElem? hd)
 have hz1 := hz
 unfold pickC at hz1
 unfold arcsC at hz1
 rw [List.find?_filter, List.find?_eq_some_iff_append] at hz1
 obtain ⟨hz2, la, lb, hz3, hz4⟩ := hz1
 simp only [Bool.and_eq_true, decide_eq_true_eq] at hz2
 have hza : z ∈ arcsAt g d.node := by rw [hz3]; simp
 have hzj : (arcsAt g d.node)[la.length]? = some z := by rw [hz3]; simp
 have hzc : z ∈ arcsC g c d.node := List.mem_filter.2 ⟨hza, hz2.1⟩
 have hset : aftS a d.set (valAt g d.node) z.letter ≠ 0 := fun e => by
  have h1 := hz2.2
  rw [e] at h1
  cases r with
  | zero => rw [cwC_pos0] at h1; simp [accS, bitsN] at h1
  | succ r => exact (cwC_pos.1 h1).1 rfl
 have hskz : skipN g a c d z = false := (skip_no hza).2 ⟨hzc, hset⟩
 obtain ⟨e0, he0, hek⟩ := List.mem_map.1 (exp_all hK (.step hr hzc hset))
 obtain ⟨i0, hi0⟩ := List.getElem?_of_mem he0
 unfold keyN at hek
 rw [Prod.mk.injEq] at hek
 obtain ⟨b, ⟨e, heb, hep⟩, hbm⟩ := least_at (P := fun b => ∃ e, (expAt g a c x K)[b]? = some e ∧ 0 < cwC g a c y r e.node e.set) (n := i0) ⟨e0, hi0, by rw [hek.1, hek.2]; exact hz2.2⟩
 have hb0 : 0 < b := by
  rcases Nat.eq_zero_or_pos b with rfl | h
  · rw [exp_zero] at heb; cases heb; exact absurd hep hs
  · exact h
 obtain ⟨f, d', j, y', hF⟩ := ExR.at g a c x K b e heb hb0
 have hnb : ∀ u m, (u, m) ∈ ((expAt g a c x K).take b).map keyN → ¬ 0 < cwC g a c y r u m := fun u m hm hc => by
  obtain ⟨e1, he1, hk1⟩ := List.mem_map.1 hm
  obtain ⟨i1, hi1⟩ := List.getElem?_of_mem he1
  unfold keyN at hk1
  rw [Prod.mk.injEq] at hk1
  have hil := (List.getElem?_eq_some_iff.1 hi1).1
  rw [List.length_take] at hil
  rw [List.getElem?_take, if_pos (by omega)] at hi1
  exact hbm i1 (by omega) ⟨e1, hi1, by rw [hk1.1, hk1.2]; exact hc⟩
 have hya := List.mem_of_getElem? hF.hy
 have hys := (skip_no hya).1 hF.sk
 have hyc : 0 < cwC g a c y r y'.to (aftS a d'.set (valAt g d'.node) y'.letter) := by
  have := hep
  rw [hF.eq] at this
  exact this
 have hdp : 0 < cwC g a c y (r + 1) d'.node d'.set := by
  refine cwC_pos.2 ⟨fun e => ?_, y', hys.1, hyc⟩
  have := hys.2
  unfold setOf at this
  rw [e] at this
  exact this (by unfold aftS; rw [show bitsN 0 = [] from List.filter_eq_nil_iff.2 fun x _ => by simp]; rfl)
 have hfk : k ≤ f := by
  rcases Nat.lt_or_ge f k with h | h
  · exact absurd hdp (hn f d' h hF.hd)
  · exact h
 have hkf : f = k := by
  rcases Nat.eq_or_lt_of_le hfk with h | h
  · exact h.symm
  · exact absurd hz2.2 (hnb _ _ (hF.pr k d h hd z hza hskz))
 subst hkf
 have hdd : d' = d := by have := hF.hd; rw [hd] at this; cases this; rfl
 subst hdd
 have hjz : y' = z := by
  have hjl := (List.getElem?_eq_some_iff.1 hF.hy).1
  rcases Nat.lt_trichotomy j la.length with h | h | h
  · exfalso
    have h1 := hF.hy
    rw [hz3, List.getElem?_append_left h] at h1
    have h2 := hz4 y' (List.mem_of_getElem? h1)
    have h3 := (List.mem_filter.1 hys.1).2
    simp [h3, hyc] at h2
  · subst h; have := hF.hy; rw [hzj] at this; cases this; rfl
  · exfalso
    refine hnb _ _ (hF.cu z ?_ hskz) hz2.2
    refine List.mem_of_getElem? (i := la.length) ?_
    rw [List.getElem?_take, if_pos h]; exact hzj
 subst hjz
 refine ⟨b, e, y', ⟨heb, hep, fun i di hi hdi hc => hbm i hi ⟨di, hdi, hc⟩⟩, hz, ?_, ?_, ?_, ?_, hb0⟩
 · rw [hF.eq]
 · rw [hF.eq]; rfl
 · rw [hF.eq]
 · rw [hF.eq]
theorem fst_all {g : TGraph} {a : TAutomaton} (ha : validA a = true) (hg : validG g = true) {c x y : Int} (hx : 0 ≤ x ∧ x < g.Values.length) {K : Nat} (hK : (expAt g a c x K).length ≤ K) {D : Nat} (h0 : 0 < cwC g a c y D x (2 ^ a.Start.toNat)) (hmin : ∀ r, r < D → ¬ 0 < cwC g a c y r x (2 ^ a.Start.toNat)) :
 ∀ i r, i + r = D → ∃ k d, FstN g a c y (expAt g a c x K) r k d ∧ upS (expAt g a c x K) k k ++ gwS g a c y r d.node d.set = gwS g a c y D x (2 ^ a.Start.toNat)
 | 0, r, e => by
  have : r = D := by omega
  subst this
  exact ⟨0, startN a x, ⟨exp_zero g a c x K, h0, fun i _ hi => absurd hi (by omega)⟩, rfl⟩
 | i + 1, r, e => by
  obtain ⟨k, d, hF, hw⟩ := fst_all ha hg hx hK h0 hmin i (r + 1) (by omega)
  obtain ⟨b, e, z, hF', hz, h1, h2, h3, h4, hb0⟩ := fst_step ha hg hx hK hF (hmin r (by omega))
  refine ⟨b, e, hF', ?_⟩
  have hfr := upS_from hF'.1
  have hk : k < b := by omega
  obtain ⟨b', rfl⟩ : ∃ b', b = b' + 1 := ⟨b - 1, by omega⟩
  rw [upS_step hF'.1 (by omega), h4, Int.toNat_natCast, upS_fuel k (f' := k) (by have := (List.getElem?_eq_some_iff.1 hF.1).1; omega) (by omega) (Nat.le_refl _), h1, h2, h3, List.append_assoc, List.singleton_append, ← gwS_at hz]
  exact hw
def distX (g : TGraph) (a : TAutomaton) (c x y : Int) : Int := atI (distC g a c y (valAt g y)) (x * (a.Accept.length : Int) + a.Start)
theorem distX_cnt {g : TGraph} {a : TAutomaton} (ha : validA a = true) (hg : validG g = true) {c x y : Int} (hx : 0 ≤ x ∧ x < g.Values.length) (hy : 0 ≤ y ∧ y < g.Values.length) : (0 ≤ distX g a c x y → 0 < cwC g a c y (distX g a c x y).toNat x (2 ^ a.Start.toNat)) ∧ ∀ r, 0 < cwC g a c y r x (2 ^ a.Start.toNat) → 0 ≤ distX g a c x y ∧ distX g a c x y ≤ r := by
 have hA := validA_len ha
 have hvy := valAt_ok hg hy
 have hI := distC_is ha hg c hy hvy.1
 have hs := start_ok (g := g) ha hx
 have e : x * (a.Accept.length : Int) + a.Start = ((vtx a x a.Start.toNat : Nat) : Int) := by
  unfold vtx; rw [Int.natCast_add, Int.natCast_mul, Int.toNat_of_nonneg hx.1, Int.toNat_of_nonneg hA.2.2.2.1]
 have hNn : ((NP g a : Nat) : Int) = ((a.Accept.length * g.Values.length : Nat) : Int) := rfl
 have hi : vtx a x a.Start.toNat < NP g a := by omega
 have hm : 2 ^ a.Start.toNat < 2 ^ a.Accept.length := Nat.pow_lt_pow_right (by omega) (by omega)
 have hd : distX g a c x y = atI (distC g a c y (valAt g y)) ((vtx a x a.Start.toNat : Nat) : Int) := by unfold distX; rw [e]
 constructor
 · intro h0
   exact (cnt_can ha hg _ x _ hx hm).2 ⟨a.Start.toNat, by simp, hI.canN (fun p hp => nxC_ok ha hg hp) _ _ hi (by rw [← hd, Int.toNat_of_nonneg h0])⟩
 · intro r hr
   obtain ⟨q, hq, hc⟩ := (cnt_can ha hg r x _ hx hm).1 hr
   rw [Nat.testBit_two_pow, decide_eq_true_eq] at hq
   subst hq
   rw [hd]
   exact hI.min (fun p hp => nxC_ok ha hg hp) r _ hi hc
theorem distX_le {g : TGraph} {a : TAutomaton} (ha : validA a = true) (hg : validG g = true) {c x y : Int} (hx : 0 ≤ x ∧ x < g.Values.length) (hy : 0 ≤ y ∧ y < g.Values.length) : distX g a c x y ≤ 60 := by
 have hN := prod_le ha hg
 have hnl : (nextC g a c).length = NP g a := nextC_len g a c
 have htl : (turnedL (nextC g a c)).length = NP g a := by rw [turnedL_len, hnl]
 have hNP : NP g a = a.Accept.length * g.Values.length := rfl
 have hl := (toC_ok ha hg c hy (valAt_ok hg hy).1).1
 have hs := start_ok (g := g) ha hx
 have h := (spread_ok (nx := nxL (turnedL (nextC g a c))) (N := (turnedL (nextC g a c)).length) (fun p hp k hk => by rw [turnedL_len] at hp ⊢; exact turnedL_ok p hp k hk) (l := goalsL a y (valAt g y)) (by rw [htl]; exact goals_rng ha hy)).2 _ (List.mem_of_getElem? (atI_get (out := distC g a c y (valAt g y)) (k := x * (a.Accept.length : Int) + a.Start) (by omega)))
 have : distX g a c x y ≤ ((turnedL (nextC g a c)).length : Int) := by
  exact h.2
 omega
theorem wit_some {g : TGraph} {a : TAutomaton} (ha : validA a = true) (hg : validG g = true) {c x y : Int} (hx : 0 ≤ x ∧ x < g.Values.length) (hy : 0 ≤ y ∧ y < g.Values.length) (h : 0 ≤ distX g a c x y) : ∃ k d, (expL g a c x)[k]? = some d ∧ (d.node = y ∧ endN g a d = true) ∧ (∀ i di, i < k → (expL g a c x)[i]? = some di → ¬ (di.node = y ∧ endN g a di = true)) ∧ upS (expL g a c x) k k = gwS g a c y (distX g a c x y).toNat x (2 ^ a.Start.toNat) := by
 have hc := distX_cnt ha hg (c := c) hx hy
 have hl := expL_len ha hg (c := c) hx
 obtain ⟨k, d, hF, hw⟩ := fst_all ha hg hx (K := 20480 + x.toNat) (c := c) (y := y) (by unfold expL at hl; omega) (hc.1 h) (fun r hr hp => by have := (hc.2 r hp).2; omega) _ 0 rfl
 obtain ⟨h1, h2, h3⟩ := hF
 refine ⟨k, d, h1, ?_, fun i di hi hdi hp => h3 i di hi hdi (cwC_pos0.2 hp), ?_⟩
 · exact cwC_pos0.1 h2
 · unfold expL; rw [← hw, gwS, List.append_nil]
theorem wit_none {g : TGraph} {a : TAutomaton} (ha : validA a = true) (hg : validG g = true) {c x y : Int} (hx : 0 ≤ x ∧ x < g.Values.length) (hy : 0 ≤ y ∧ y < g.Values.length) (h : distX g a c x y < 0) : ∀ d ∈ expL g a c x, ¬ (d.node = y ∧ endN g a d = true) := by
 rintro d hd ⟨h1, h2⟩
 have hr := (expL_mem ha hg (c := c) hx).1 (List.mem_map.2 ⟨d, hd, rfl⟩)
 subst h1
 have := (condB_iff ha hg hx hy).2 ⟨d.set, hr, h2⟩
 unfold condB at this
 simp only [decide_eq_true_eq] at this
 unfold distX at h
 omega
end Go.Q
