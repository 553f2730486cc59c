/- slices.Insert of one edge: the four roads joined. -/
import Derived.Test.YtoealglkenhphaaGreatB100xa
import Derived.Test.YtoealglkenhphaaGreatB101xa
set_option linter.unusedVariables false
set_option linter.unusedSimpArgs false
set_option maxHeartbeats 1000000
set_option maxRecDepth 100000
namespace Go.Q
open Go.RowKit Go.D
def encE (e : TEdge) : List Value := [.int .i64 e.ID, .int .i64 e.From, .int .i64 e.To, .int .i64 e.Label]
theorem encE_len (l : List TEdge) : ((l.map encE).flatten).length = l.length * 4 := by
  induction l with
  | nil => simp
  | cons x l ih => rw [List.map_cons, List.flatten_cons, List.length_append, ih, List.length_cons, Nat.succ_mul]; simp [encE]; omega
theorem encE_flat (l : List TEdge) : (l.map cEdge).flatten = ((l.map encE).flatten).map T.v := by
  rw [List.map_flatten, List.map_map]
  congr 1
theorem encE_one (l : List TEdge) : ((l.map encE).flatten).all Value.oneCell' = true := by
  rw [List.all_eq_true]
  intro v hv
  obtain ⟨r, hr, hv⟩ := List.mem_flatten.1 hv
  obtain ⟨x, _, rfl⟩ := List.mem_map.1 hr
  simp [encE] at hv
  rcases hv with rfl | rfl | rfl | rfl <;> rfl
theorem Cs_ownV {w : World} : ∀ (vs : List Value) {cs : List Value} {G : List Nat}, Cs true w (vs.map T.v) cs G → G = [] ∧ cs = vs
  | [], cs, G, h => by simp only [List.map_nil, Cs] at h; exact ⟨h.2, h.1⟩
  | v :: vs, cs, G, h => by
    simp only [List.map_cons, Cs] at h
    obtain ⟨c1, cr, G1, G2, rfl, h2, h3, rfl⟩ := h
    simp only [C] at h2
    obtain ⟨rfl, rfl, _⟩ := h2
    obtain ⟨rfl, rfl⟩ := Cs_ownV vs h3
    exact ⟨rfl, rfl⟩
/-- An owned row of edges, its block and cells. -/
theorem own_edges {w : World} {l : List TEdge} {v : Value} {F : List Nat} (h : C true w (.sl 4 (l.map cEdge)) v F) (hl : 0 < l.length) :
    ∃ g M cur te, v = .slice (some ⟨g, 0, none⟩) l.length M ∧ F = [g] ∧ w.heap[g]? = some (.cells cur te (0, 0)) ∧ cur.size = M * 4 ∧ l.length ≤ M ∧ M ≤ maxLen ∧ Front ((l.map encE).flatten) cur := by
  have hc := h
  simp only [C] at hc
  obtain ⟨a0, n0, m0, rfl, _⟩ := hc
  obtain ⟨e1, e2, e3⟩ := h.hdr
  rw [List.length_map] at e1
  rcases h.blk with ⟨q1, q2, q3⟩ | ⟨g, G, cur, e', rfl, rfl, q3, q4, q5⟩
  · have : l = [] := by simpa using q3
    subst this; simp at hl
  · obtain ⟨s1, xs, s2, s3, s4⟩ := q5.flat
    rw [encE_flat] at s2
    obtain ⟨rfl, rfl⟩ := Cs_ownV _ s2
    refine ⟨g, m0, cur, e', by rw [e1], rfl, q3, q4, by omega, e3, fun j u hj => ?_⟩
    have := s4 j u hj
    simp only [Nat.zero_add, World.cell?, q3] at this
    simpa using this
/-- .. and made. -/
theorem own_mk {w : World} {l : List TEdge} {g M : Nat} {arr : Array Value} {te : TypeId} (hg : w.heap[g]? = some (.cells arr te (0, 0))) (hs : arr.size = M * 4) (hM : l.length ≤ M ∧ M ≤ maxLen) (hf : Front ((l.map encE).flatten) arr) : C true w (.sl 4 (l.map cEdge)) (.slice (some ⟨g, 0, none⟩) l.length M) [g] := by
  unfold C
  refine ⟨_, _, _, rfl, by rw [List.length_map], hM.1, hM.2, .inr ⟨g, 0, [], rfl, rfl, (Array.getElem?_eq_some_iff.1 hg).1, fun _ => ⟨rfl, arr, te, hg, hs⟩, Rws.of (xs := (l.map encE).flatten) (fun row hr => ?_) ?_ fun j u hj => ?_⟩⟩
  · obtain ⟨x, _, rfl⟩ := List.mem_map.1 hr; rfl
  · rw [encE_flat]; exact Cs_vals (encE_one l)
  · simp only [World.cell?, hg, Nat.zero_add]
    simpa using hf j u hj
theorem encE_ins {l : List TEdge} {i : Nat} {e : TEdge} (hi : i ≤ l.length) : ((l.take i ++ e :: l.drop i).map encE).flatten = ((l.map encE).flatten).take (i * 4) ++ encE e ++ ((l.map encE).flatten).drop (i * 4) := by
  have h1 : (l.map encE).flatten = ((l.take i).map encE).flatten ++ ((l.drop i).map encE).flatten := by rw [← List.flatten_append, ← List.map_append, List.take_append_drop]
  have h2 := encE_len (l.take i)
  rw [List.length_take, show min i l.length = i by omega] at h2
  have t1 : (l.map encE).flatten.take (i * 4) = ((l.take i).map encE).flatten := by rw [h1, ← h2]; simp
  have t2 : (l.map encE).flatten.drop (i * 4) = ((l.drop i).map encE).flatten := by rw [h1, ← h2]; simp
  rw [t1, t2]
  simp
end Go.Q
namespace Go.Proofs.YtoealglkenhphaaGreat
open Go.RowKit Go.Q Go.D
theorem InsertEdge1 (l : List TEdge) (i : Nat) (e : TEdge) (hi : i ≤ l.length) (hz : l.length ≤ 1048576) : FnC Tryz.prog 108 (ownAll [.sl 4 (l.map cEdge), .v (.int .i64 (i : Nat)), .sl 4 [cEdge e]]) (.a (.one (.sl 4 ((l.take i ++ e :: l.drop i).map cEdge)))) := by
  by_cases h : i = l.length
  · subst h
    have := insEnd l e hz
    rwa [List.take_of_length_le (Nat.le_refl _), List.drop_of_length_le (Nat.le_refl _)]
  · have hil : i < l.length := by omega
    refine ⟨⟨_, Tryz.func108, by kernel_rfl, by kernel_rfl⟩, fun w vs F hG hv hnd hth => ?_⟩
    obtain ⟨v1, r1, G1, G2, rfl, hC1, ⟨v2, r2, G3, G4, rfl, hC2, ⟨v3, r3, G5, G6, rfl, hC3, ⟨rfl, rfl⟩, hF3⟩, hF2⟩, hF1⟩ := hv
    simp only [if_true, List.append_nil] at hF1 hF2 hF3
    subst hF3
    simp only [V0r, C] at hC2
    obtain ⟨rfl, rfl, _⟩ := hC2
    rw [List.nil_append] at hF2
    subst hF2
    obtain ⟨g, M, cur, te, rfl, rfl, hg, hcur, hlM, hMm, hfr⟩ := own_edges hC1 (by omega)
    obtain ⟨vb, Mv, cur3, te3, rfl, rfl, hgv, hc3, _, _, hfv⟩ := own_edges (l := [e]) hC3 (by simp)
    subst hF1
    have hne : vb ≠ g := by
      intro e1
      subst e1
      simp at hnd
    have hcl := encE_len l
    have hvl : (encE e).length = 4 := rfl
    have h1c : ∀ v ∈ (l.map encE).flatten, v.oneCell' = true := List.all_eq_true.1 (encE_one l)
    have h1v : ∀ v ∈ encE e, v.oneCell' = true := fun v hv => List.all_eq_true.1 (encE_one [e]) v (by simpa using hv)
    have hfv' : Front (encE e) cur3 := by simpa using hfv
    have hlen : (l.take i ++ e :: l.drop i).length = l.length + 1 := by simp; omega
    by_cases hr : l.length + 1 ≤ M
    · refine (insShift g M l.length i vb Mv cur cur3 te te3 _ _ w hil hr hMm hne hg hcur hgv hcl hvl hfr hfv' h1c h1v).mono fun e' w' ⟨he, arr, h1, h2, h3, h4⟩ => ?_
      have hchg : Chg w w' [g, vb] := ⟨h4.os, h4.tape, h4.output, h4.size, fun k hk hn => h4.block k hk (fun hm => hn (by simp at hm; simp [hm]))⟩
      refine ⟨_, [g], he, ?_, by simp, fun b hb => ?_, hchg⟩
      · show C true w' _ _ _
        rw [← hlen]
        exact own_mk h1 h2 ⟨by omega, hMm⟩ (by rw [encE_ins hi]; exact h3)
      · rw [List.mem_singleton] at hb
        subst hb
        exact ⟨.inr (by simp), _, _, h1⟩
    · refine (insGrow g M l.length i vb Mv cur cur3 te te3 _ _ w hil hlM (by omega) hz hg hcur hgv hcl hvl hfr hfv' h1c h1v).mono fun e' w' ⟨Gc, he, hG1, hG2, arr, h1, h2, h3, h4⟩ => ?_
      have hchg : Chg w w' [g, vb] := ⟨h4.os, h4.tape, h4.output, h4.size, fun k hk hn => h4.block hk⟩
      refine ⟨_, [w.heap.size], he, ?_, by simp, fun b hb => ?_, hchg⟩
      · show C true w' _ _ _
        rw [← hlen]
        exact own_mk h1 h2 ⟨by omega, hG2⟩ (by rw [encE_ins hi]; exact h3)
      · rw [List.mem_singleton] at hb
        subst hb
        exact ⟨.inl (Nat.le_refl _), _, _, h1⟩
end Go.Proofs.YtoealglkenhphaaGreat
