/- How many components there are, and which of them turn in circles: both texts. -/
import Derived.Test.YtbfejakbaijmhaaB37xc
set_option linter.unusedVariables false
set_option linter.unusedSimpArgs false
set_option maxHeartbeats 1000000
set_option maxRecDepth 100000
namespace Go.Q
open Go.D
theorem C_nil {w : World} {v : Value} {F : List Nat} {k : Nat} (h : C false w (.v (.slice none 0 0)) v F) : C false w (.sl k []) v F := by
  simp only [C] at h
  obtain ⟨rfl, rfl, _⟩ := h
  unfold C
  exact ⟨none, 0, 0, rfl, rfl, Nat.le_refl _, Nat.zero_le _, .inl ⟨rfl, rfl, by simp⟩⟩
theorem maxAt (l : List Int) {k : Nat} {x : Int} (h : l[k]? = some x) (m : Int) : (l.take (k + 1)).foldl max m = max ((l.take k).foldl max m) x := by
  rw [take_at h, List.foldl_append]; rfl
theorem comps_top {g : TGraph} {a : TAutomaton} (ha : validA a = true) (hg : validG g = true) : (compsOf g a).foldl max (-1) = (cntOf g a : Int) - 1 := by
  have hgc : goodC g a = true := by unfold goodC; rw [ha, hg]; rfl
  unfold compsOf cntOf
  rw [if_pos hgc, if_pos hgc]
  exact numOf_top (relN_trans (nexts_ok ha hg)) _
theorem comps_rng {g : TGraph} {a : TAutomaton} (ha : validA a = true) (hg : validG g = true) : ∀ x ∈ compsOf g a, 0 ≤ x ∧ x ≤ 60 := by
  have hgc : goodC g a = true := by unfold goodC; rw [ha, hg]; rfl
  have hN : 1 ≤ NP g a ∧ NP g a ≤ 60 := prod_le ha hg
  intro x hx
  unfold compsOf at hx
  rw [if_pos hgc] at hx
  obtain ⟨p, hp, rfl⟩ := List.mem_map.1 hx
  have hp := List.mem_range.1 hp
  have h1 := numOf_lt (relN_trans (nexts_ok ha hg)) p
  have h2 := cntRep_le (rel := relN (nextsV g a)) (p + 1)
  omega
theorem comps_len {g : TGraph} {a : TAutomaton} (ha : validA a = true) (hg : validG g = true) : (compsOf g a).length = NP g a := by
  have hgc : goodC g a = true := by unfold goodC; rw [ha, hg]; rfl
  unfold compsOf; rw [if_pos hgc]; simp
theorem comps_bad {g : TGraph} {a : TAutomaton} (h : goodC g a = false) : compsOf g a = [] ∧ cntOf g a = 0 := by
  unfold compsOf cntOf
  rw [h]; exact ⟨rfl, rfl⟩
theorem good_c2 {g : TGraph} {a : TAutomaton} (h : goodC g a = true) : validG g = true ∧ validA a = true := by unfold goodC at h; simpa using h
theorem fold_succ (l : List Int) : ∀ m : Int, (l.foldl (fun (n x : Int) => max n (x + 1)) (m + 1)) = l.foldl max m + 1 := by
  induction l with
  | nil => intro m; rfl
  | cons x l ih =>
    intro m
    rw [List.foldl_cons, List.foldl_cons, show max (m + 1) (x + 1) = max m x + 1 by omega, ih]
theorem succAt (l : List Int) {k : Nat} {x : Int} (h : l[k]? = some x) (m : Int) : (l.take (k + 1)).foldl (fun (n x : Int) => max n (x + 1)) m = max ((l.take k).foldl (fun (n x : Int) => max n (x + 1)) m) (x + 1) := by
  rw [take_at h, List.foldl_append]; rfl
end Go.Q
namespace Go.Proofs.Ytbfejakbaijmhaa
open Go.RowKit Go.Q Go.D
theorem implbothOk_nil (g : TGraph) (a : TAutomaton) : FnT Try.prog 64 [.agg (cGraph g), .agg (cAutomaton a), .one (.v (.slice none 0 0))] (.a (.one (.v (.bool (goodC g a))))) := by
  have h := implbothOk g a []
  rw [both_c] at h
  refine ⟨h.1, fun w vs F hv => h.2 w vs F ?_⟩
  obtain ⟨v1, r1, G1, G2, e1, h1, ⟨v2, r2, G3, G4, e2, h2, ⟨v3, r3, G5, G6, e3, h3, h4, e4⟩, e5⟩, e6⟩ := hv
  exact ⟨v1, r1, G1, G2, e1, h1, ⟨v2, r2, G3, G4, e2, h2, ⟨v3, r3, G5, G6, e3, C_nil h3, h4, e4⟩, e5⟩, e6⟩
theorem slicesMaxInt (l : List Int) (hl : 1 ≤ l.length) (hz : l.length ≤ 1073741824) : FnT Try.prog 82 [.one (.sl 1 (l.map cInt))] (.a (.one (.v (.int .i64 (maxL l))))) := by
  refine FnT.walk Try.func82 rfl (by kernel_rfl) Try.ntmps82 rfl fun hlen w0 => ?_
  try simp [cPair, cToken, cExpr, cEdge, cGraph, cStep, cWalk, cChange, cBatch, cHistory, cPositions, cAutomaton, cProductStep, cPathAtom, cConjunction, cView, cDelta, cRegistered, cRegistry] at hlen
  obtain ⟨x0, hx0⟩ : ∃ ξ, l[0]? = some ξ := ⟨_, List.getElem?_eq_getElem (by omega)⟩
  have h00 : l[(0 : Int).toNat]? = some x0 := hx0
  refine AW.seq ?_
  refine AW.region ?_
  refine AWl.put (R_assign rfl (.no rfl) rfl (.const rfl)) rfl ?_
  refine AWl.nil ?_
  refine AW.seq ?_
  refine AW.seq ?_
  refine AW.region ?_
  refine AWl.put (R_move rfl (.no rfl) rfl (.tmp rfl fun _ => rfl)) rfl ?_
  refine AWl.put ((by exact R_lenm rfl (.no rfl) rfl (.tmp rfl fun _ => rfl) (by exact .t) Try.underlying22)) rfl ?_
  refine AWl.put (R_lt rfl (.no rfl) rfl (.tmp rfl fun _ => rfl) (.const rfl)) rfl ?_
  refine AWl.nil ?_
  refine AW.cond (.tmp rfl fun _ => rfl) (fun h7 => ?_) (fun h7 => ?_)
  · exact absurd h7 (by simp; omega)
  · skip
    try simp at h7
    refine AW.skip ?_
    refine AW.seq ?_
    refine AW.region ?_
    refine AWl.put (R_move rfl (.no rfl) rfl (.tmp rfl fun _ => rfl)) rfl ?_
    refine AWl.put ((by exact R_indexAddr rfl (.no rfl) rfl (.tmp rfl fun _ => rfl) (.const rfl) Try.underlying22 ty3 (fun _ => ⟨by omega, (by exact map_get h00)⟩))) rfl ?_
    refine AWl.put ((by exact R_load rfl (.no rfl) rfl (.tmp rfl fun _ => rfl) ty3 rfl rfl)) rfl ?_
    refine AWl.put (R_assign rfl (.no rfl) rfl (.tmp rfl fun _ => rfl)) rfl ?_
    refine AWl.nil ?_
    refine AW.seq ?_
    refine AW.seq ?_
    refine AW.le (σ' := ⟨_, [(0, _), (2, _), (3, _)], []⟩) (Le.sub0 rfl ⟨rfl, rfl, rfl, trivial⟩ trivial) ?_
    refine AW.region ?_
    refine AWl.put (R_assign rfl (.no rfl) rfl (.const rfl)) rfl ?_
    refine AWl.nil ?_
    refine AW.block ?_
    refine AW.loop2 (fun (k : Nat) (m : Int) => (1 ≤ k ∧ k ≤ l.length) ∧ m = (l.take k).foldl max x0) (fun (k : Nat) (m : Int) => ⟨_, [(4, (true, .a (.one (.t (.v (.int .i64 (k : Nat))))))), (3, (true, .a (.one (.t (.v (.int .i64 m)))))), (0, _), (2, _)], []⟩) (fun (k : Nat) (m : Int) => l.length - k) (1) (x0) ⟨⟨Nat.le_refl _, hl⟩, by rw [take_at (i := 0) hx0]; simp⟩ (Le.sub0 rfl ⟨rfl, rfl, rfl, rfl, trivial⟩ trivial) ?_
    rintro k m ⟨hk, he⟩
    refine AW.seq ?_
    refine AW.seq ?_
    refine AW.region ?_
    refine AWl.put (R_move rfl (.no rfl) rfl (.tmp rfl fun _ => rfl)) rfl ?_
    refine AWl.put (R_move rfl (.no rfl) rfl (.tmp rfl fun _ => rfl)) rfl ?_
    refine AWl.put ((by exact R_lenm rfl (.no rfl) rfl (.tmp rfl fun _ => rfl) (by exact .t) Try.underlying22)) rfl ?_
    refine AWl.put (R_lt rfl (.no rfl) rfl (.tmp rfl fun _ => rfl) (.tmp rfl fun _ => rfl)) rfl ?_
    refine AWl.nil ?_
    refine AW.cond (.tmp rfl fun _ => rfl) (fun h15 => ?_) (fun h15 => ?_)
    · skip
      try simp at h15
      obtain ⟨x, hx⟩ : ∃ ξ, l[k]? = some ξ := ⟨_, List.getElem?_eq_getElem (by omega)⟩
      refine AW.skip ?_
      refine AW.seq ?_
      refine AW.block ?_
      refine AW.region ?_
      refine AWl.put (R_move rfl (.no rfl) rfl (.tmp rfl fun _ => rfl)) rfl ?_
      refine AWl.put (R_move rfl (.no rfl) rfl (.tmp rfl fun _ => rfl)) rfl ?_
      refine AWl.put (R_move rfl (.no rfl) rfl (.tmp rfl fun _ => rfl)) rfl ?_
      refine AWl.put ((by exact R_indexAddr rfl (.no rfl) rfl (.tmp rfl fun _ => rfl) (.tmp rfl fun _ => rfl) Try.underlying22 ty3 (fun _ => ⟨by omega, (by exact map_get hx)⟩))) rfl ?_
      refine AWl.put ((by exact R_load rfl (.no rfl) rfl (.tmp rfl fun _ => rfl) ty3 rfl rfl)) rfl ?_
      refine AWl.put (R_max rfl (.no rfl) rfl (.tmp rfl fun _ => rfl) (.tmp rfl fun _ => rfl)) rfl ?_
      refine AWl.put (R_assign rfl (.no rfl) rfl (.tmp rfl fun _ => rfl)) rfl ?_
      refine AWl.nil ?_
      refine AW.le (σ' := ⟨_, [(0, _), (2, _), (3, _), (4, _)], []⟩) (Le.sub0 rfl ⟨rfl, rfl, rfl, rfl, trivial⟩ trivial) ?_
      refine AW.region ?_
      refine AWl.put (R_move rfl (.no rfl) rfl (.tmp rfl fun _ => rfl)) rfl ?_
      refine AWl.put (R_add rfl (.no rfl) rfl (.tmp rfl fun _ => rfl) (.const rfl) (fun _ => by omega)) rfl ?_
      refine AWl.put (R_assign rfl (.no rfl) rfl (.tmp rfl fun _ => rfl)) rfl ?_
      refine AWl.nil ?_
      repeat (with_reducible refine BlockQ.nor ?_)
      refine Round2.next (k + 1) (max m x) ⟨⟨by omega, by omega⟩, by rw [maxAt l hx, he]⟩ (by omega) (Le.sub0 rfl ⟨rfl, rfl, rfl, rfl, trivial⟩ trivial)
    · skip
      try simp at h15
      refine AW.exit ?_
      refine AW.seq ?_
      refine AW.region ?_
      refine AWl.put (R_move rfl (.no rfl) rfl (.tmp rfl fun _ => rfl)) rfl ?_
      refine AWl.put (R_assign rfl (.no rfl) rfl (.tmp rfl fun _ => rfl)) rfl ?_
      refine AWl.nil ?_
      refine AW.ret ?_
      refine Res.v rfl rfl ?_
      rw [he, List.take_of_length_le (by omega)]; unfold maxL; rw [hx0]; rfl
theorem implProductComponents (g : TGraph) (a : TAutomaton) : FnT Try.prog 17 [.agg (cGraph g), .agg (cAutomaton a)] (.a (.one (.sl 1 ((compsOf g a).map cInt)))) := by
  refine FnT.walk Try.func17 rfl (by kernel_rfl) Try.ntmps17 rfl fun hlen w0 => ?_
  try simp [cPair, cToken, cExpr, cEdge, cGraph, cStep, cWalk, cChange, cBatch, cHistory, cPositions, cAutomaton, cProductStep, cPathAtom, cConjunction, cView, cDelta, cRegistered, cRegistry] at hlen
  skip
  refine AW.seq ?_
  refine AW.region ?_
  refine AWl.put (R_boxz rfl rfl rfl (.tmp rfl fun _ => rfl) (ts := _) (by rfl)) rfl ?_
  refine AWl.put (R_boxz rfl rfl rfl (.tmp rfl fun _ => rfl) (ts := _) (by rfl)) rfl ?_
  refine AWl.put (R_assign rfl (.no rfl) rfl (.const rfl)) rfl ?_
  refine AWl.nilS (i := 4) 20001 1 rfl rfl ?_
  refine AWl.nil ?_
  refine AW.seq ?_
  refine AW.seq ?_
  refine AW.region ?_
  refine AWl.put ((by exact R_load rfl (.no rfl) rfl (.tmp rfl fun _ => rfl) ty35 rfl rfl)) rfl ?_
  refine AWl.put ((by exact R_load rfl (.no rfl) rfl (.tmp rfl fun _ => rfl) ty37 rfl rfl)) rfl ?_
  refine AWl.put (R_callz (FnT.fr (implbothOk_nil g a)) rfl (.no rfl) rfl (.cons (.tmp rfl fun _ => rfl) rfl (.cons (.tmp rfl fun _ => rfl) rfl (.cons (.const rfl) rfl .nil)))) rfl ?_
  refine AWl.put (R_not rfl (.no rfl) rfl (.tmp rfl fun _ => rfl)) rfl ?_
  refine AWl.nil ?_
  refine AW.cond (.tmp rfl fun _ => rfl) (fun h8 => ?_) (fun h8 => ?_)
  · skip
    try simp at h8
    refine AW.seq ?_
    refine AW.region ?_
    refine AWl.put (R_assign rfl (.no rfl) rfl (.const rfl)) rfl ?_
    refine AWl.nilS (i := 4) 20002 1 rfl rfl ?_
    refine AWl.nil ?_
    refine AW.ret ?_
    refine Res.one rfl (.tmp rfl .nil) rfl ?_
    rw [(comps_bad (by simpa using h8)).1]; rfl
  · skip
    try simp at h8
    have hgc : goodC g a = true := by simpa using h8
    obtain ⟨hg, ha⟩ := good_c2 hgc
    have hN := prod_le ha hg
    have hcs := implcomponents (nextsV g a) (by rw [nextsV_len]; omega) (nexts_ok ha hg) (fun p hp => by rw [nextsV_len] at hp; rw [nextsV_at hp]; have := nxN_len a hg p; omega)
    refine AW.skip ?_
    refine AW.seq ?_
    refine AW.region ?_
    refine AWl.put ((by exact R_load rfl (.no rfl) rfl (.tmp rfl fun _ => rfl) ty35 rfl rfl)) rfl ?_
    refine AWl.put ((by exact R_load rfl (.no rfl) rfl (.tmp rfl fun _ => rfl) ty37 rfl rfl)) rfl ?_
    refine AWl.put (R_callz (FnT.fr (implnextVertices g a ha hg)) rfl (.no rfl) rfl (.cons (.tmp rfl fun _ => rfl) rfl (.cons (.tmp rfl fun _ => rfl) rfl .nil))) rfl ?_
    refine AWl.adds (R_call 1200 (hcs) rfl rfl rfl (.cons (.tmp rfl fun _ => rfl) rfl .nil) rfl rfl) rfl ?_
    refine AWl.put (R_assign rfl (.no rfl) rfl (.tmp rfl fun _ => rfl)) rfl ?_
    refine AWl.nil ?_
    refine AW.ret ?_
    refine Res.one rfl (.tmp rfl .nil) rfl ?_
    unfold compsOf; rw [if_pos hgc, show NP g a = (nextsV g a).length from (nextsV_len g a).symm]; rfl
theorem specComponentCount (g : TGraph) (a : TAutomaton) : FnT Try.prog 80 [.agg (cGraph g), .agg (cAutomaton a)] (.a (.one (.v (.int .i64 (cntOf g a))))) := by
  refine FnT.walk Try.func80 rfl (by kernel_rfl) Try.ntmps80 rfl fun hlen w0 => ?_
  try simp [cPair, cToken, cExpr, cEdge, cGraph, cStep, cWalk, cChange, cBatch, cHistory, cPositions, cAutomaton, cProductStep, cPathAtom, cConjunction, cView, cDelta, cRegistered, cRegistry] at hlen
  have hgood : (goodC g a = false ∧ compsOf g a = [] ∧ cntOf g a = 0) ∨ ((∀ x ∈ compsOf g a, 0 ≤ x ∧ x ≤ 60) ∧ (compsOf g a).length ≤ 60 ∧ (compsOf g a).foldl max (-1) = (cntOf g a : Int) - 1) := by (cases hc : goodC g a with | false => exact .inl ⟨rfl, comps_bad hc⟩ | true => (obtain ⟨hg, ha⟩ := good_c2 hc; exact .inr ⟨comps_rng ha hg, by rw [comps_len ha hg]; exact (prod_le ha hg).2, comps_top ha hg⟩))
  have hrg : ∀ x ∈ compsOf g a, 0 ≤ x ∧ x ≤ 60 := by (rcases hgood with ⟨_, h, _⟩ | h; (rw [h]; simp); exact h.1)
  have hln : (compsOf g a).length ≤ 60 := by (rcases hgood with ⟨_, h, _⟩ | h; (rw [h]; simp); exact h.2.1)
  have hfin : (compsOf g a).foldl (fun (n x : Int) => max n (x + 1)) 0 = ((cntOf g a : Nat) : Int) := by (have h1 := fold_succ (compsOf g a) (-1); rw [show (-1 : Int) + 1 = 0 by omega] at h1; rw [h1]; rcases hgood with ⟨_, h2, h3⟩ | h; (rw [h2, h3]; rfl); (rw [h.2.2]; omega))
  refine AW.seq ?_
  refine AW.region ?_
  refine AWl.put (R_boxz rfl rfl rfl (.tmp rfl fun _ => rfl) (ts := _) (by rfl)) rfl ?_
  refine AWl.put (R_boxz rfl rfl rfl (.tmp rfl fun _ => rfl) (ts := _) (by rfl)) rfl ?_
  refine AWl.put (R_assign rfl (.no rfl) rfl (.const rfl)) rfl ?_
  refine AWl.nil ?_
  refine AW.seq ?_
  refine AW.region ?_
  refine AWl.put (R_assign rfl (.no rfl) rfl (.const rfl)) rfl ?_
  refine AWl.nil ?_
  refine AW.seq ?_
  refine AW.region ?_
  refine AWl.put ((by exact R_load rfl (.no rfl) rfl (.tmp rfl fun _ => rfl) ty35 rfl rfl)) rfl ?_
  refine AWl.put ((by exact R_load rfl (.no rfl) rfl (.tmp rfl fun _ => rfl) ty37 rfl rfl)) rfl ?_
  refine AWl.put (R_callz (FnT.fr (specProductComponents g a)) rfl (.no rfl) rfl (.cons (.tmp rfl fun _ => rfl) rfl (.cons (.tmp rfl fun _ => rfl) rfl .nil))) rfl ?_
  refine AWl.put (R_assign rfl (.no rfl) rfl (.tmp rfl fun _ => rfl)) rfl ?_
  refine AWl.nil ?_
  refine AW.seq ?_
  refine AW.seq ?_
  refine AW.region ?_
  refine AWl.put (R_assign rfl (.no rfl) rfl (.const rfl)) rfl ?_
  refine AWl.nil ?_
  refine AW.block ?_
  refine AW.loop2 (fun (k : Nat) (n : Int) => (k ≤ (compsOf g a).length) ∧ n = ((compsOf g a).take k).foldl (fun (n x : Int) => max n (x + 1)) 0) (fun (k : Nat) (n : Int) => ⟨_, [(7, (true, .a (.one (.t (.v (.int .i64 (k : Nat))))))), (5, (true, .a (.one (.t (.v (.int .i64 n)))))), (4, _), (6, _)], []⟩) (fun (k : Nat) (n : Int) => (compsOf g a).length - k) (0) (0) ⟨Nat.zero_le _, rfl⟩ (Le.sub0 rfl ⟨rfl, rfl, rfl, rfl, trivial⟩ trivial) ?_
  rintro k n ⟨hk, he⟩
  refine AW.seq ?_
  refine AW.seq ?_
  refine AW.region ?_
  refine AWl.put (R_move rfl (.no rfl) rfl (.tmp rfl fun _ => rfl)) rfl ?_
  refine AWl.put (R_move rfl (.no rfl) rfl (.tmp rfl fun _ => rfl)) rfl ?_
  refine AWl.put ((by exact R_lenm rfl (.no rfl) rfl (.tmp rfl fun _ => rfl) (by exact .t) Try.underlying22)) rfl ?_
  refine AWl.put (R_lt rfl (.no rfl) rfl (.tmp rfl fun _ => rfl) (.tmp rfl fun _ => rfl)) rfl ?_
  refine AWl.nil ?_
  refine AW.cond (.tmp rfl fun _ => rfl) (fun h14 => ?_) (fun h14 => ?_)
  · skip
    try simp at h14
    obtain ⟨x, hx⟩ : ∃ ξ, (compsOf g a)[k]? = some ξ := ⟨_, List.getElem?_eq_getElem (by omega)⟩
    have hxr := hrg x (List.mem_of_getElem? hx)
    refine AW.skip ?_
    refine AW.seq ?_
    refine AW.block ?_
    refine AW.region ?_
    refine AWl.put (R_move rfl (.no rfl) rfl (.tmp rfl fun _ => rfl)) rfl ?_
    refine AWl.put (R_move rfl (.no rfl) rfl (.tmp rfl fun _ => rfl)) rfl ?_
    refine AWl.put (R_move rfl (.no rfl) rfl (.tmp rfl fun _ => rfl)) rfl ?_
    refine AWl.put ((by exact R_indexAddr rfl (.no rfl) rfl (.tmp rfl fun _ => rfl) (.tmp rfl fun _ => rfl) Try.underlying22 ty3 (fun _ => ⟨by omega, (map_get hx)⟩))) rfl ?_
    refine AWl.put ((by exact R_load rfl (.no rfl) rfl (.tmp rfl fun _ => rfl) ty3 rfl rfl)) rfl ?_
    refine AWl.put (R_add rfl (.no rfl) rfl (.tmp rfl fun _ => rfl) (.const rfl) (fun _ => by omega)) rfl ?_
    refine AWl.put (R_max rfl (.no rfl) rfl (.tmp rfl fun _ => rfl) (.tmp rfl fun _ => rfl)) rfl ?_
    refine AWl.put (R_assign rfl (.no rfl) rfl (.tmp rfl fun _ => rfl)) rfl ?_
    refine AWl.nil ?_
    refine AW.le (σ' := ⟨_, [(4, _), (5, _), (6, _), (7, _)], []⟩) (Le.sub0 rfl ⟨rfl, rfl, rfl, rfl, trivial⟩ trivial) ?_
    refine AW.region ?_
    refine AWl.put (R_move rfl (.no rfl) rfl (.tmp rfl fun _ => rfl)) rfl ?_
    refine AWl.put (R_add rfl (.no rfl) rfl (.tmp rfl fun _ => rfl) (.const rfl) (fun _ => by omega)) rfl ?_
    refine AWl.put (R_assign rfl (.no rfl) rfl (.tmp rfl fun _ => rfl)) rfl ?_
    refine AWl.nil ?_
    repeat (with_reducible refine BlockQ.nor ?_)
    refine Round2.next (k + 1) (max n (x + 1)) ⟨by omega, by rw [succAt _ hx, he]⟩ (by omega) (Le.sub0 rfl ⟨rfl, rfl, rfl, rfl, trivial⟩ trivial)
  · skip
    try simp at h14
    refine AW.exit ?_
    refine AW.seq ?_
    refine AW.region ?_
    refine AWl.put (R_move rfl (.no rfl) rfl (.tmp rfl fun _ => rfl)) rfl ?_
    refine AWl.put (R_assign rfl (.no rfl) rfl (.tmp rfl fun _ => rfl)) rfl ?_
    refine AWl.nil ?_
    refine AW.ret ?_
    refine Res.v rfl rfl ?_
    rw [he, List.take_of_length_le (by omega), hfin]
end Go.Proofs.Ytbfejakbaijmhaa
