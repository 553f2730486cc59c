/- How many components there are, and which of them turn in circles: both texts. -/
import Derived.Test.YtbfejakbaijmhaaB37xa
set_option linter.unusedVariables false
set_option linter.unusedSimpArgs false
set_option maxHeartbeats 1000000
set_option maxRecDepth 100000
namespace Go.Q
open Go.D
theorem C_nil {w : World} {v : Value} {F : List Nat} {k : Nat} (h : C false w (.v (.slice none 0 0)) v F) : C false w (.sl k []) v F := by
  simp only [C] at h
  obtain ⟨rfl, rfl, _⟩ := h
  unfold C
  exact ⟨none, 0, 0, rfl, rfl, Nat.le_refl _, Nat.zero_le _, .inl ⟨rfl, rfl, by simp⟩⟩
theorem comps_len {g : TGraph} {a : TAutomaton} (ha : validA a = true) (hg : validG g = true) : (compsOf g a).length = NP g a := by
  have hgc : goodC g a = true := by unfold goodC; rw [ha, hg]; rfl
  unfold compsOf; rw [if_pos hgc]; simp
theorem comps_bad {g : TGraph} {a : TAutomaton} (h : goodC g a = false) : compsOf g a = [] ∧ cntOf g a = 0 := by
  unfold compsOf cntOf
  rw [h]; exact ⟨rfl, rfl⟩
theorem good_c2 {g : TGraph} {a : TAutomaton} (h : goodC g a = true) : validG g = true ∧ validA a = true := by unfold goodC at h; simpa using h
end Go.Q
namespace Go.Proofs.Ytbfejakbaijmhaa
open Go.RowKit Go.Q Go.D
theorem implbothOk_nil (g : TGraph) (a : TAutomaton) : FnT Try.prog 64 [.agg (cGraph g), .agg (cAutomaton a), .one (.v (.slice none 0 0))] (.a (.one (.v (.bool (goodC g a))))) := by
  have h := implbothOk g a []
  rw [both_c] at h
  refine ⟨h.1, fun w vs F hv => h.2 w vs F ?_⟩
  obtain ⟨v1, r1, G1, G2, e1, h1, ⟨v2, r2, G3, G4, e2, h2, ⟨v3, r3, G5, G6, e3, h3, h4, e4⟩, e5⟩, e6⟩ := hv
  exact ⟨v1, r1, G1, G2, e1, h1, ⟨v2, r2, G3, G4, e2, h2, ⟨v3, r3, G5, G6, e3, C_nil h3, h4, e4⟩, e5⟩, e6⟩
theorem implProductComponents (g : TGraph) (a : TAutomaton) : FnT Try.prog 17 [.agg (cGraph g), .agg (cAutomaton a)] (.a (.one (.sl 1 ((compsOf g a).map cInt)))) := by
  refine FnT.walk Try.func17 rfl (by kernel_rfl) Try.ntmps17 rfl fun hlen w0 => ?_
  try simp [cPair, cToken, cExpr, cEdge, cGraph, cStep, cWalk, cChange, cBatch, cHistory, cPositions, cAutomaton, cProductStep, cPathAtom, cConjunction, cView, cDelta, cRegistered, cRegistry] at hlen
  skip
  refine AW.seq ?_
  refine AW.region ?_
  refine AWl.put (R_boxz rfl rfl rfl (.tmp rfl fun _ => rfl) (ts := _) (by rfl)) rfl ?_
  refine AWl.put (R_boxz rfl rfl rfl (.tmp rfl fun _ => rfl) (ts := _) (by rfl)) rfl ?_
  refine AWl.put (R_assign rfl (.no rfl) rfl (.const rfl)) rfl ?_
  refine AWl.nilS (i := 4) 20001 1 rfl rfl ?_
  refine AWl.nil ?_
  refine AW.seq ?_
  refine AW.seq ?_
  refine AW.region ?_
  refine AWl.put ((by exact R_load rfl (.no rfl) rfl (.tmp rfl fun _ => rfl) ty35 rfl rfl)) rfl ?_
  refine AWl.put ((by exact R_load rfl (.no rfl) rfl (.tmp rfl fun _ => rfl) ty37 rfl rfl)) rfl ?_
  refine AWl.put (R_callz (FnT.fr (implbothOk_nil g a)) rfl (.no rfl) rfl (.cons (.tmp rfl fun _ => rfl) rfl (.cons (.tmp rfl fun _ => rfl) rfl (.cons (.const rfl) rfl .nil)))) rfl ?_
  refine AWl.put (R_not rfl (.no rfl) rfl (.tmp rfl fun _ => rfl)) rfl ?_
  refine AWl.nil ?_
  refine AW.cond (.tmp rfl fun _ => rfl) (fun h8 => ?_) (fun h8 => ?_)
  · skip
    try simp at h8
    refine AW.seq ?_
    refine AW.region ?_
    refine AWl.put (R_assign rfl (.no rfl) rfl (.const rfl)) rfl ?_
    refine AWl.nilS (i := 4) 20002 1 rfl rfl ?_
    refine AWl.nil ?_
    refine AW.ret ?_
    refine Res.one rfl (.tmp rfl .nil) rfl ?_
    rw [(comps_bad (by simpa using h8)).1]; rfl
  · skip
    try simp at h8
    have hgc : goodC g a = true := by simpa using h8
    obtain ⟨hg, ha⟩ := good_c2 hgc
    have hN := prod_le ha hg
    have hcs := implcomponents (nextsV g a) (by rw [nextsV_len]; omega) (nexts_ok ha hg) (fun p hp => by rw [nextsV_len] at hp; rw [nextsV_at hp]; have := nxN_len a hg p; omega)
    refine AW.skip ?_
    refine AW.seq ?_
    refine AW.region ?_
    refine AWl.put ((by exact R_load rfl (.no rfl) rfl (.tmp rfl fun _ => rfl) ty35 rfl rfl)) rfl ?_
    refine AWl.put ((by exact R_load rfl (.no rfl) rfl (.tmp rfl fun _ => rfl) ty37 rfl rfl)) rfl ?_
    refine AWl.put (R_callz (FnT.fr (implnextVertices g a ha hg)) rfl (.no rfl) rfl (.cons (.tmp rfl fun _ => rfl) rfl (.cons (.tmp rfl fun _ => rfl) rfl .nil))) rfl ?_
    refine AWl.adds (R_call 1200 (hcs) rfl rfl rfl (.cons (.tmp rfl fun _ => rfl) rfl .nil) rfl rfl) rfl ?_
    refine AWl.put (R_assign rfl (.no rfl) rfl (.tmp rfl fun _ => rfl)) rfl ?_
    refine AWl.nil ?_
    refine AW.ret ?_
    refine Res.one rfl (.tmp rfl .nil) rfl ?_
    unfold compsOf; rw [if_pos hgc, show NP g a = (nextsV g a).length from (nextsV_len g a).symm]; rfl
end Go.Proofs.Ytbfejakbaijmhaa
