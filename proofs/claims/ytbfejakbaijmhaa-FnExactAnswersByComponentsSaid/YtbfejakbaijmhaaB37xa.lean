/- The components of the product: the reference's walk, and what is asked of them, both texts. -/
import Derived.Test.YtbfejakbaijmhaaB36xa
set_option linter.unusedVariables false
set_option linter.unusedSimpArgs false
set_option maxHeartbeats 1000000
set_option maxRecDepth 100000
namespace Go.Q
open Go.D
def NP (g : TGraph) (a : TAutomaton) : Nat := a.Accept.length * g.Values.length
theorem nexts_ok {g : TGraph} {a : TAutomaton} (ha : validA a = true) (hg : validG g = true) : ∀ p, p < (nextsV g a).length → ∀ k ∈ nxL (nextsV g a) p, 0 ≤ k ∧ k < (nextsV g a).length := fun p hp k hk => by
  rw [nextsV_len] at hp ⊢
  rw [nextsV_at hp] at hk
  exact nxN_ok ha hg hp k hk
theorem wK_nexts (g : TGraph) (a : TAutomaton) {i : Nat} (hi : i < NP g a) : wK (nxN g a) (NP g a) i = wK (nxL (nextsV g a)) (nextsV g a).length i := by
  rw [nextsV_len]
  exact wK_congr (N := NP g a) (fun p hp => (nextsV_at hp).symm) _ _ (Nat.le_refl _) hi
theorem relN_nexts (g : TGraph) (a : TAutomaton) {i k : Nat} (hi : i < NP g a) (hk : k < NP g a) : relN (nextsV g a) i k = ((wK (nxN g a) (NP g a) i).testBit k && (wK (nxN g a) (NP g a) k).testBit i) := by
  rw [wK_nexts g a hi, wK_nexts g a hk]; rfl
def goodC (g : TGraph) (a : TAutomaton) : Bool := validG g && validA a
theorem good_c (g : TGraph) (a : TAutomaton) : goodB g a 0 0 = goodC g a := by
  unfold goodB goodC
  cases hg : validG g with
  | false => simp
  | true =>
    cases ha : validA a with
    | false => simp
    | true =>
      have hA := validA_len ha
      have hG := validG_len hg
      unfold inB; simp; omega
theorem both_c (g : TGraph) (a : TAutomaton) : bothB g a [] = goodC g a := by
  unfold bothB goodC; simp
def compsOf (g : TGraph) (a : TAutomaton) : List Int := if goodC g a then (List.range (NP g a)).map fun p => ((numOf (relN (nextsV g a)) p : Nat) : Int) else []
def cntOf (g : TGraph) (a : TAutomaton) : Nat := if goodC g a then cntRep (relN (nextsV g a)) (NP g a) else 0
end Go.Q
namespace Go.Proofs.Ytbfejakbaijmhaa
open Go.RowKit Go.Q Go.D
theorem specl24Reach (g : TGraph) (a : TAutomaton) (ha : validA a = true) (hg : validG g = true) : FnT Try.prog 61 [.agg (cGraph g), .agg (cAutomaton a)] (.a (.one (.sl 1 (((List.range (NP g a)).map fun p => ((wK (nxN g a) (NP g a) p : Nat) : Int)).map cInt)))) := by
  refine FnT.walk Try.func61 rfl (by kernel_rfl) Try.ntmps61 rfl fun hlen w0 => ?_
  try simp [cPair, cToken, cExpr, cEdge, cGraph, cStep, cWalk, cChange, cBatch, cHistory, cPositions, cAutomaton, cProductStep, cPathAtom, cConjunction, cView, cDelta, cRegistered, cRegistry] at hlen
  have hA := validA_len ha
  have hG := validG_len hg
  have hN : 1 ≤ NP g a ∧ NP g a ≤ 60 := prod_le ha hg
  have hNe : NP g a = a.Accept.length * g.Values.length := rfl
  have hcm : (a.Accept.length : Int) * (g.Values.length : Int) = ((NP g a : Nat) : Int) := by rw [hNe]; simp
  have hnk := fun p (hp : p < NP g a) => nxN_ok ha hg (p := p) hp
  have hwl := fun K (hK : K ≤ NP g a) i (hi : i < NP g a) => Nat.lt_of_lt_of_le (wK_lt (nx := nxN g a) (N := NP g a) (fun i hi k hk => by have := hnk i hi k hk; exact ⟨this.1, by rw [hNe]; exact this.2⟩) K hK i hi) (Nat.pow_le_pow_right (by omega) hN.2)
  refine AW.seq ?_
  refine AW.region ?_
  refine AWl.put (R_boxz rfl rfl rfl (.tmp rfl fun _ => rfl) (ts := _) (by rfl)) rfl ?_
  refine AWl.put (R_boxz rfl rfl rfl (.tmp rfl fun _ => rfl) (ts := _) (by rfl)) rfl ?_
  refine AWl.put (R_assign rfl (.no rfl) rfl (.const rfl)) rfl ?_
  refine AWl.nilS (i := 4) 20001 1 rfl rfl ?_
  refine AWl.nil ?_
  refine AW.seq ?_
  refine AW.region ?_
  refine AWl.put ((by exact R_fieldAddr rfl (.no rfl) rfl (.tmp rfl fun _ => rfl) fl37_1)) rfl ?_
  refine AWl.put ((by exact R_load rfl (.no rfl) rfl (.tmp rfl fun _ => rfl) ty26 rfl rfl)) rfl ?_
  refine AWl.put ((by exact R_lenm rfl (.no rfl) rfl (.tmp rfl fun _ => rfl) (by exact .t) Try.underlying26)) rfl ?_
  refine AWl.put (R_assign rfl (.no rfl) rfl (.tmp rfl fun _ => rfl)) rfl ?_
  refine AWl.nil ?_
  refine AW.seq ?_
  refine AW.region ?_
  refine AWl.add (R_empty 16 rfl rfl rfl Try.underlying22 ty3 rfl) rfl ?_
  refine AWl.put (R_assign rfl (.no rfl) rfl (.tmp rfl fun _ => rfl)) rfl ?_
  refine AWl.nil ?_
  refine AW.seq ?_
  refine AW.seq ?_
  refine AW.region ?_
  refine AWl.put (R_move rfl (.no rfl) rfl (.tmp rfl fun _ => rfl)) rfl ?_
  refine AWl.put ((by exact R_fieldAddr rfl (.no rfl) rfl (.tmp rfl fun _ => rfl) fl35_0)) rfl ?_
  refine AWl.put ((by exact R_load rfl (.no rfl) rfl (.tmp rfl fun _ => rfl) ty22 rfl rfl)) rfl ?_
  refine AWl.put ((by exact R_lenm rfl (.no rfl) rfl (.tmp rfl fun _ => rfl) (by exact .t) Try.underlying22)) rfl ?_
  refine AWl.put (R_mul rfl (.no rfl) rfl (.tmp rfl fun _ => rfl) (.tmp rfl fun _ => rfl) (fun _ => by rw [hcm]; omega)) rfl ?_
  refine AWl.put (R_gt rfl (.no rfl) rfl (.tmp rfl fun _ => rfl) (.const rfl)) rfl ?_
  refine AWl.nil ?_
  refine AW.cond (.tmp rfl fun _ => rfl) (fun h22 => ?_) (fun h22 => ?_)
  · exact absurd h22 (by (simp only [decide_eq_true_eq]; rw [hcm]; omega))
  · skip
    try simp only [bit_at, bit_zero, shr_zero] at h22
    try simp only [Int.toNat_natCast] at h22
    try simp at h22
    refine AW.skip ?_
    refine AW.seq ?_
    refine AW.seq ?_
    refine AW.le (σ' := ⟨_, [(0, _), (1, _), (2, _), (3, _), (4, _), (5, _), (6, _)], [(20001, _), (16, _)]⟩) (Le.sub0 rfl ⟨rfl, rfl, rfl, rfl, rfl, rfl, rfl, trivial⟩ ⟨rfl, rfl, trivial⟩) ?_
    refine AW.region ?_
    refine AWl.put (R_assign rfl (.no rfl) rfl (.const rfl)) rfl ?_
    refine AWl.nil ?_
    refine AW.block ?_
    refine AW.loop1 (fun (i : Nat) => (i ≤ NP g a) ∧ True) (fun (i : Nat) => ⟨_, [(7, (true, .a (.one (.t (.v (.int .i64 (i : Nat))))))), (6, (true, .a (.one (.rf 16)))), (2, _), (3, _), (4, _), (5, _)], [(16, .row 1 (((List.range i).map fun p => ((wB (nxN g a p) : Nat) : Int)).map cInt))]⟩) (fun (i : Nat) => NP g a - i) (0) ⟨Nat.zero_le _, trivial⟩ (Le.sub0 rfl ⟨rfl, rfl, rfl, rfl, rfl, rfl, trivial⟩ ⟨(by refine congrArg (fun r => some (R.row 1 r)) ?_; first | rfl | (rw [hie]; rfl) | (simp; done)), trivial⟩) ?_
    rintro i ⟨hk, he⟩
    refine AW.seq ?_
    refine AW.seq ?_
    refine AW.region ?_
    refine AWl.put (R_move rfl (.no rfl) rfl (.tmp rfl fun _ => rfl)) rfl ?_
    refine AWl.put (R_move rfl (.no rfl) rfl (.tmp rfl fun _ => rfl)) rfl ?_
    refine AWl.put ((by exact R_fieldAddr rfl (.no rfl) rfl (.tmp rfl fun _ => rfl) fl35_0)) rfl ?_
    refine AWl.put ((by exact R_load rfl (.no rfl) rfl (.tmp rfl fun _ => rfl) ty22 rfl rfl)) rfl ?_
    refine AWl.put ((by exact R_lenm rfl (.no rfl) rfl (.tmp rfl fun _ => rfl) (by exact .t) Try.underlying22)) rfl ?_
    refine AWl.put (R_mul rfl (.no rfl) rfl (.tmp rfl fun _ => rfl) (.tmp rfl fun _ => rfl) (fun _ => by rw [hcm]; omega)) rfl ?_
    refine AWl.put (R_lt rfl (.no rfl) rfl (.tmp rfl fun _ => rfl) (.tmp rfl fun _ => rfl)) rfl ?_
    refine AWl.nil ?_
    refine AW.cond (.tmp rfl fun _ => rfl) (fun h30 => ?_) (fun h30 => ?_)
    · skip
      rw [hcm] at h30
      have hpl : i < NP g a := by (simp only [decide_eq_true_eq] at h30; omega)
      have hdm := nd_ok (n := a.Accept.length) (V := g.Values.length) (by omega) hpl
      obtain ⟨v, hv⟩ : ∃ v, g.Values[((i : Int) / (a.Accept.length : Int)).toNat]? = some v := ⟨_, List.getElem?_eq_getElem (by omega)⟩
      have hnx := nxN_steps g a i
      have hS : (stepsOf g a ((i : Int) / (a.Accept.length : Int)) ((i : Int) % (a.Accept.length : Int))).length = (nxN g a i).length := by rw [hnx, List.length_map]
      have hni := hnk i hpl
      have hSl := nxN_len a hg i
      refine AW.skip ?_
      refine AW.seq ?_
      refine AW.block ?_
      refine AW.seq ?_
      refine AW.le (σ' := ⟨_, [(2, _), (3, _), (4, _), (5, _), (6, _), (7, _)], [(16, _)]⟩) (Le.sub0 rfl ⟨rfl, rfl, rfl, rfl, rfl, rfl, trivial⟩ ⟨rfl, trivial⟩) ?_
      refine AW.region ?_
      refine AWl.put (R_assign rfl (.no rfl) rfl (.const rfl)) rfl ?_
      refine AWl.nil ?_
      refine AW.seq ?_
      refine AW.drawn 10 (nthB [[], [], [], [], [2, 3], [], [], [5, 6], [0, 1, 2, 3, 4, 5, 6, 7], [0, 1, 2, 3, 4, 5, 6, 7, 8]]) (by kernel_rfl) (by kernel_rfl) (by kernel_rfl) ?_
      refine DrawC.step rfl rfl rfl (Loc.of rfl fun σ' hs => (by exact R_load rfl (.no rfl) (hd_sup hs rfl) (.tmp (hs.slots _ _ rfl) fun _ => rfl) ty35 rfl rfl)) ?_
      refine DrawC.step rfl rfl rfl (Loc.of rfl fun σ' hs => (by exact R_load rfl (.no rfl) (hd_sup hs rfl) (.tmp (hs.slots _ _ rfl) fun _ => rfl) ty37 rfl rfl)) ?_
      refine DrawC.step rfl rfl rfl (Loc.of rfl fun σ' hs => R_move rfl (.no rfl) (hd_sup hs rfl) (.tmp (hs.slots _ _ rfl) fun _ => rfl)) ?_
      refine DrawC.step rfl rfl rfl (Loc.of rfl fun σ' hs => R_move rfl (.no rfl) (hd_sup hs rfl) (.tmp (hs.slots _ _ rfl) fun _ => rfl)) ?_
      refine DrawC.step rfl rfl rfl (Loc.of rfl fun σ' hs => R_quo rfl (.no rfl) (hd_sup hs rfl) (.tmp (hs.slots _ _ rfl) fun _ => rfl) (.tmp (hs.slots _ _ rfl) fun _ => rfl) (fun _ => by omega)) ?_
      refine DrawC.step rfl rfl rfl (Loc.of rfl fun σ' hs => R_move rfl (.no rfl) (hd_sup hs rfl) (.tmp (hs.slots _ _ rfl) fun _ => rfl)) ?_
      refine DrawC.step rfl rfl rfl (Loc.of rfl fun σ' hs => R_move rfl (.no rfl) (hd_sup hs rfl) (.tmp (hs.slots _ _ rfl) fun _ => rfl)) ?_
      refine DrawC.step rfl rfl rfl (Loc.of rfl fun σ' hs => R_rem rfl (.no rfl) (hd_sup hs rfl) (.tmp (hs.slots _ _ rfl) fun _ => rfl) (.tmp (hs.slots _ _ rfl) fun _ => rfl) (fun _ => by omega)) ?_
      refine DrawC.step rfl rfl rfl (Loc.of rfl fun σ' hs => R_callz (FnT.fr (specl14Steps g a ha hg ((i : Int) / (a.Accept.length : Int)) ((i : Int) % (a.Accept.length : Int)) v (by omega) hv (by omega))) rfl (.no rfl) (hd_sup hs rfl) (.cons (.tmp (hs.slots _ _ rfl) fun _ => rfl) (readA_sup hs rfl) (.cons (.tmp (hs.slots _ _ rfl) fun _ => rfl) (readA_sup hs rfl) (.cons (.tmp (hs.slots _ _ rfl) fun _ => rfl) (readA_sup hs rfl) (.cons (.tmp (hs.slots _ _ rfl) fun _ => rfl) (readA_sup hs rfl) .nil))))) ?_
      refine DrawC.step rfl rfl rfl (Loc.of rfl fun σ' hs => R_assign rfl (.no rfl) (hd_sup hs rfl) (.tmp (hs.slots _ _ rfl) fun _ => rfl)) ?_
      refine DrawC.fin rfl rfl ?_
      refine AWl.nil ?_
      refine AW.seq ?_
      refine AW.seq ?_
      refine AW.le (σ' := ⟨_, [(2, _), (3, _), (4, _), (5, _), (6, _), (7, _), (8, _), (9, _)], [(16, _)]⟩) (Le.sub0 rfl ⟨rfl, rfl, rfl, rfl, rfl, rfl, rfl, rfl, trivial⟩ ⟨rfl, trivial⟩) ?_
      refine AW.region ?_
      refine AWl.put (R_assign rfl (.no rfl) rfl (.const rfl)) rfl ?_
      refine AWl.nil ?_
      refine AW.block ?_
      refine AW.loop2 (fun (k : Nat) (m : Nat) => (k ≤ (nxN g a i).length ∧ m < 2 ^ 60) ∧ m = wB ((nxN g a i).take k)) (fun (k : Nat) (m : Nat) => ⟨_, [(10, (true, .a (.one (.t (.v (.int .i64 (k : Nat))))))), (8, (true, .a (.one (.t (.v (.int .i64 (m : Nat))))))), (2, _), (3, _), (4, _), (5, _), (6, _), (7, _), (9, _)], [(16, .row 1 (((List.range i).map fun p => ((wB (nxN g a p) : Nat) : Int)).map cInt))]⟩) (fun (k : Nat) (m : Nat) => (nxN g a i).length - k) (0) (0) ⟨⟨Nat.zero_le _, by decide⟩, rfl⟩ (Le.sub0 rfl ⟨rfl, rfl, rfl, rfl, rfl, rfl, rfl, rfl, rfl, trivial⟩ ⟨(by refine congrArg (fun r => some (R.row 1 r)) ?_; first | rfl | (rw [hie]; rfl) | (simp; done)), trivial⟩) ?_
      rintro k m ⟨hk1, he1⟩
      refine AW.seq ?_
      refine AW.seq ?_
      refine AW.region ?_
      refine AWl.put (R_move rfl (.no rfl) rfl (.tmp rfl fun _ => rfl)) rfl ?_
      refine AWl.put (R_move rfl (.no rfl) rfl (.tmp rfl fun _ => rfl)) rfl ?_
      refine AWl.put ((by exact R_lenm rfl (.no rfl) rfl (.tmp rfl fun _ => rfl) (by exact .t) Try.underlying149)) rfl ?_
      refine AWl.put (R_lt rfl (.no rfl) rfl (.tmp rfl fun _ => rfl) (.tmp rfl fun _ => rfl)) rfl ?_
      refine AWl.nil ?_
      refine AW.cond (.tmp rfl fun _ => rfl) (fun h45 => ?_) (fun h45 => ?_)
      · skip
        try simp only [bit_at, bit_zero, shr_zero] at h45
        try simp only [Int.toNat_natCast] at h45
        try simp at h45
        obtain ⟨z, hz⟩ : ∃ ξ, (stepsOf g a ((i : Int) / (a.Accept.length : Int)) ((i : Int) % (a.Accept.length : Int)))[k]? = some ξ := ⟨_, List.getElem?_eq_getElem (by omega)⟩
        have hzk : (nxN g a i)[k]? = some (z.Node * (a.Accept.length : Int) + z.State) := by rw [hnx, List.getElem?_map, hz]; rfl
        have hzo := steps_ok ha hg hv (by omega) z (List.mem_of_getElem? hz)
        have hkk : 0 ≤ z.Node * (a.Accept.length : Int) + z.State ∧ z.Node * (a.Accept.length : Int) + z.State < 60 := by (have := hni _ (List.mem_of_getElem? hzk); omega)
        have hzm : 0 ≤ z.Node * (a.Accept.length : Int) := Int.mul_nonneg hzo.1 (by omega)
        have h2x : 2 ^ (z.Node * (a.Accept.length : Int) + z.State).toNat ≤ 576460752303423488 := Nat.le_trans (Nat.pow_le_pow_right (n := 2) (by omega) (show (z.Node * (a.Accept.length : Int) + z.State).toNat ≤ 59 by omega)) (by decide)
        have h2p := Nat.two_pow_pos (z.Node * (a.Accept.length : Int) + z.State).toNat
        refine AW.skip ?_
        refine AW.seq ?_
        refine AW.block ?_
        refine AW.drawn 16 (nthB [[], [], [], [1, 2], [1, 2, 3], [1, 2, 3, 4], [], [1, 2, 3, 4, 5, 6], [], [], [8, 9], [8, 9, 10], [8, 9, 10, 11], [1, 2, 3, 4, 5, 6, 7, 8, 9, 10, 11, 12], [1, 2, 3, 4, 5, 6, 7, 8, 9, 10, 11, 12, 13], [0, 1, 2, 3, 4, 5, 6, 7, 8, 9, 10, 11, 12, 13, 14]]) (by kernel_rfl) (by kernel_rfl) (by kernel_rfl) ?_
        refine DrawC.step rfl rfl rfl (Loc.of rfl fun σ' hs => R_move rfl (.no rfl) (hd_sup hs rfl) (.tmp (hs.slots _ _ rfl) fun _ => rfl)) ?_
        refine DrawC.step rfl rfl rfl (Loc.of rfl fun σ' hs => R_move rfl (.no rfl) (hd_sup hs rfl) (.tmp (hs.slots _ _ rfl) fun _ => rfl)) ?_
        refine DrawC.step rfl rfl rfl (Loc.of rfl fun σ' hs => R_move rfl (.no rfl) (hd_sup hs rfl) (.tmp (hs.slots _ _ rfl) fun _ => rfl)) ?_
        refine DrawC.step rfl rfl rfl (Loc.of rfl fun σ' hs => (by exact R_indexAddr rfl (.no rfl) (hd_sup hs rfl) (.tmp (hs.slots _ _ rfl) fun _ => rfl) (.tmp (hs.slots _ _ rfl) fun _ => rfl) Try.underlying149 ty152 (fun _ => ⟨by omega, (by exact map_get hz)⟩))) ?_
        refine DrawC.step rfl rfl rfl (Loc.of rfl fun σ' hs => (by exact R_fieldAddr rfl (.no rfl) (hd_sup hs rfl) (.tmp (hs.slots _ _ rfl) fun _ => rfl) fl152_1)) ?_
        refine DrawC.step rfl rfl rfl (Loc.of rfl fun σ' hs => (by exact R_load rfl (.no rfl) (hd_sup hs rfl) (.tmp (hs.slots _ _ rfl) fun _ => rfl) ty3 rfl rfl)) ?_
        refine DrawC.step rfl rfl rfl (Loc.of rfl fun σ' hs => R_move rfl (.no rfl) (hd_sup hs rfl) (.tmp (hs.slots _ _ rfl) fun _ => rfl)) ?_
        refine DrawC.step rfl rfl rfl (Loc.of rfl fun σ' hs => R_mul rfl (.no rfl) (hd_sup hs rfl) (.tmp (hs.slots _ _ rfl) fun _ => rfl) (.tmp (hs.slots _ _ rfl) fun _ => rfl) (fun _ => by omega)) ?_
        refine DrawC.step rfl rfl rfl (Loc.of rfl fun σ' hs => R_move rfl (.no rfl) (hd_sup hs rfl) (.tmp (hs.slots _ _ rfl) fun _ => rfl)) ?_
        refine DrawC.step rfl rfl rfl (Loc.of rfl fun σ' hs => R_move rfl (.no rfl) (hd_sup hs rfl) (.tmp (hs.slots _ _ rfl) fun _ => rfl)) ?_
        refine DrawC.step rfl rfl rfl (Loc.of rfl fun σ' hs => (by exact R_indexAddr rfl (.no rfl) (hd_sup hs rfl) (.tmp (hs.slots _ _ rfl) fun _ => rfl) (.tmp (hs.slots _ _ rfl) fun _ => rfl) Try.underlying149 ty152 (fun _ => ⟨by omega, (by exact map_get hz)⟩))) ?_
        refine DrawC.step rfl rfl rfl (Loc.of rfl fun σ' hs => (by exact R_fieldAddr rfl (.no rfl) (hd_sup hs rfl) (.tmp (hs.slots _ _ rfl) fun _ => rfl) fl152_2)) ?_
        refine DrawC.step rfl rfl rfl (Loc.of rfl fun σ' hs => (by exact R_load rfl (.no rfl) (hd_sup hs rfl) (.tmp (hs.slots _ _ rfl) fun _ => rfl) ty3 rfl rfl)) ?_
        refine DrawC.step rfl rfl rfl (Loc.of rfl fun σ' hs => R_add rfl (.no rfl) (hd_sup hs rfl) (.tmp (hs.slots _ _ rfl) fun _ => rfl) (.tmp (hs.slots _ _ rfl) fun _ => rfl) (fun _ => by omega)) ?_
        refine DrawC.step rfl rfl rfl (Loc.of rfl fun σ' hs => R_shlN rfl (.no rfl) (hd_sup hs rfl) (.const rfl) (.tmp (hs.slots _ _ rfl) fun _ => rfl) (fun _ => by omega)) ?_
        refine DrawC.step rfl rfl rfl (Loc.of rfl fun σ' hs => R_or_int rfl (.no rfl) (hd_sup hs rfl) (.tmp (hs.slots _ _ rfl) fun _ => rfl) (.tmp (hs.slots _ _ rfl) fun _ => rfl) (fun _ => by omega)) ?_
        refine DrawC.fin rfl rfl ?_
        refine AWl.put (R_assign rfl (.no rfl) rfl (.tmp rfl fun _ => rfl)) rfl ?_
        refine AWl.nil ?_
        refine AW.le (σ' := ⟨_, [(2, _), (3, _), (4, _), (5, _), (6, _), (7, _), (8, _), (9, _), (10, _)], [(16, _)]⟩) (Le.sub0 rfl ⟨rfl, rfl, rfl, rfl, rfl, rfl, rfl, rfl, rfl, trivial⟩ ⟨rfl, trivial⟩) ?_
        refine AW.region ?_
        refine AWl.put (R_move rfl (.no rfl) rfl (.tmp rfl fun _ => rfl)) rfl ?_
        refine AWl.put (R_add rfl (.no rfl) rfl (.tmp rfl fun _ => rfl) (.const rfl) (fun _ => by omega)) rfl ?_
        refine AWl.put (R_assign rfl (.no rfl) rfl (.tmp rfl fun _ => rfl)) rfl ?_
        refine AWl.nil ?_
        repeat (with_reducible refine BlockQ.nor ?_)
        refine Round2.next (k + 1) (m ||| 2 ^ (z.Node * (a.Accept.length : Int) + z.State).toNat) ⟨⟨by omega, or_pow_lt hk1.2 (by omega)⟩, by rw [wB_take hzk, he1]⟩ (by omega) (Le.sub0 rfl ⟨rfl, rfl, rfl, rfl, rfl, rfl, rfl, rfl, rfl, trivial⟩ ⟨(by refine congrArg (fun r => some (R.row 1 r)) ?_; first | rfl | (rw [List.range_succ, hmw]; simp [chunk, cInt]; done) | (exact (List.map_set (f := cInt)).symm.trans (congrArg (List.map cInt) (wset h87))) | (rw [wstay (by simpa using h87)]; done) | (rw [wend (by omega)]; done)), trivial⟩)
      · skip
        try simp only [bit_at, bit_zero, shr_zero] at h45
        try simp only [Int.toNat_natCast] at h45
        try simp at h45
        have hmw : m = wB (nxN g a i) := by (rw [he1, List.take_of_length_le (by omega)])
        refine AW.exit ?_
        refine AW.region ?_
        refine AWl.put (R_move rfl (.no rfl) rfl (.tmp rfl fun _ => rfl)) rfl ?_
        refine AWl.put (R_move rfl (.no rfl) rfl (.tmp rfl fun _ => rfl)) rfl ?_
        refine AWl.put (R_listz (xs := [.tmp 65]) (rows := [cInt ((m : Nat) : Int)]) rfl rfl rfl (.cons (.tmp rfl fun _ => rfl) rfl rfl .nil) Try.underlying22 in3 rfl rfl (rfl)) rfl ?_
        refine AWl.chgput (R_append rfl rfl rfl (.tmp rfl fun _ => rfl) rfl (.tmp rfl fun _ => rfl) (by exact .t) (by rfl) Try.underlying22 in3 rfl (by (simp [chunk]; omega)) (by (unfold maxLen; simp [chunk]; omega))) rfl ?_
        refine AWl.le (σ' := ⟨_, [(2, _), (3, _), (4, _), (5, _), (6, _), (7, _), (8, _), (9, _), (10, _), (45, _), (67, _)], [(16, _)]⟩) (Le.sub0 rfl ⟨rfl, rfl, rfl, rfl, rfl, rfl, rfl, rfl, rfl, rfl, rfl, trivial⟩ ⟨rfl, trivial⟩) ?_
        refine AWl.put (R_assign rfl (.no rfl) rfl (.tmp rfl fun _ => rfl)) rfl ?_
        refine AWl.nil ?_
        refine AW.region ?_
        refine AWl.put (R_move rfl (.no rfl) rfl (.tmp rfl fun _ => rfl)) rfl ?_
        refine AWl.put (R_add rfl (.no rfl) rfl (.tmp rfl fun _ => rfl) (.const rfl) (fun _ => by omega)) rfl ?_
        refine AWl.put (R_assign rfl (.no rfl) rfl (.tmp rfl fun _ => rfl)) rfl ?_
        refine AWl.nil ?_
        repeat (with_reducible refine BlockQ.nor ?_)
        refine Round1.next (i + 1) ⟨by omega, trivial⟩ (by omega) (Le.sub0 rfl ⟨rfl, rfl, rfl, rfl, rfl, rfl, trivial⟩ ⟨(by refine congrArg (fun r => some (R.row 1 r)) ?_; first | rfl | (rw [List.range_succ, hmw]; simp [chunk, cInt]; done) | (exact (List.map_set (f := cInt)).symm.trans (congrArg (List.map cInt) (wset h87))) | (rw [wstay (by simpa using h87)]; done) | (rw [wend (by omega)]; done)), trivial⟩)
    · skip
      rw [hcm] at h30
      have hie : i = NP g a := by (simp only [decide_eq_false_iff_not] at h30; omega)
      refine AW.exit ?_
      refine AW.seq ?_
      refine AW.seq ?_
      refine AW.le (σ' := ⟨_, [(2, _), (3, _), (4, _), (5, _), (6, _), (7, _)], [(16, _)]⟩) (Le.sub0 rfl ⟨rfl, rfl, rfl, rfl, rfl, rfl, trivial⟩ ⟨rfl, trivial⟩) ?_
      refine AW.region ?_
      refine AWl.put (R_assign rfl (.no rfl) rfl (.const rfl)) rfl ?_
      refine AWl.nil ?_
      refine AW.block ?_
      refine AW.loop1 (fun (K : Nat) => (K ≤ NP g a) ∧ True) (fun (K : Nat) => ⟨_, [(11, (true, .a (.one (.t (.v (.int .i64 (K : Nat))))))), (6, (true, .a (.one (.rf 16)))), (4, _)], [(16, .row 1 (((List.range (NP g a)).map fun p => ((wK (nxN g a) K p : Nat) : Int)).map cInt))]⟩) (fun (K : Nat) => NP g a - K) (0) ⟨Nat.zero_le _, trivial⟩ (Le.sub0 rfl ⟨rfl, rfl, rfl, trivial⟩ ⟨(by refine congrArg (fun r => some (R.row 1 r)) ?_; first | rfl | (rw [hie]; rfl) | (simp; done)), trivial⟩) ?_
      rintro K ⟨hk2, he2⟩
      refine AW.seq ?_
      refine AW.seq ?_
      refine AW.region ?_
      refine AWl.put (R_move rfl (.no rfl) rfl (.tmp rfl fun _ => rfl)) rfl ?_
      refine AWl.put (R_move rfl (.no rfl) rfl (.tmp rfl fun _ => rfl)) rfl ?_
      refine AWl.put ((by exact R_lenm rfl (.no rfl) rfl (.tmp rfl fun _ => rfl) (by exact .rf rfl) Try.underlying22)) rfl ?_
      refine AWl.put (R_lt rfl (.no rfl) rfl (.tmp rfl fun _ => rfl) (.tmp rfl fun _ => rfl)) rfl ?_
      refine AWl.nil ?_
      refine AW.cond (.tmp rfl fun _ => rfl) (fun h71 => ?_) (fun h71 => ?_)
      · skip
        try simp only [bit_at, bit_zero, shr_zero] at h71
        try simp only [Int.toNat_natCast] at h71
        try simp at h71
        have hKN : K < NP g a := by omega
        refine AW.skip ?_
        refine AW.seq ?_
        refine AW.block ?_
        refine AW.seq ?_
        refine AW.region ?_
        refine AWl.put (R_assign rfl (.no rfl) rfl (.const rfl)) rfl ?_
        refine AWl.nil ?_
        refine AW.block ?_
        refine AW.loop1 (fun (q : Nat) => (q ≤ NP g a) ∧ True) (fun (q : Nat) => ⟨_, [(12, (true, .a (.one (.t (.v (.int .i64 (q : Nat))))))), (6, (true, .a (.one (.rf 16)))), (4, _), (11, _)], [(16, .row 1 (((List.range (NP g a)).map fun p => ((if p < q then wK (nxN g a) (K + 1) p else wK (nxN g a) K p : Nat) : Int)).map cInt))]⟩) (fun (q : Nat) => NP g a - q) (0) ⟨Nat.zero_le _, trivial⟩ (Le.sub0 rfl ⟨rfl, rfl, rfl, rfl, trivial⟩ ⟨(by refine congrArg (fun r => some (R.row 1 r)) ?_; first | rfl | (rw [hie]; rfl) | (simp; done)), trivial⟩) ?_
        rintro q ⟨hk3, he3⟩
        refine AW.seq ?_
        refine AW.seq ?_
        refine AW.region ?_
        refine AWl.put (R_move rfl (.no rfl) rfl (.tmp rfl fun _ => rfl)) rfl ?_
        refine AWl.put (R_move rfl (.no rfl) rfl (.tmp rfl fun _ => rfl)) rfl ?_
        refine AWl.put ((by exact R_lenm rfl (.no rfl) rfl (.tmp rfl fun _ => rfl) (by exact .rf rfl) Try.underlying22)) rfl ?_
        refine AWl.put (R_lt rfl (.no rfl) rfl (.tmp rfl fun _ => rfl) (.tmp rfl fun _ => rfl)) rfl ?_
        refine AWl.nil ?_
        refine AW.cond (.tmp rfl fun _ => rfl) (fun h77 => ?_) (fun h77 => ?_)
        · skip
          try simp only [bit_at, bit_zero, shr_zero] at h77
          try simp only [Int.toNat_natCast] at h77
          try simp at h77
          have hqN : q < NP g a := by omega
          have hgi : ((List.range (NP g a)).map fun p => ((if p < q then wK (nxN g a) (K + 1) p else wK (nxN g a) K p : Nat) : Int))[q]? = some ((wK (nxN g a) K q : Nat) : Int) := by (rw [range_get _ hqN]; simp)
          have hgK : ((List.range (NP g a)).map fun p => ((if p < q then wK (nxN g a) (K + 1) p else wK (nxN g a) K p : Nat) : Int))[K]? = some ((wK (nxN g a) K K : Nat) : Int) := by (rw [range_get _ hKN]; simp [wK_self])
          have hw1 := hwl K (by omega) q hqN
          have hw2 := hwl K (by omega) K hKN
          refine AW.skip ?_
          refine AW.seq ?_
          refine AW.block ?_
          refine AW.seq ?_
          refine AW.region ?_
          refine AWl.put (R_move rfl (.no rfl) rfl (.tmp rfl fun _ => rfl)) rfl ?_
          refine AWl.put (R_move rfl (.no rfl) rfl (.tmp rfl fun _ => rfl)) rfl ?_
          refine AWl.put ((by exact R_indexAddr_rf rfl (.no rfl) rfl (.tmp rfl fun _ => rfl) rfl (.tmp rfl fun _ => rfl) Try.underlying22 ty3 (fun _ => ⟨by omega, (by exact map_get hgi)⟩))) rfl ?_
          refine AWl.put ((by exact R_load_pr rfl (.no rfl) rfl (.tmp rfl fun _ => rfl) rfl (by exact map_get hgi) ty3 rfl rfl)) rfl ?_
          refine AWl.put (R_move rfl (.no rfl) rfl (.tmp rfl fun _ => rfl)) rfl ?_
          refine AWl.put (R_shr rfl (.no rfl) rfl (.tmp rfl fun _ => rfl) (.tmp rfl fun _ => rfl) (fun _ => by omega)) rfl ?_
          refine AWl.put (R_and1 rfl (.no rfl) rfl (.tmp rfl fun _ => rfl) (.const rfl) (fun _ => by first | exact Int.natCast_nonneg _ | omega)) rfl ?_
          refine AWl.put (R_eq rfl (.no rfl) rfl (.tmp rfl fun _ => rfl) (.const rfl)) rfl ?_
          refine AWl.nil ?_
          refine AW.cond (.tmp rfl fun _ => rfl) (fun h87 => ?_) (fun h87 => ?_)
          · skip
            try simp only [bit_at, bit_zero, shr_zero] at h87
            try simp only [Int.toNat_natCast] at h87
            try simp at h87
            refine AW.le (σ' := ⟨_, [(4, _), (6, _), (11, _), (12, _)], [(16, _)]⟩) (Le.sub0 rfl ⟨rfl, rfl, rfl, rfl, trivial⟩ ⟨rfl, trivial⟩) ?_
            refine AW.drawn 12 (nthB [[], [], [], [], [2, 3], [2, 3, 4], [], [], [6, 7], [6, 7, 8], [2, 3, 4, 5, 6, 7, 8, 9], [0, 1, 2, 3, 4, 5, 6, 7, 8, 9, 10]]) (by kernel_rfl) (by kernel_rfl) (by kernel_rfl) ?_
            refine DrawC.step rfl rfl rfl (Loc.of rfl fun σ' hs => R_move rfl (.no rfl) (hd_sup hs rfl) (.tmp (hs.slots _ _ rfl) fun _ => rfl)) ?_
            refine DrawC.step rfl rfl rfl (Loc.of rfl fun σ' hs => R_move rfl (.no rfl) (hd_sup hs rfl) (.tmp (hs.slots _ _ rfl) fun _ => rfl)) ?_
            refine DrawC.step rfl rfl rfl (Loc.of rfl fun σ' hs => R_move rfl (.no rfl) (hd_sup hs rfl) (.tmp (hs.slots _ _ rfl) fun _ => rfl)) ?_
            refine DrawC.step rfl rfl rfl (Loc.of rfl fun σ' hs => R_move rfl (.no rfl) (hd_sup hs rfl) (.tmp (hs.slots _ _ rfl) fun _ => rfl)) ?_
            refine DrawC.step rfl rfl rfl (Loc.of rfl fun σ' hs => (by exact R_indexAddr_rf rfl (.no rfl) (hd_sup hs rfl) (.tmp (hs.slots _ _ rfl) fun _ => rfl) (hs.res _ _ rfl) (.tmp (hs.slots _ _ rfl) fun _ => rfl) Try.underlying22 ty3 (fun _ => ⟨by omega, (by exact map_get hgi)⟩))) ?_
            refine DrawC.step rfl rfl rfl (Loc.of rfl fun σ' hs => (by exact R_load_pr rfl (.no rfl) (hd_sup hs rfl) (.tmp (hs.slots _ _ rfl) fun _ => rfl) (hs.res _ _ rfl) (by exact map_get hgi) ty3 rfl rfl)) ?_
            refine DrawC.step rfl rfl rfl (Loc.of rfl fun σ' hs => R_move rfl (.no rfl) (hd_sup hs rfl) (.tmp (hs.slots _ _ rfl) fun _ => rfl)) ?_
            refine DrawC.step rfl rfl rfl (Loc.of rfl fun σ' hs => R_move rfl (.no rfl) (hd_sup hs rfl) (.tmp (hs.slots _ _ rfl) fun _ => rfl)) ?_
            refine DrawC.step rfl rfl rfl (Loc.of rfl fun σ' hs => (by exact R_indexAddr_rf rfl (.no rfl) (hd_sup hs rfl) (.tmp (hs.slots _ _ rfl) fun _ => rfl) (hs.res _ _ rfl) (.tmp (hs.slots _ _ rfl) fun _ => rfl) Try.underlying22 ty3 (fun _ => ⟨by omega, (by exact map_get hgK)⟩))) ?_
            refine DrawC.step rfl rfl rfl (Loc.of rfl fun σ' hs => (by exact R_load_pr rfl (.no rfl) (hd_sup hs rfl) (.tmp (hs.slots _ _ rfl) fun _ => rfl) (hs.res _ _ rfl) (by exact map_get hgK) ty3 rfl rfl)) ?_
            refine DrawC.step rfl rfl rfl (Loc.of rfl fun σ' hs => R_or_int rfl (.no rfl) (hd_sup hs rfl) (.tmp (hs.slots _ _ rfl) fun _ => rfl) (.tmp (hs.slots _ _ rfl) fun _ => rfl) (fun _ => by omega)) ?_
            refine DrawC.step rfl rfl rfl (Loc.of rfl fun σ' hs => (by exact R_indexAddr_rf rfl (.no rfl) (hd_sup hs rfl) (.tmp (hs.slots _ _ rfl) fun _ => rfl) (hs.res _ _ rfl) (.tmp (hs.slots _ _ rfl) fun _ => rfl) Try.underlying22 ty3 (fun _ => ⟨by omega, (by exact map_get hgi)⟩))) ?_
            refine DrawC.fin rfl rfl ?_
            refine AWl.absupd (R_store_pr rfl rfl rfl (.tmp rfl fun _ => rfl) rfl (.tmp rfl fun _ => rfl) rfl (by exact map_get hgi) ty3 rfl rfl rfl rfl) ?_
            refine AWl.nil ?_
            refine AW.le (σ' := ⟨_, [(4, _), (6, _), (11, _), (12, _)], [(16, _)]⟩) (Le.sub0 rfl ⟨rfl, rfl, rfl, rfl, trivial⟩ ⟨rfl, trivial⟩) ?_
            refine AW.region ?_
            refine AWl.put (R_move rfl (.no rfl) rfl (.tmp rfl fun _ => rfl)) rfl ?_
            refine AWl.put (R_add rfl (.no rfl) rfl (.tmp rfl fun _ => rfl) (.const rfl) (fun _ => by omega)) rfl ?_
            refine AWl.put (R_assign rfl (.no rfl) rfl (.tmp rfl fun _ => rfl)) rfl ?_
            refine AWl.nil ?_
            repeat (with_reducible refine BlockQ.nor ?_)
            refine Round1.next (q + 1) ⟨by omega, trivial⟩ (by omega) (Le.sub0 rfl ⟨rfl, rfl, rfl, rfl, trivial⟩ ⟨(by refine congrArg (fun r => some (R.row 1 r)) ?_; first | rfl | (rw [List.range_succ, hmw]; simp [chunk, cInt]; done) | (exact (List.map_set (f := cInt)).symm.trans (congrArg (List.map cInt) (wset h87))) | (rw [wstay (by simpa using h87)]; done) | (rw [wend (by omega)]; done)), trivial⟩)
          · skip
            try simp only [bit_at, bit_zero, shr_zero] at h87
            try simp only [Int.toNat_natCast] at h87
            try simp at h87
            refine AW.skip ?_
            refine AW.le (σ' := ⟨_, [(4, _), (6, _), (11, _), (12, _)], [(16, _)]⟩) (Le.sub0 rfl ⟨rfl, rfl, rfl, rfl, trivial⟩ ⟨rfl, trivial⟩) ?_
            refine AW.region ?_
            refine AWl.put (R_move rfl (.no rfl) rfl (.tmp rfl fun _ => rfl)) rfl ?_
            refine AWl.put (R_add rfl (.no rfl) rfl (.tmp rfl fun _ => rfl) (.const rfl) (fun _ => by omega)) rfl ?_
            refine AWl.put (R_assign rfl (.no rfl) rfl (.tmp rfl fun _ => rfl)) rfl ?_
            refine AWl.nil ?_
            repeat (with_reducible refine BlockQ.nor ?_)
            refine Round1.next (q + 1) ⟨by omega, trivial⟩ (by omega) (Le.sub0 rfl ⟨rfl, rfl, rfl, rfl, trivial⟩ ⟨(by refine congrArg (fun r => some (R.row 1 r)) ?_; first | rfl | (rw [List.range_succ, hmw]; simp [chunk, cInt]; done) | (exact (List.map_set (f := cInt)).symm.trans (congrArg (List.map cInt) (wset h87))) | (rw [wstay (by simpa using h87)]; done) | (rw [wend (by omega)]; done)), trivial⟩)
        · skip
          try simp only [bit_at, bit_zero, shr_zero] at h77
          try simp only [Int.toNat_natCast] at h77
          try simp at h77
          refine AW.exit ?_
          refine AW.region ?_
          refine AWl.put (R_move rfl (.no rfl) rfl (.tmp rfl fun _ => rfl)) rfl ?_
          refine AWl.put (R_add rfl (.no rfl) rfl (.tmp rfl fun _ => rfl) (.const rfl) (fun _ => by omega)) rfl ?_
          refine AWl.put (R_assign rfl (.no rfl) rfl (.tmp rfl fun _ => rfl)) rfl ?_
          refine AWl.nil ?_
          repeat (with_reducible refine BlockQ.nor ?_)
          refine Round1.next (K + 1) ⟨by omega, trivial⟩ (by omega) (Le.sub0 rfl ⟨rfl, rfl, rfl, trivial⟩ ⟨(by refine congrArg (fun r => some (R.row 1 r)) ?_; first | rfl | (rw [List.range_succ, hmw]; simp [chunk, cInt]; done) | (exact (List.map_set (f := cInt)).symm.trans (congrArg (List.map cInt) (wset h87))) | (rw [wstay (by simpa using h87)]; done) | (rw [wend (by omega)]; done)), trivial⟩)
      · skip
        try simp only [bit_at, bit_zero, shr_zero] at h71
        try simp only [Int.toNat_natCast] at h71
        try simp at h71
        refine AW.exit ?_
        refine AW.seq ?_
        refine AW.region ?_
        refine AWl.put (R_move rfl (.no rfl) rfl (.tmp rfl fun _ => rfl)) rfl ?_
        refine AWl.put (R_assign rfl (.no rfl) rfl (.tmp rfl fun _ => rfl)) rfl ?_
        refine AWl.nil ?_
        refine AW.ret ?_
        refine Res.one rfl (.tmp rfl .nil) rfl ?_
        rw [show K = NP g a by omega]; rfl
theorem specl24Components (N : Nat) (W : Nat → Nat) (rel : Nat → Nat → Bool) (hW : ∀ i, i < N → W i < 2 ^ 60) (hN : N ≤ 60) (hrel : ∀ i k, i < N → k < N → rel i k = ((W i).testBit k && (W k).testBit i)) (hs : ∀ a b, rel a b = true → rel b a = true) (ht : ∀ a b c, rel a b = true → rel b c = true → rel a c = true) : FnT Try.prog 60 [.one (.sl 1 (((List.range N).map fun i => ((W i : Nat) : Int)).map cInt))] (.a (.one (.sl 1 (((List.range N).map fun i => ((numOf rel i : Nat) : Int)).map cInt)))) := by
  refine FnT.walk Try.func60 rfl (by kernel_rfl) Try.ntmps60 rfl fun hlen w0 => ?_
  try simp [cPair, cToken, cExpr, cEdge, cGraph, cStep, cWalk, cChange, cBatch, cHistory, cPositions, cAutomaton, cProductStep, cPathAtom, cConjunction, cView, cDelta, cRegistered, cRegistry] at hlen
  refine AW.seq ?_
  refine AW.region ?_
  refine AWl.put (R_assign rfl (.no rfl) rfl (.const rfl)) rfl ?_
  refine AWl.nilS (i := 2) 20001 1 rfl rfl ?_
  refine AWl.nil ?_
  refine AW.seq ?_
  refine AW.region ?_
  refine AWl.add (R_empty 8 rfl rfl rfl Try.underlying22 ty3 rfl) rfl ?_
  refine AWl.put (R_assign rfl (.no rfl) rfl (.tmp rfl fun _ => rfl)) rfl ?_
  refine AWl.nil ?_
  refine AW.seq ?_
  refine AW.seq ?_
  refine AW.region ?_
  refine AWl.put (R_assign rfl (.no rfl) rfl (.const rfl)) rfl ?_
  refine AWl.nil ?_
  refine AW.block ?_
  refine AW.loop1 (fun (i : Nat) => (i ≤ N) ∧ True) (fun (i : Nat) => ⟨_, [(4, (true, .a (.one (.t (.v (.int .i64 (i : Nat))))))), (3, (true, .a (.one (.rf 8)))), (0, _), (2, _)], [(8, .row 1 (((List.range i).map fun p => ((numOf rel p : Nat) : Int)).map cInt))]⟩) (fun (i : Nat) => N - i) (0) ⟨Nat.zero_le _, trivial⟩ (Le.sub0 rfl ⟨rfl, rfl, rfl, rfl, trivial⟩ ⟨rfl, trivial⟩) ?_
  rintro i ⟨hk, he⟩
  refine AW.seq ?_
  refine AW.seq ?_
  refine AW.region ?_
  refine AWl.put (R_move rfl (.no rfl) rfl (.tmp rfl fun _ => rfl)) rfl ?_
  refine AWl.put (R_move rfl (.no rfl) rfl (.tmp rfl fun _ => rfl)) rfl ?_
  refine AWl.put ((by exact R_lenm rfl (.no rfl) rfl (.tmp rfl fun _ => rfl) (by exact .t) Try.underlying22)) rfl ?_
  refine AWl.put (R_lt rfl (.no rfl) rfl (.tmp rfl fun _ => rfl) (.tmp rfl fun _ => rfl)) rfl ?_
  refine AWl.nil ?_
  refine AW.cond (.tmp rfl fun _ => rfl) (fun h12 => ?_) (fun h12 => ?_)
  · skip
    try simp only [bit_at, bit_zero, shr_zero] at h12
    try simp only [Int.toNat_natCast] at h12
    try simp at h12
    have hiN : i < N := by omega
    have hgi : ((List.range N).map fun i => ((W i : Nat) : Int))[i]? = some ((W i : Nat) : Int) := range_get _ hiN
    have hwi := hW i hiN
    have hcl := cntRep_le (rel := rel) i
    refine AW.skip ?_
    refine AW.seq ?_
    refine AW.block ?_
    refine AW.seq ?_
    refine AW.region ?_
    refine AWl.put (R_assign rfl (.no rfl) rfl (.const rfl)) rfl ?_
    refine AWl.nil ?_
    refine AW.seq ?_
    refine AW.region ?_
    refine AWl.put (R_assign rfl (.no rfl) rfl (.const rfl)) rfl ?_
    refine AWl.nil ?_
    refine AW.seq ?_
    refine AW.seq ?_
    refine AW.region ?_
    refine AWl.put (R_assign rfl (.no rfl) rfl (.const rfl)) rfl ?_
    refine AWl.nil ?_
    refine AW.block ?_
    refine AW.loop3 (fun (k : Nat) (c : Int) (tp : Int) => (k ≤ i ∧ -1 ≤ c ∧ c ≤ 64) ∧ tp = (cntRep rel k : Int) - 1 ∧ ((c = -1 ∧ ∀ p, p < k → rel i p = false) ∨ ∃ p, p < k ∧ rel i p = true ∧ c = ((numOf rel p : Nat) : Int))) (fun (k : Nat) (c : Int) (tp : Int) => ⟨_, [(7, (true, .a (.one (.t (.v (.int .i64 (k : Nat))))))), (5, (true, .a (.one (.t (.v (.int .i64 c)))))), (6, (true, .a (.one (.t (.v (.int .i64 tp)))))), (0, _), (2, _), (3, _), (4, _)], [(8, .row 1 (((List.range i).map fun p => ((numOf rel p : Nat) : Int)).map cInt))]⟩) (fun (k : Nat) (c : Int) (tp : Int) => i - k) (0) (-1) (-1) ⟨⟨Nat.zero_le _, by omega, by omega⟩, rfl, .inl ⟨rfl, fun p hp => by omega⟩⟩ (Le.sub0 rfl ⟨rfl, rfl, rfl, rfl, rfl, rfl, rfl, trivial⟩ ⟨rfl, trivial⟩) ?_
    rintro k c tp ⟨hk1, he1⟩
    refine AW.seq ?_
    refine AW.seq ?_
    refine AW.region ?_
    refine AWl.put (R_move rfl (.no rfl) rfl (.tmp rfl fun _ => rfl)) rfl ?_
    refine AWl.put (R_move rfl (.no rfl) rfl (.tmp rfl fun _ => rfl)) rfl ?_
    refine AWl.put (R_lt rfl (.no rfl) rfl (.tmp rfl fun _ => rfl) (.tmp rfl fun _ => rfl)) rfl ?_
    refine AWl.nil ?_
    refine AW.cond (.tmp rfl fun _ => rfl) (fun h17 => ?_) (fun h17 => ?_)
    · skip
      try simp only [bit_at, bit_zero, shr_zero] at h17
      try simp only [Int.toNat_natCast] at h17
      try simp at h17
      have hki : k < i := by omega
      have hgn : ((List.range i).map fun p => ((numOf rel p : Nat) : Int))[k]? = some ((numOf rel k : Nat) : Int) := range_get _ hki
      have hgk : ((List.range N).map fun i => ((W i : Nat) : Int))[k]? = some ((W k : Nat) : Int) := range_get _ (by omega)
      have hwk := hW k (by omega)
      have hnl := numOf_lt ht k
      have hcl1 := cntRep_le (rel := rel) (k + 1)
      have hclk := cntRep_le (rel := rel) k
      refine AW.skip ?_
      refine AW.seq ?_
      refine AW.block ?_
      refine AW.seq ?_
      refine AW.region ?_
      refine AWl.put (R_move rfl (.no rfl) rfl (.tmp rfl fun _ => rfl)) rfl ?_
      refine AWl.put (R_move rfl (.no rfl) rfl (.tmp rfl fun _ => rfl)) rfl ?_
      refine AWl.put (R_move rfl (.no rfl) rfl (.tmp rfl fun _ => rfl)) rfl ?_
      refine AWl.put ((by exact R_indexAddr_rf rfl (.no rfl) rfl (.tmp rfl fun _ => rfl) rfl (.tmp rfl fun _ => rfl) Try.underlying22 ty3 (fun _ => ⟨by omega, (by exact map_get hgn)⟩))) rfl ?_
      refine AWl.put ((by exact R_load_pr rfl (.no rfl) rfl (.tmp rfl fun _ => rfl) rfl (by exact map_get hgn) ty3 rfl rfl)) rfl ?_
      refine AWl.put (R_max rfl (.no rfl) rfl (.tmp rfl fun _ => rfl) (.tmp rfl fun _ => rfl)) rfl ?_
      refine AWl.put (R_assign rfl (.no rfl) rfl (.tmp rfl fun _ => rfl)) rfl ?_
      refine AWl.nil ?_
      refine AW.seq ?_
      refine AW.le (σ' := ⟨_, [(0, _), (2, _), (3, _), (4, _), (5, _), (6, _), (7, _)], [(8, _)]⟩) (Le.sub0 rfl ⟨rfl, rfl, rfl, rfl, rfl, rfl, rfl, trivial⟩ ⟨rfl, trivial⟩) ?_
      refine AW.region ?_
      refine AWl.put (R_move rfl (.no rfl) rfl (.tmp rfl fun _ => rfl)) rfl ?_
      refine AWl.put (R_move rfl (.no rfl) rfl (.tmp rfl fun _ => rfl)) rfl ?_
      refine AWl.put ((by exact R_indexAddr rfl (.no rfl) rfl (.tmp rfl fun _ => rfl) (.tmp rfl fun _ => rfl) Try.underlying22 ty3 (fun _ => ⟨by omega, (by exact map_get hgi)⟩))) rfl ?_
      refine AWl.put ((by exact R_load rfl (.no rfl) rfl (.tmp rfl fun _ => rfl) ty3 rfl rfl)) rfl ?_
      refine AWl.put (R_move rfl (.no rfl) rfl (.tmp rfl fun _ => rfl)) rfl ?_
      refine AWl.put (R_shr rfl (.no rfl) rfl (.tmp rfl fun _ => rfl) (.tmp rfl fun _ => rfl) (fun _ => by omega)) rfl ?_
      refine AWl.put (R_and1 rfl (.no rfl) rfl (.tmp rfl fun _ => rfl) (.const rfl) (fun _ => by first | exact Int.natCast_nonneg _ | omega)) rfl ?_
      refine AWl.put (R_eq rfl (.no rfl) rfl (.tmp rfl fun _ => rfl) (.const rfl)) rfl ?_
      refine AWl.put (R_move rfl (.no rfl) rfl (.tmp rfl fun _ => rfl)) rfl ?_
      refine AWl.put (R_move rfl (by exact .yes1 rfl rfl rfl rfl) rfl (.tmp rfl (by exact fun _ => rfl))) rfl ?_
      refine AWl.put (R_move rfl (by exact .yes1 rfl rfl rfl rfl) rfl (.tmp rfl (by exact fun _ => rfl))) rfl ?_
      refine AWl.put ((by exact R_indexAddr rfl (by exact .yes1 rfl rfl rfl rfl) rfl (.tmp rfl (by exact id)) (.tmp rfl (by exact id)) Try.underlying22 ty3 (fun hq => by (try simp at hq); exact ⟨by omega, (by exact map_get hgk)⟩))) rfl ?_
      refine AWl.put ((by exact R_load rfl (by exact .yes1 rfl rfl rfl rfl) rfl (.tmp rfl (by exact id)) ty3 rfl rfl)) rfl ?_
      refine AWl.put (R_move rfl (by exact .yes1 rfl rfl rfl rfl) rfl (.tmp rfl (by exact fun _ => rfl))) rfl ?_
      refine AWl.put (R_shr rfl (by exact .yes1 rfl rfl rfl rfl) rfl (.tmp rfl (by exact id)) (.tmp rfl (by exact id)) (fun hq => by first | omega | (simp at hq; omega))) rfl ?_
      refine AWl.put (R_and1 rfl (by exact .yes1 rfl rfl rfl rfl) rfl (.tmp rfl (by exact id)) (.const rfl) (fun _ => by first | exact Int.natCast_nonneg _ | omega)) rfl ?_
      refine AWl.put (R_eq rfl (by exact .yes1 rfl rfl rfl rfl) rfl (.tmp rfl (by exact id)) (.const rfl)) rfl ?_
      refine AWl.put (R_and rfl (.no rfl) rfl (.tmp rfl fun _ => rfl) (.tmp rfl (by exact id))) rfl ?_
      refine AWl.nil ?_
      refine AW.cond (.tmp rfl fun _ => rfl) (fun h43 => ?_) (fun h43 => ?_)
      · skip
        try simp only [bit_at, bit_zero, shr_zero] at h43
        try simp only [Int.toNat_natCast] at h43
        try simp at h43
        have hr1 : rel i k = true := by (rw [hrel i k hiN (by omega)]; simpa using h43)
        refine AW.le (σ' := ⟨_, [(0, _), (2, _), (3, _), (4, _), (5, _), (6, _), (7, _)], [(8, _)]⟩) (Le.sub0 rfl ⟨rfl, rfl, rfl, rfl, rfl, rfl, rfl, trivial⟩ ⟨rfl, trivial⟩) ?_
        refine AW.region ?_
        refine AWl.put (R_move rfl (.no rfl) rfl (.tmp rfl fun _ => rfl)) rfl ?_
        refine AWl.put (R_move rfl (.no rfl) rfl (.tmp rfl fun _ => rfl)) rfl ?_
        refine AWl.put ((by exact R_indexAddr_rf rfl (.no rfl) rfl (.tmp rfl fun _ => rfl) rfl (.tmp rfl fun _ => rfl) Try.underlying22 ty3 (fun _ => ⟨by omega, (by exact map_get hgn)⟩))) rfl ?_
        refine AWl.put ((by exact R_load_pr rfl (.no rfl) rfl (.tmp rfl fun _ => rfl) rfl (by exact map_get hgn) ty3 rfl rfl)) rfl ?_
        refine AWl.put (R_assign rfl (.no rfl) rfl (.tmp rfl fun _ => rfl)) rfl ?_
        refine AWl.nil ?_
        refine AW.region ?_
        refine AWl.put (R_move rfl (.no rfl) rfl (.tmp rfl fun _ => rfl)) rfl ?_
        refine AWl.put (R_add rfl (.no rfl) rfl (.tmp rfl fun _ => rfl) (.const rfl) (fun _ => by omega)) rfl ?_
        refine AWl.put (R_assign rfl (.no rfl) rfl (.tmp rfl fun _ => rfl)) rfl ?_
        refine AWl.nil ?_
        repeat (with_reducible refine BlockQ.nor ?_)
        refine Round3.next (k + 1) (((numOf rel k : Nat) : Int)) (max tp ((numOf rel k : Nat) : Int)) ⟨⟨by omega, by omega, by omega⟩, by rw [he1.1, cnt_max ht], .inr ⟨k, by omega, hr1, rfl⟩⟩ (by omega) (Le.sub0 rfl ⟨rfl, rfl, rfl, rfl, rfl, rfl, rfl, trivial⟩ ⟨(by refine congrArg (fun r => some (R.row 1 r)) ?_; first | rfl | (rw [List.range_succ]; simp [chunk, cInt]; done)), trivial⟩)
      · skip
        try simp only [bit_at, bit_zero, shr_zero] at h43
        try simp only [Int.toNat_natCast] at h43
        try simp at h43
        have hr0 : rel i k = false := by (rw [hrel i k hiN (by omega)]; simpa using h43)
        have hr2 : (c = -1 ∧ ∀ p, p < k + 1 → rel i p = false) ∨ ∃ p, p < k + 1 ∧ rel i p = true ∧ c = ((numOf rel p : Nat) : Int) := by (rcases he1.2 with ⟨g1, g2⟩ | ⟨p, g1, g2, g3⟩; exact .inl ⟨g1, fun p hp => by rcases Nat.lt_or_eq_of_le (Nat.le_of_lt_succ hp) with h | h; exact g2 p h; (subst h; exact hr0)⟩; exact .inr ⟨p, by omega, g2, g3⟩)
        refine AW.skip ?_
        refine AW.le (σ' := ⟨_, [(0, _), (2, _), (3, _), (4, _), (5, _), (6, _), (7, _)], [(8, _)]⟩) (Le.sub0 rfl ⟨rfl, rfl, rfl, rfl, rfl, rfl, rfl, trivial⟩ ⟨rfl, trivial⟩) ?_
        refine AW.region ?_
        refine AWl.put (R_move rfl (.no rfl) rfl (.tmp rfl fun _ => rfl)) rfl ?_
        refine AWl.put (R_add rfl (.no rfl) rfl (.tmp rfl fun _ => rfl) (.const rfl) (fun _ => by omega)) rfl ?_
        refine AWl.put (R_assign rfl (.no rfl) rfl (.tmp rfl fun _ => rfl)) rfl ?_
        refine AWl.nil ?_
        repeat (with_reducible refine BlockQ.nor ?_)
        refine Round3.next (k + 1) (c) (max tp ((numOf rel k : Nat) : Int)) ⟨⟨by omega, by omega, by omega⟩, by rw [he1.1, cnt_max ht], hr2⟩ (by omega) (Le.sub0 rfl ⟨rfl, rfl, rfl, rfl, rfl, rfl, rfl, trivial⟩ ⟨(by refine congrArg (fun r => some (R.row 1 r)) ?_; first | rfl | (rw [List.range_succ]; simp [chunk, cInt]; done)), trivial⟩)
    · skip
      try simp only [bit_at, bit_zero, shr_zero] at h17
      try simp only [Int.toNat_natCast] at h17
      try simp at h17
      have hke : k = i := by omega
      have hclk2 := cntRep_le (rel := rel) k
      refine AW.exit ?_
      refine AW.seq ?_
      refine AW.seq ?_
      refine AW.region ?_
      refine AWl.put (R_move rfl (.no rfl) rfl (.tmp rfl fun _ => rfl)) rfl ?_
      refine AWl.put (R_lt rfl (.no rfl) rfl (.tmp rfl fun _ => rfl) (.const rfl)) rfl ?_
      refine AWl.nil ?_
      refine AW.cond (.tmp rfl fun _ => rfl) (fun h49 => ?_) (fun h49 => ?_)
      · skip
        try simp only [bit_at, bit_zero, shr_zero] at h49
        try simp only [Int.toNat_natCast] at h49
        try simp at h49
        have hnum : tp + 1 = ((numOf rel i : Nat) : Int) := by (subst hke; rcases he1.2 with ⟨g1, g2⟩ | ⟨p, g1, g2, g3⟩; (rw [he1.1, numOf_rep (isRep_iff.2 g2)]; omega); omega)
        refine AW.region ?_
        refine AWl.put (R_move rfl (.no rfl) rfl (.tmp rfl fun _ => rfl)) rfl ?_
        refine AWl.put (R_add rfl (.no rfl) rfl (.tmp rfl fun _ => rfl) (.const rfl) (fun _ => by rw [he1.1]; omega)) rfl ?_
        refine AWl.put (R_assign rfl (.no rfl) rfl (.tmp rfl fun _ => rfl)) rfl ?_
        refine AWl.nil ?_
        refine AW.le (σ' := ⟨_, [(0, _), (2, _), (3, _), (4, _), (5, _), (6, _), (7, _)], [(8, _)]⟩) (Le.sub0 rfl ⟨rfl, rfl, rfl, rfl, rfl, rfl, rfl, trivial⟩ ⟨rfl, trivial⟩) ?_
        refine AW.region ?_
        refine AWl.put (R_move rfl (.no rfl) rfl (.tmp rfl fun _ => rfl)) rfl ?_
        refine AWl.put (R_move rfl (.no rfl) rfl (.tmp rfl fun _ => rfl)) rfl ?_
        refine AWl.put (R_listz (xs := [.tmp 53]) (rows := [cInt ((numOf rel i : Nat) : Int)]) rfl rfl rfl (.cons (.tmp rfl fun _ => rfl) rfl rfl .nil) Try.underlying22 in3 rfl rfl ((by (rw [← hnum]; rfl)))) rfl ?_
        refine AWl.chgput (R_append rfl rfl rfl (.tmp rfl fun _ => rfl) rfl (.tmp rfl fun _ => rfl) (by exact .t) (by rfl) Try.underlying22 in3 rfl (by (simp [chunk]; omega)) (by (unfold maxLen; simp [chunk]; omega))) rfl ?_
        refine AWl.le (σ' := ⟨_, [(0, _), (2, _), (3, _), (4, _), (5, _), (6, _), (7, _), (55, _)], [(8, _)]⟩) (Le.sub0 rfl ⟨rfl, rfl, rfl, rfl, rfl, rfl, rfl, rfl, trivial⟩ ⟨rfl, trivial⟩) ?_
        refine AWl.put (R_assign rfl (.no rfl) rfl (.tmp rfl fun _ => rfl)) rfl ?_
        refine AWl.nil ?_
        refine AW.region ?_
        refine AWl.put (R_move rfl (.no rfl) rfl (.tmp rfl fun _ => rfl)) rfl ?_
        refine AWl.put (R_add rfl (.no rfl) rfl (.tmp rfl fun _ => rfl) (.const rfl) (fun _ => by omega)) rfl ?_
        refine AWl.put (R_assign rfl (.no rfl) rfl (.tmp rfl fun _ => rfl)) rfl ?_
        refine AWl.nil ?_
        repeat (with_reducible refine BlockQ.nor ?_)
        refine Round1.next (i + 1) ⟨by omega, trivial⟩ (by omega) (Le.sub0 rfl ⟨rfl, rfl, rfl, rfl, trivial⟩ ⟨(by refine congrArg (fun r => some (R.row 1 r)) ?_; first | rfl | (rw [List.range_succ]; simp [chunk, cInt]; done)), trivial⟩)
      · skip
        try simp only [bit_at, bit_zero, shr_zero] at h49
        try simp only [Int.toNat_natCast] at h49
        try simp at h49
        have hnum : c = ((numOf rel i : Nat) : Int) := by (subst hke; rcases he1.2 with ⟨g1, g2⟩ | ⟨p, g1, g2, g3⟩; omega; (rw [g3, numOf_same hs ht g2 g1]))
        refine AW.skip ?_
        refine AW.region ?_
        refine AWl.put (R_move rfl (.no rfl) rfl (.tmp rfl fun _ => rfl)) rfl ?_
        refine AWl.put (R_move rfl (.no rfl) rfl (.tmp rfl fun _ => rfl)) rfl ?_
        refine AWl.put (R_listz (xs := [.tmp 53]) (rows := [cInt ((numOf rel i : Nat) : Int)]) rfl rfl rfl (.cons (.tmp rfl fun _ => rfl) rfl rfl .nil) Try.underlying22 in3 rfl rfl ((by (rw [← hnum]; rfl)))) rfl ?_
        refine AWl.chgput (R_append rfl rfl rfl (.tmp rfl fun _ => rfl) rfl (.tmp rfl fun _ => rfl) (by exact .t) (by rfl) Try.underlying22 in3 rfl (by (simp [chunk]; omega)) (by (unfold maxLen; simp [chunk]; omega))) rfl ?_
        refine AWl.le (σ' := ⟨_, [(0, _), (2, _), (3, _), (4, _), (5, _), (6, _), (7, _), (17, _), (49, _), (55, _)], [(8, _)]⟩) (Le.sub0 rfl ⟨rfl, rfl, rfl, rfl, rfl, rfl, rfl, rfl, rfl, rfl, trivial⟩ ⟨rfl, trivial⟩) ?_
        refine AWl.put (R_assign rfl (.no rfl) rfl (.tmp rfl fun _ => rfl)) rfl ?_
        refine AWl.nil ?_
        refine AW.region ?_
        refine AWl.put (R_move rfl (.no rfl) rfl (.tmp rfl fun _ => rfl)) rfl ?_
        refine AWl.put (R_add rfl (.no rfl) rfl (.tmp rfl fun _ => rfl) (.const rfl) (fun _ => by omega)) rfl ?_
        refine AWl.put (R_assign rfl (.no rfl) rfl (.tmp rfl fun _ => rfl)) rfl ?_
        refine AWl.nil ?_
        repeat (with_reducible refine BlockQ.nor ?_)
        refine Round1.next (i + 1) ⟨by omega, trivial⟩ (by omega) (Le.sub0 rfl ⟨rfl, rfl, rfl, rfl, trivial⟩ ⟨(by refine congrArg (fun r => some (R.row 1 r)) ?_; first | rfl | (rw [List.range_succ]; simp [chunk, cInt]; done)), trivial⟩)
  · skip
    try simp only [bit_at, bit_zero, shr_zero] at h12
    try simp only [Int.toNat_natCast] at h12
    try simp at h12
    refine AW.exit ?_
    refine AW.seq ?_
    refine AW.region ?_
    refine AWl.put (R_move rfl (.no rfl) rfl (.tmp rfl fun _ => rfl)) rfl ?_
    refine AWl.put (R_assign rfl (.no rfl) rfl (.tmp rfl fun _ => rfl)) rfl ?_
    refine AWl.nil ?_
    refine AW.ret ?_
    refine Res.one rfl (.tmp rfl .nil) rfl ?_
    rw [show i = N by omega]; rfl
theorem specComps (g : TGraph) (a : TAutomaton) (ha : validA a = true) (hg : validG g = true) : FnT Try.prog 60 [.one (.sl 1 (((List.range (NP g a)).map fun p => ((wK (nxN g a) (NP g a) p : Nat) : Int)).map cInt))] (.a (.one (.sl 1 (((List.range (NP g a)).map fun p => ((numOf (relN (nextsV g a)) p : Nat) : Int)).map cInt)))) := by
  have hN : 1 ≤ NP g a ∧ NP g a ≤ 60 := prod_le ha hg
  exact specl24Components (NP g a) (wK (nxN g a) (NP g a)) (relN (nextsV g a)) (fun i hi => Nat.lt_of_lt_of_le (wK_lt (nx := nxN g a) (N := NP g a) (fun i hi k hk => nxN_ok ha hg hi k hk) (NP g a) (Nat.le_refl _) i hi) (Nat.pow_le_pow_right (by omega) hN.2)) hN.2 (fun i k hi hk => relN_nexts g a hi hk) (relN_symm _) (relN_trans (nexts_ok ha hg))
theorem specProductComponents (g : TGraph) (a : TAutomaton) : FnT Try.prog 14 [.agg (cGraph g), .agg (cAutomaton a)] (.a (.one (.sl 1 ((compsOf g a).map cInt)))) := by
  refine FnT.walk Try.func14 rfl (by kernel_rfl) Try.ntmps14 rfl fun hlen w0 => ?_
  try simp [cPair, cToken, cExpr, cEdge, cGraph, cStep, cWalk, cChange, cBatch, cHistory, cPositions, cAutomaton, cProductStep, cPathAtom, cConjunction, cView, cDelta, cRegistered, cRegistry] at hlen
  skip
  refine AW.seq ?_
  refine AW.region ?_
  refine AWl.put (R_boxz rfl rfl rfl (.tmp rfl fun _ => rfl) (ts := _) (by rfl)) rfl ?_
  refine AWl.put (R_boxz rfl rfl rfl (.tmp rfl fun _ => rfl) (ts := _) (by rfl)) rfl ?_
  refine AWl.put (R_assign rfl (.no rfl) rfl (.const rfl)) rfl ?_
  refine AWl.nilS (i := 4) 20001 1 rfl rfl ?_
  refine AWl.nil ?_
  refine AW.seq ?_
  refine AW.seq ?_
  refine AW.region ?_
  refine AWl.put ((by exact R_load rfl (.no rfl) rfl (.tmp rfl fun _ => rfl) ty35 rfl rfl)) rfl ?_
  refine AWl.put ((by exact R_load rfl (.no rfl) rfl (.tmp rfl fun _ => rfl) ty37 rfl rfl)) rfl ?_
  refine AWl.put (R_callz (FnT.fr (specl14Good g a 0 0)) rfl (.no rfl) rfl (.cons (.tmp rfl fun _ => rfl) rfl (.cons (.tmp rfl fun _ => rfl) rfl (.cons (.const rfl) rfl (.cons (.const rfl) rfl .nil))))) rfl ?_
  refine AWl.put (R_not rfl (.no rfl) rfl (.tmp rfl fun _ => rfl)) rfl ?_
  refine AWl.nil ?_
  refine AW.cond (.tmp rfl fun _ => rfl) (fun h8 => ?_) (fun h8 => ?_)
  · skip
    rw [good_c] at h8
    refine AW.seq ?_
    refine AW.region ?_
    refine AWl.add (R_empty 9 rfl rfl rfl Try.underlying22 ty3 rfl) rfl ?_
    refine AWl.put (R_assign rfl (.no rfl) rfl (.tmp rfl fun _ => rfl)) rfl ?_
    refine AWl.nil ?_
    refine AW.ret ?_
    refine Res.one rfl (.tmp rfl .nil) rfl ?_
    unfold compsOf; rw [if_neg (by simpa using h8)]; rfl
  · skip
    rw [good_c] at h8
    have hgc : goodC g a = true := by simpa using h8
    obtain ⟨hg, ha⟩ : validG g = true ∧ validA a = true := by (unfold goodC at hgc; simpa using hgc)
    refine AW.skip ?_
    refine AW.seq ?_
    refine AW.region ?_
    refine AWl.put ((by exact R_load rfl (.no rfl) rfl (.tmp rfl fun _ => rfl) ty35 rfl rfl)) rfl ?_
    refine AWl.put ((by exact R_load rfl (.no rfl) rfl (.tmp rfl fun _ => rfl) ty37 rfl rfl)) rfl ?_
    refine AWl.put (R_callz (FnT.fr (specl24Reach g a ha hg)) rfl (.no rfl) rfl (.cons (.tmp rfl fun _ => rfl) rfl (.cons (.tmp rfl fun _ => rfl) rfl .nil))) rfl ?_
    refine AWl.adds (R_call 1300 (specComps g a ha hg) rfl rfl rfl (.cons (.tmp rfl fun _ => rfl) rfl .nil) rfl rfl) rfl ?_
    refine AWl.put (R_assign rfl (.no rfl) rfl (.tmp rfl fun _ => rfl)) rfl ?_
    refine AWl.nil ?_
    refine AW.ret ?_
    refine Res.one rfl (.tmp rfl .nil) rfl ?_
    unfold compsOf; rw [if_pos hgc]; rfl
end Go.Proofs.Ytbfejakbaijmhaa
