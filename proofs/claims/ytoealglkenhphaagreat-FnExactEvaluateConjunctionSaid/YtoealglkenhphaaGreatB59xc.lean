import Derived.Test.YtoealglkenhphaaGreatB50xc
import Derived.Test.YtoealglkenhphaaGreatSortxc
import Derived.Test.YtoealglkenhphaaGreatB30xc
set_option linter.unusedVariables false
set_option linter.unusedSimpArgs false
set_option maxHeartbeats 1000000
set_option maxRecDepth 100000
namespace Go.Q
open Go.D
theorem relOf_none {g : TGraph} {x : Tr} (h : x.kids = []) : relOf g x = if x.tok.Kind = 2 then idL g.Values.length else if x.tok.Kind = 3 then letL g x.tok.Letter else [] := by
 cases x with
 | leaf t => rfl
 | un t y => cases h
 | bin t y z => cases h
theorem relOf_one {g : TGraph} {x y : Tr} (h : x.kids = [y]) : relOf g x = if x.tok.Kind = 6 then closeL g.Values.length (relOf g y) else powL g.Values.length (relOf g y) x.tok.Low x.tok.High := by
 cases x with
 | leaf t => cases h
 | un t z => simp only [Tr.kids, List.cons.injEq, and_true] at h; subst h; rfl
 | bin t z z' => simp [Tr.kids] at h
theorem relOf_two {g : TGraph} {x y z : Tr} (h : x.kids = [y, z]) : relOf g x = if x.tok.Kind = 4 then compL (relOf g y) (relOf g z) else pmerge (relOf g y) (relOf g z) := by
 cases x with
 | leaf t => cases h
 | un t y' => simp [Tr.kids] at h
 | bin t y' z' => simp only [Tr.kids, List.cons.injEq, and_true] at h; obtain ⟨rfl, rfl⟩ := h; rfl
theorem good_letter {x : Tr} (hg : good x) (h : x.tok.Kind = 3) : 0 ≤ x.tok.Letter ∧ x.tok.Letter ≤ 8 := by
 have ha := good_arity hg
 unfold arity at ha
 rw [if_neg (by omega), if_pos h] at ha
 split at ha
 · rename_i hc; simp only [Bool.and_eq_true, inB, decide_eq_true_eq] at hc; omega
 · omega
theorem good_high {x : Tr} (hg : good x) (h : x.tok.Kind = 7) : 0 ≤ x.tok.High ∧ x.tok.High ≤ 3 := by
 have ha := good_arity hg
 unfold arity at ha
 rw [if_neg (by omega), if_neg (by omega), if_neg (by omega), if_neg (by omega), if_pos h] at ha
 split at ha
 · rename_i hc; simp only [Bool.and_eq_true, inB, decide_eq_true_eq] at hc; omega
 · omega
structure LineOk (vs : List Int) (es : List TEdge) : Prop where
 len : vs.length = es.length + 1
 le : vs.length ≤ 5
 val : ∀ v ∈ vs, 0 ≤ v ∧ v ≤ 2
 ed : ∀ (k : Nat) (e : TEdge), es[k]? = some e → e.ID = (k : Int) + 1 ∧ (0 ≤ e.From ∧ e.From ≤ (k : Int) + 1) ∧ (0 ≤ e.To ∧ e.To ≤ (k : Int) + 1) ∧ 0 ≤ e.Label ∧ e.Label ≤ 2
def evalE (g : TGraph) (e : TExpr) : List TPair × Bool := if validG g && isValidExpr e then (match treeM e.Tokens with | some x => (relOf g x, true) | none => ([], true)) else ([], false)
theorem evalE_some {g : TGraph} {e : TExpr} {x : Tr} (hg : validG g = true) (he : isValidExpr e = true) (hx : treeM e.Tokens = some x) : evalE g e = (relOf g x, true) := by unfold evalE; rw [hg, he, hx]; rfl
theorem evalE_bad {g : TGraph} {e : TExpr} (h : (validG g && isValidExpr e) = false) : evalE g e = ([], false) := by unfold evalE; rw [h]; rfl
end Go.Q
namespace Go.Proofs.YtoealglkenhphaaGreat
open Go.RowKit Go.Q Go.D
theorem implrelation1 (g : TGraph) (hg : validG g = true) (x : Tr) (hgx : good x) (ih : ∀ y ∈ x.kids, FnT Tryz.prog 180 [.one (.ad (treeCells y)), .agg (cGraph g)] (.a (.one (.sl 2 ((relOf g y).map cPair))))) : FnT Tryz.prog 180 [.one (.ad (treeCells x)), .agg (cGraph g)] (.a (.one (.sl 2 ((relOf g x).map cPair)))) := by
 refine FnT.walk Tryz.func180 rfl (by kernel_rfl) Tryz.ntmps180 rfl fun hlen w0 => ?_
 try simp [cPair, cToken, cExpr, cEdge, cGraph, cStep, cWalk, cChange, cBatch, cHistory, cPositions, cAutomaton, cProductStep, cPathAtom, cConjunction, cView, cDelta, cRegistered, cRegistry] at hlen
 clear hlen; rw [treeCells_eq]; obtain ⟨hlow, hlow3, -⟩ := good_cases hgx; have hG := validG_len hg
 refine AW.seq ?_
 refine AW.region ?_
 refine AWl.put (R_boxz rfl rfl rfl (.tmp rfl fun _ => rfl) (ts := _) (by rfl)) rfl ?_
 refine AWl.put (R_assign rfl (.no rfl) rfl (.const rfl)) rfl ?_
 refine AWl.nilS (i := 4) 20001 2 rfl rfl ?_
 refine AWl.nil (AW.seq ?_)
 refine AW.region ?_
 refine AWl.put (by exact R_fieldAddr rfl (.no rfl) rfl (.tmp rfl fun _ => rfl) fl43_0) rfl ?_
 refine AWl.put (by exact R_load rfl (.no rfl) rfl (.tmp rfl fun _ => rfl) ty22 rfl rfl) rfl ?_
 refine AWl.put (by exact R_lenm rfl (.no rfl) rfl (.tmp rfl fun _ => rfl) (by exact .t) Tryz.underlying22) rfl ?_
 refine AWl.put (R_assign rfl (.no rfl) rfl (.tmp rfl fun _ => rfl)) rfl ?_
 refine AWl.nil (AW.seq ?_)
 refine AW.seq ?_
 refine AW.region ?_
 refine AWl.put (R_move rfl (.no rfl) rfl (.tmp rfl fun _ => rfl)) rfl ?_
 refine AWl.put (by exact R_nilCheck rfl (.no rfl) rfl (.tmp rfl fun _ => rfl)) rfl ?_
 refine AWl.put (by exact R_fieldAddr rfl (.no rfl) rfl (.tmp rfl fun _ => rfl) fl217_0) rfl ?_
 refine AWl.put (by exact R_fieldAddr rfl (.no rfl) rfl (.tmp rfl fun _ => rfl) fl172_0) rfl ?_
 refine AWl.put (by exact R_load rfl (.no rfl) rfl (.tmp rfl fun _ => rfl) ty3 rfl rfl) rfl ?_
 refine AWl.nil (AW.block ?_)
 refine AW.seq ?_
 refine AW.le (σ' := ⟨_, [(0, _), (1, _), (3, _), (4, _), (5, _), (13, _)], [(20001, _)]⟩) (Le.sub0 rfl ⟨rfl, rfl, rfl, rfl, rfl, rfl, trivial⟩ ⟨rfl, trivial⟩) ?_
 refine AW.region ?_
 refine AWl.put (R_eq rfl (.no rfl) rfl (.tmp rfl fun _ => rfl) (.const rfl)) rfl ?_
 refine AWl.put (R_assign rfl (.no rfl) rfl (.tmp rfl fun _ => rfl)) rfl ?_
 refine AWl.nil ?_
 refine AW.cond (.tmp rfl fun _ => rfl) (fun h14 => ?_) (fun h14 => ?_)
 · skip
   try simp at h14
   refine AW.seq ?_
   refine AW.region ?_
   refine AWl.put (R_move rfl (.no rfl) rfl (.tmp rfl fun _ => rfl)) rfl ?_
   refine AWl.adds (R_call 1700 (implIdentityRelation g.Values.length hG.2.1) rfl rfl rfl (.cons (.tmp rfl fun _ => rfl) rfl .nil) rfl rfl) rfl ?_
   refine AWl.put (R_assign rfl (.no rfl) rfl (.tmp rfl fun _ => rfl)) rfl ?_
   refine AWl.nil (AW.ret ?_)
   refine Res.one rfl (.tmp rfl .nil) rfl ?_
   rw [relOf_none (kind_no' hgx (by omega)), if_pos h14]; rfl
 · skip
   try simp at h14
   refine AW.seq ?_
   refine AW.region ?_
   refine AWl.put (R_eq rfl (.no rfl) rfl (.tmp rfl fun _ => rfl) (.const rfl)) rfl ?_
   refine AWl.put (R_assign rfl (.no rfl) rfl (.tmp rfl fun _ => rfl)) rfl ?_
   refine AWl.nil ?_
   refine AW.cond (.tmp rfl fun _ => rfl) (fun h18 => ?_) (fun h18 => ?_)
   · skip
     try simp at h18
     refine AW.seq ?_
     refine AW.drawn 8 (nthB [[], [], [1], [1, 2], [1, 2, 3], [1, 2, 3, 4], [0, 1, 2, 3, 4, 5], [0, 1, 2, 3, 4, 5, 6]]) (by kernel_rfl) (by kernel_rfl) (by kernel_rfl) ?_
     refine DrawC.step rfl rfl rfl (Loc.of rfl fun σ' hs => (by exact R_load rfl (.no rfl) (hd_sup hs rfl) (.tmp (hs.slots _ _ rfl) fun _ => rfl) ty43 rfl rfl)) ?_
     refine DrawC.step rfl rfl rfl (Loc.of rfl fun σ' hs => R_move rfl (.no rfl) (hd_sup hs rfl) (.tmp (hs.slots _ _ rfl) fun _ => rfl)) ?_
     refine DrawC.step rfl rfl rfl (Loc.of rfl fun σ' hs => (by exact R_nilCheck rfl (.no rfl) (hd_sup hs rfl) (.tmp (hs.slots _ _ rfl) fun _ => rfl))) ?_
     refine DrawC.step rfl rfl rfl (Loc.of rfl fun σ' hs => (by exact R_fieldAddr rfl (.no rfl) (hd_sup hs rfl) (.tmp (hs.slots _ _ rfl) fun _ => rfl) fl217_0)) ?_
     refine DrawC.step rfl rfl rfl (Loc.of rfl fun σ' hs => (by exact R_fieldAddr rfl (.no rfl) (hd_sup hs rfl) (.tmp (hs.slots _ _ rfl) fun _ => rfl) fl172_1)) ?_
     refine DrawC.step rfl rfl rfl (Loc.of rfl fun σ' hs => (by exact R_load rfl (.no rfl) (hd_sup hs rfl) (.tmp (hs.slots _ _ rfl) fun _ => rfl) ty3 rfl rfl)) ?_
     refine DrawC.step rfl rfl rfl (Loc.ofs rfl fun σ' hs hf => R_call 2600 (implLetterRelation g hg x.tok.Letter (good_letter hgx h18)) rfl rfl (hd_sup hs rfl) (.cons (.tmp (hs.slots _ _ rfl) fun _ => rfl) (readA_sup hs rfl) (.cons (.tmp (hs.slots _ _ rfl) fun _ => rfl) (readA_sup hs rfl) .nil)) rfl (all_fresh hf)) ?_
     refine DrawC.step rfl rfl rfl (Loc.of rfl fun σ' hs => R_assign rfl (.no rfl) (hd_sup hs rfl) (.tmp (hs.slots _ _ rfl) fun _ => rfl)) ?_
     refine DrawC.fin rfl rfl ?_
     refine AWl.nil (AW.ret ?_)
     refine Res.one rfl (.tmp rfl .nil) rfl ?_
     rw [relOf_none (kind_no' hgx (by omega)), if_neg h14, if_pos h18]; rfl
   · skip
     try simp at h18
     refine AW.seq ?_
     refine AW.region ?_
     refine AWl.put (R_eq rfl (.no rfl) rfl (.tmp rfl fun _ => rfl) (.const rfl)) rfl ?_
     refine AWl.put (R_assign rfl (.no rfl) rfl (.tmp rfl fun _ => rfl)) rfl ?_
     refine AWl.nil ?_
     refine AW.cond (.tmp rfl fun _ => rfl) (fun h27 => ?_) (fun h27 => ?_)
     · skip
       try simp at h27
       obtain ⟨y, z, hk2, -, hgy, hgz⟩ := kind_two' hgx (by omega)
       have hi0 : (x.kids.map cKid)[(0 : Int).toNat]? = some (cKid y) := by rw [hk2]; rfl
       have hi1 : (x.kids.map cKid)[(1 : Int).toNat]? = some (cKid z) := by rw [hk2]; rfl
       have hry := relOf_len hg y
       have hrz := relOf_len hg z
       have hln : x.kids.length = 2 := by rw [hk2]; rfl
       refine AW.seq ?_
       refine AW.le (σ' := ⟨_, [(0, _), (1, _), (3, _), (4, _), (5, _), (13, _)], [(20001, _)]⟩) (Le.sub0 rfl ⟨rfl, rfl, rfl, rfl, rfl, rfl, trivial⟩ ⟨rfl, trivial⟩) ?_
       refine AW.drawn 18 (nthB [[], [0], [0, 1], [0, 1, 2], [0, 1, 2, 3], [0, 1, 2, 3, 4], [], [0, 1, 2, 3, 4, 5, 6], [], [8], [8, 9], [8, 9, 10], [8, 9, 10, 11], [8, 9, 10, 11, 12], [], [0, 1, 2, 3, 4, 5, 6, 7, 8, 9, 10, 11, 12, 13, 14], [0, 1, 2, 3, 4, 5, 6, 7, 8, 9, 10, 11, 12, 13, 14, 15], [0, 1, 2, 3, 4, 5, 6, 7, 8, 9, 10, 11, 12, 13, 14, 15, 16]]) (by kernel_rfl) (by kernel_rfl) (by kernel_rfl) ?_
       refine DrawC.step rfl rfl rfl (Loc.of rfl fun σ' hs => R_move rfl (.no rfl) (hd_sup hs rfl) (.tmp (hs.slots _ _ rfl) fun _ => rfl)) ?_
       refine DrawC.step rfl rfl rfl (Loc.of rfl fun σ' hs => (by exact R_nilCheck rfl (.no rfl) (hd_sup hs rfl) (.tmp (hs.slots _ _ rfl) fun _ => rfl))) ?_
       refine DrawC.step rfl rfl rfl (Loc.of rfl fun σ' hs => (by exact R_fieldAddr rfl (.no rfl) (hd_sup hs rfl) (.tmp (hs.slots _ _ rfl) fun _ => rfl) fl217_1)) ?_
       refine DrawC.step rfl rfl rfl (Loc.of rfl fun σ' hs => (by exact R_load rfl (.no rfl) (hd_sup hs rfl) (.tmp (hs.slots _ _ rfl) fun _ => rfl) ty213 rfl rfl)) ?_
       refine DrawC.step rfl rfl rfl (Loc.of rfl fun σ' hs => (by exact R_indexAddr rfl (.no rfl) (hd_sup hs rfl) (.tmp (hs.slots _ _ rfl) fun _ => rfl) (.const rfl) Tryz.underlying213 ty175 (fun _ => ⟨by omega, (by exact hi0)⟩))) ?_
       refine DrawC.step rfl rfl rfl (Loc.of rfl fun σ' hs => (by exact R_load rfl (.no rfl) (hd_sup hs rfl) (.tmp (hs.slots _ _ rfl) fun _ => rfl) ty175 rfl rfl)) ?_
       refine DrawC.step rfl rfl rfl (Loc.of rfl fun σ' hs => (by exact R_load rfl (.no rfl) (hd_sup hs rfl) (.tmp (hs.slots _ _ rfl) fun _ => rfl) ty43 rfl rfl)) ?_
       refine DrawC.step rfl rfl rfl (Loc.of rfl fun σ' hs => R_callz (FnT.fr (ih y (by rw [hk2]; simp))) rfl (.no rfl) (hd_sup hs rfl) (.cons (.tmp (hs.slots _ _ rfl) fun _ => rfl) (readA_sup hs rfl) (.cons (.tmp (hs.slots _ _ rfl) fun _ => rfl) (readA_sup hs rfl) .nil))) ?_
       refine DrawC.step rfl rfl rfl (Loc.of rfl fun σ' hs => R_move rfl (.no rfl) (hd_sup hs rfl) (.tmp (hs.slots _ _ rfl) fun _ => rfl)) ?_
       refine DrawC.step rfl rfl rfl (Loc.of rfl fun σ' hs => (by exact R_nilCheck rfl (.no rfl) (hd_sup hs rfl) (.tmp (hs.slots _ _ rfl) fun _ => rfl))) ?_
       refine DrawC.step rfl rfl rfl (Loc.of rfl fun σ' hs => (by exact R_fieldAddr rfl (.no rfl) (hd_sup hs rfl) (.tmp (hs.slots _ _ rfl) fun _ => rfl) fl217_1)) ?_
       refine DrawC.step rfl rfl rfl (Loc.of rfl fun σ' hs => (by exact R_load rfl (.no rfl) (hd_sup hs rfl) (.tmp (hs.slots _ _ rfl) fun _ => rfl) ty213 rfl rfl)) ?_
       refine DrawC.step rfl rfl rfl (Loc.of rfl fun σ' hs => (by exact R_indexAddr rfl (.no rfl) (hd_sup hs rfl) (.tmp (hs.slots _ _ rfl) fun _ => rfl) (.const rfl) Tryz.underlying213 ty175 (fun _ => ⟨by omega, (by exact hi1)⟩))) ?_
       refine DrawC.step rfl rfl rfl (Loc.of rfl fun σ' hs => (by exact R_load rfl (.no rfl) (hd_sup hs rfl) (.tmp (hs.slots _ _ rfl) fun _ => rfl) ty175 rfl rfl)) ?_
       refine DrawC.step rfl rfl rfl (Loc.of rfl fun σ' hs => (by exact R_load rfl (.no rfl) (hd_sup hs rfl) (.tmp (hs.slots _ _ rfl) fun _ => rfl) ty43 rfl rfl)) ?_
       refine DrawC.step rfl rfl rfl (Loc.of rfl fun σ' hs => R_callz (FnT.fr (ih z (by rw [hk2]; simp))) rfl (.no rfl) (hd_sup hs rfl) (.cons (.tmp (hs.slots _ _ rfl) fun _ => rfl) (readA_sup hs rfl) (.cons (.tmp (hs.slots _ _ rfl) fun _ => rfl) (readA_sup hs rfl) .nil))) ?_
       refine DrawC.step rfl rfl rfl (Loc.ofs rfl fun σ' hs hf => R_call 4500 (implComposeRelations (relOf g y) (relOf g z) (by omega) (by omega)) rfl rfl (hd_sup hs rfl) (.cons (.tmp (hs.slots _ _ rfl) fun _ => rfl) (readA_sup hs rfl) (.cons (.tmp (hs.slots _ _ rfl) fun _ => rfl) (readA_sup hs rfl) .nil)) rfl (all_fresh hf)) ?_
       refine DrawC.step rfl rfl rfl (Loc.of rfl fun σ' hs => R_assign rfl (.no rfl) (hd_sup hs rfl) (.tmp (hs.slots _ _ rfl) fun _ => rfl)) ?_
       refine DrawC.fin rfl rfl ?_
       refine AWl.nil (AW.ret ?_)
       refine Res.one rfl (.tmp rfl .nil) rfl ?_
       rw [relOf_two hk2, if_pos h27]; rfl
     · skip
       try simp at h27
       refine AW.seq ?_
       refine AW.le (σ' := ⟨_, [(0, _), (1, _), (3, _), (4, _), (5, _), (13, _)], [(20001, _)]⟩) (Le.sub0 rfl ⟨rfl, rfl, rfl, rfl, rfl, rfl, trivial⟩ ⟨rfl, trivial⟩) ?_
       refine AW.region ?_
       refine AWl.put (R_eq rfl (.no rfl) rfl (.tmp rfl fun _ => rfl) (.const rfl)) rfl ?_
       refine AWl.put (R_assign rfl (.no rfl) rfl (.tmp rfl fun _ => rfl)) rfl ?_
       refine AWl.nil ?_
       refine AW.cond (.tmp rfl fun _ => rfl) (fun h46 => ?_) (fun h46 => ?_)
       · skip
         try simp at h46
         obtain ⟨y, z, hk2, -, hgy, hgz⟩ := kind_two' hgx (by omega)
         have hi0 : (x.kids.map cKid)[(0 : Int).toNat]? = some (cKid y) := by rw [hk2]; rfl
         have hi1 : (x.kids.map cKid)[(1 : Int).toNat]? = some (cKid z) := by rw [hk2]; rfl
         have hry := relOf_len hg y
         have hrz := relOf_len hg z
         have hln : x.kids.length = 2 := by rw [hk2]; rfl
         refine AW.seq ?_
         refine AW.drawn 18 (nthB [[], [0], [0, 1], [0, 1, 2], [0, 1, 2, 3], [0, 1, 2, 3, 4], [], [0, 1, 2, 3, 4, 5, 6], [], [8], [8, 9], [8, 9, 10], [8, 9, 10, 11], [8, 9, 10, 11, 12], [], [0, 1, 2, 3, 4, 5, 6, 7, 8, 9, 10, 11, 12, 13, 14], [0, 1, 2, 3, 4, 5, 6, 7, 8, 9, 10, 11, 12, 13, 14, 15], [0, 1, 2, 3, 4, 5, 6, 7, 8, 9, 10, 11, 12, 13, 14, 15, 16]]) (by kernel_rfl) (by kernel_rfl) (by kernel_rfl) ?_
         refine DrawC.step rfl rfl rfl (Loc.of rfl fun σ' hs => R_move rfl (.no rfl) (hd_sup hs rfl) (.tmp (hs.slots _ _ rfl) fun _ => rfl)) ?_
         refine DrawC.step rfl rfl rfl (Loc.of rfl fun σ' hs => (by exact R_nilCheck rfl (.no rfl) (hd_sup hs rfl) (.tmp (hs.slots _ _ rfl) fun _ => rfl))) ?_
         refine DrawC.step rfl rfl rfl (Loc.of rfl fun σ' hs => (by exact R_fieldAddr rfl (.no rfl) (hd_sup hs rfl) (.tmp (hs.slots _ _ rfl) fun _ => rfl) fl217_1)) ?_
         refine DrawC.step rfl rfl rfl (Loc.of rfl fun σ' hs => (by exact R_load rfl (.no rfl) (hd_sup hs rfl) (.tmp (hs.slots _ _ rfl) fun _ => rfl) ty213 rfl rfl)) ?_
         refine DrawC.step rfl rfl rfl (Loc.of rfl fun σ' hs => (by exact R_indexAddr rfl (.no rfl) (hd_sup hs rfl) (.tmp (hs.slots _ _ rfl) fun _ => rfl) (.const rfl) Tryz.underlying213 ty175 (fun _ => ⟨by omega, (by exact hi0)⟩))) ?_
         refine DrawC.step rfl rfl rfl (Loc.of rfl fun σ' hs => (by exact R_load rfl (.no rfl) (hd_sup hs rfl) (.tmp (hs.slots _ _ rfl) fun _ => rfl) ty175 rfl rfl)) ?_
         refine DrawC.step rfl rfl rfl (Loc.of rfl fun σ' hs => (by exact R_load rfl (.no rfl) (hd_sup hs rfl) (.tmp (hs.slots _ _ rfl) fun _ => rfl) ty43 rfl rfl)) ?_
         refine DrawC.step rfl rfl rfl (Loc.of rfl fun σ' hs => R_callz (FnT.fr (ih y (by rw [hk2]; simp))) rfl (.no rfl) (hd_sup hs rfl) (.cons (.tmp (hs.slots _ _ rfl) fun _ => rfl) (readA_sup hs rfl) (.cons (.tmp (hs.slots _ _ rfl) fun _ => rfl) (readA_sup hs rfl) .nil))) ?_
         refine DrawC.step rfl rfl rfl (Loc.of rfl fun σ' hs => R_move rfl (.no rfl) (hd_sup hs rfl) (.tmp (hs.slots _ _ rfl) fun _ => rfl)) ?_
         refine DrawC.step rfl rfl rfl (Loc.of rfl fun σ' hs => (by exact R_nilCheck rfl (.no rfl) (hd_sup hs rfl) (.tmp (hs.slots _ _ rfl) fun _ => rfl))) ?_
         refine DrawC.step rfl rfl rfl (Loc.of rfl fun σ' hs => (by exact R_fieldAddr rfl (.no rfl) (hd_sup hs rfl) (.tmp (hs.slots _ _ rfl) fun _ => rfl) fl217_1)) ?_
         refine DrawC.step rfl rfl rfl (Loc.of rfl fun σ' hs => (by exact R_load rfl (.no rfl) (hd_sup hs rfl) (.tmp (hs.slots _ _ rfl) fun _ => rfl) ty213 rfl rfl)) ?_
         refine DrawC.step rfl rfl rfl (Loc.of rfl fun σ' hs => (by exact R_indexAddr rfl (.no rfl) (hd_sup hs rfl) (.tmp (hs.slots _ _ rfl) fun _ => rfl) (.const rfl) Tryz.underlying213 ty175 (fun _ => ⟨by omega, (by exact hi1)⟩))) ?_
         refine DrawC.step rfl rfl rfl (Loc.of rfl fun σ' hs => (by exact R_load rfl (.no rfl) (hd_sup hs rfl) (.tmp (hs.slots _ _ rfl) fun _ => rfl) ty175 rfl rfl)) ?_
         refine DrawC.step rfl rfl rfl (Loc.of rfl fun σ' hs => (by exact R_load rfl (.no rfl) (hd_sup hs rfl) (.tmp (hs.slots _ _ rfl) fun _ => rfl) ty43 rfl rfl)) ?_
         refine DrawC.step rfl rfl rfl (Loc.of rfl fun σ' hs => R_callz (FnT.fr (ih z (by rw [hk2]; simp))) rfl (.no rfl) (hd_sup hs rfl) (.cons (.tmp (hs.slots _ _ rfl) fun _ => rfl) (readA_sup hs rfl) (.cons (.tmp (hs.slots _ _ rfl) fun _ => rfl) (readA_sup hs rfl) .nil))) ?_
         refine DrawC.step rfl rfl rfl (Loc.ofs rfl fun σ' hs hf => R_call 6400 (implMergePairs (relOf g y) (relOf g z) (by omega)) rfl rfl (hd_sup hs rfl) (.cons (.tmp (hs.slots _ _ rfl) fun _ => rfl) (readA_sup hs rfl) (.cons (.tmp (hs.slots _ _ rfl) fun _ => rfl) (readA_sup hs rfl) .nil)) rfl (all_fresh hf)) ?_
         refine DrawC.step rfl rfl rfl (Loc.of rfl fun σ' hs => R_assign rfl (.no rfl) (hd_sup hs rfl) (.tmp (hs.slots _ _ rfl) fun _ => rfl)) ?_
         refine DrawC.fin rfl rfl ?_
         refine AWl.nil (AW.ret ?_)
         refine Res.one rfl (.tmp rfl .nil) rfl ?_
         rw [relOf_two hk2, if_neg h27]; rfl
       · skip
         try simp at h46
         refine AW.seq ?_
         refine AW.region ?_
         refine AWl.put (R_eq rfl (.no rfl) rfl (.tmp rfl fun _ => rfl) (.const rfl)) rfl ?_
         refine AWl.put (R_assign rfl (.no rfl) rfl (.tmp rfl fun _ => rfl)) rfl ?_
         refine AWl.nil ?_
         refine AW.cond (.tmp rfl fun _ => rfl) (fun h65 => ?_) (fun h65 => ?_)
         · skip
           try simp at h65
           obtain ⟨y, hk2, -, hgy⟩ := kind_one' hgx (by omega)
           have hi0 : (x.kids.map cKid)[(0 : Int).toNat]? = some (cKid y) := by rw [hk2]; rfl
           have hln : x.kids.length = 1 := by rw [hk2]; rfl
           have hro := relOf_ok hg y
           refine AW.seq ?_
           refine AW.drawn 11 (nthB [[], [], [1], [1, 2], [1, 2, 3], [1, 2, 3, 4], [1, 2, 3, 4, 5], [], [1, 2, 3, 4, 5, 6, 7], [0, 1, 2, 3, 4, 5, 6, 7, 8], [0, 1, 2, 3, 4, 5, 6, 7, 8, 9]]) (by kernel_rfl) (by kernel_rfl) (by kernel_rfl) ?_
           refine DrawC.step rfl rfl rfl (Loc.of rfl fun σ' hs => R_move rfl (.no rfl) (hd_sup hs rfl) (.tmp (hs.slots _ _ rfl) fun _ => rfl)) ?_
           refine DrawC.step rfl rfl rfl (Loc.of rfl fun σ' hs => R_move rfl (.no rfl) (hd_sup hs rfl) (.tmp (hs.slots _ _ rfl) fun _ => rfl)) ?_
           refine DrawC.step rfl rfl rfl (Loc.of rfl fun σ' hs => (by exact R_nilCheck rfl (.no rfl) (hd_sup hs rfl) (.tmp (hs.slots _ _ rfl) fun _ => rfl))) ?_
           refine DrawC.step rfl rfl rfl (Loc.of rfl fun σ' hs => (by exact R_fieldAddr rfl (.no rfl) (hd_sup hs rfl) (.tmp (hs.slots _ _ rfl) fun _ => rfl) fl217_1)) ?_
           refine DrawC.step rfl rfl rfl (Loc.of rfl fun σ' hs => (by exact R_load rfl (.no rfl) (hd_sup hs rfl) (.tmp (hs.slots _ _ rfl) fun _ => rfl) ty213 rfl rfl)) ?_
           refine DrawC.step rfl rfl rfl (Loc.of rfl fun σ' hs => (by exact R_indexAddr rfl (.no rfl) (hd_sup hs rfl) (.tmp (hs.slots _ _ rfl) fun _ => rfl) (.const rfl) Tryz.underlying213 ty175 (fun _ => ⟨by omega, (by exact hi0)⟩))) ?_
           refine DrawC.step rfl rfl rfl (Loc.of rfl fun σ' hs => (by exact R_load rfl (.no rfl) (hd_sup hs rfl) (.tmp (hs.slots _ _ rfl) fun _ => rfl) ty175 rfl rfl)) ?_
           refine DrawC.step rfl rfl rfl (Loc.of rfl fun σ' hs => (by exact R_load rfl (.no rfl) (hd_sup hs rfl) (.tmp (hs.slots _ _ rfl) fun _ => rfl) ty43 rfl rfl)) ?_
           refine DrawC.step rfl rfl rfl (Loc.of rfl fun σ' hs => R_callz (FnT.fr (ih y (by rw [hk2]; simp))) rfl (.no rfl) (hd_sup hs rfl) (.cons (.tmp (hs.slots _ _ rfl) fun _ => rfl) (readA_sup hs rfl) (.cons (.tmp (hs.slots _ _ rfl) fun _ => rfl) (readA_sup hs rfl) .nil))) ?_
           refine DrawC.step rfl rfl rfl (Loc.ofs rfl fun σ' hs hf => R_call 7600 (implClosureRelation g.Values.length ⟨hG.1, hG.2.1⟩ (relOf g y) hro.1 hro.2) rfl rfl (hd_sup hs rfl) (.cons (.tmp (hs.slots _ _ rfl) fun _ => rfl) (readA_sup hs rfl) (.cons (.tmp (hs.slots _ _ rfl) fun _ => rfl) (readA_sup hs rfl) .nil)) rfl (all_fresh hf)) ?_
           refine DrawC.step rfl rfl rfl (Loc.of rfl fun σ' hs => R_assign rfl (.no rfl) (hd_sup hs rfl) (.tmp (hs.slots _ _ rfl) fun _ => rfl)) ?_
           refine DrawC.fin rfl rfl ?_
           refine AWl.nil (AW.ret ?_)
           refine Res.one rfl (.tmp rfl .nil) rfl ?_
           rw [relOf_one hk2, if_pos h65]; rfl
         · skip
           try simp at h65
           refine AW.seq ?_
           refine AW.region ?_
           refine AWl.put (R_eq rfl (.no rfl) rfl (.tmp rfl fun _ => rfl) (.const rfl)) rfl ?_
           refine AWl.put (R_assign rfl (.no rfl) rfl (.tmp rfl fun _ => rfl)) rfl ?_
           refine AWl.nil ?_
           refine AW.cond (.tmp rfl fun _ => rfl) (fun h77 => ?_) (fun h77 => ?_)
           · skip
             try simp at h77
             obtain ⟨y, hk2, -, hgy⟩ := kind_one' hgx (by omega)
             have hi0 : (x.kids.map cKid)[(0 : Int).toNat]? = some (cKid y) := by rw [hk2]; rfl
             have hln : x.kids.length = 1 := by rw [hk2]; rfl
             have hro := relOf_ok hg y
             refine AW.seq ?_
             refine AW.le (σ' := ⟨_, [(0, _), (1, _), (3, _), (4, _), (5, _), (13, _)], [(20001, _)]⟩) (Le.sub0 rfl ⟨rfl, rfl, rfl, rfl, rfl, rfl, trivial⟩ ⟨rfl, trivial⟩) ?_
             refine AW.drawn 21 (nthB [[], [], [1], [1, 2], [1, 2, 3], [1, 2, 3, 4], [1, 2, 3, 4, 5], [], [1, 2, 3, 4, 5, 6, 7], [], [9], [9, 10], [9, 10, 11], [9, 10, 11, 12], [], [14], [14, 15], [14, 15, 16], [14, 15, 16, 17], [0, 1, 2, 3, 4, 5, 6, 7, 8, 9, 10, 11, 12, 13, 14, 15, 16, 17, 18], [0, 1, 2, 3, 4, 5, 6, 7, 8, 9, 10, 11, 12, 13, 14, 15, 16, 17, 18, 19]]) (by kernel_rfl) (by kernel_rfl) (by kernel_rfl) ?_
             refine DrawC.step rfl rfl rfl (Loc.of rfl fun σ' hs => R_move rfl (.no rfl) (hd_sup hs rfl) (.tmp (hs.slots _ _ rfl) fun _ => rfl)) ?_
             refine DrawC.step rfl rfl rfl (Loc.of rfl fun σ' hs => R_move rfl (.no rfl) (hd_sup hs rfl) (.tmp (hs.slots _ _ rfl) fun _ => rfl)) ?_
             refine DrawC.step rfl rfl rfl (Loc.of rfl fun σ' hs => (by exact R_nilCheck rfl (.no rfl) (hd_sup hs rfl) (.tmp (hs.slots _ _ rfl) fun _ => rfl))) ?_
             refine DrawC.step rfl rfl rfl (Loc.of rfl fun σ' hs => (by exact R_fieldAddr rfl (.no rfl) (hd_sup hs rfl) (.tmp (hs.slots _ _ rfl) fun _ => rfl) fl217_1)) ?_
             refine DrawC.step rfl rfl rfl (Loc.of rfl fun σ' hs => (by exact R_load rfl (.no rfl) (hd_sup hs rfl) (.tmp (hs.slots _ _ rfl) fun _ => rfl) ty213 rfl rfl)) ?_
             refine DrawC.step rfl rfl rfl (Loc.of rfl fun σ' hs => (by exact R_indexAddr rfl (.no rfl) (hd_sup hs rfl) (.tmp (hs.slots _ _ rfl) fun _ => rfl) (.const rfl) Tryz.underlying213 ty175 (fun _ => ⟨by omega, (by exact hi0)⟩))) ?_
             refine DrawC.step rfl rfl rfl (Loc.of rfl fun σ' hs => (by exact R_load rfl (.no rfl) (hd_sup hs rfl) (.tmp (hs.slots _ _ rfl) fun _ => rfl) ty175 rfl rfl)) ?_
             refine DrawC.step rfl rfl rfl (Loc.of rfl fun σ' hs => (by exact R_load rfl (.no rfl) (hd_sup hs rfl) (.tmp (hs.slots _ _ rfl) fun _ => rfl) ty43 rfl rfl)) ?_
             refine DrawC.step rfl rfl rfl (Loc.of rfl fun σ' hs => R_callz (FnT.fr (ih y (by rw [hk2]; simp))) rfl (.no rfl) (hd_sup hs rfl) (.cons (.tmp (hs.slots _ _ rfl) fun _ => rfl) (readA_sup hs rfl) (.cons (.tmp (hs.slots _ _ rfl) fun _ => rfl) (readA_sup hs rfl) .nil))) ?_
             refine DrawC.step rfl rfl rfl (Loc.of rfl fun σ' hs => R_move rfl (.no rfl) (hd_sup hs rfl) (.tmp (hs.slots _ _ rfl) fun _ => rfl)) ?_
             refine DrawC.step rfl rfl rfl (Loc.of rfl fun σ' hs => (by exact R_nilCheck rfl (.no rfl) (hd_sup hs rfl) (.tmp (hs.slots _ _ rfl) fun _ => rfl))) ?_
             refine DrawC.step rfl rfl rfl (Loc.of rfl fun σ' hs => (by exact R_fieldAddr rfl (.no rfl) (hd_sup hs rfl) (.tmp (hs.slots _ _ rfl) fun _ => rfl) fl217_0)) ?_
             refine DrawC.step rfl rfl rfl (Loc.of rfl fun σ' hs => (by exact R_fieldAddr rfl (.no rfl) (hd_sup hs rfl) (.tmp (hs.slots _ _ rfl) fun _ => rfl) fl172_2)) ?_
             refine DrawC.step rfl rfl rfl (Loc.of rfl fun σ' hs => (by exact R_load rfl (.no rfl) (hd_sup hs rfl) (.tmp (hs.slots _ _ rfl) fun _ => rfl) ty3 rfl rfl)) ?_
             refine DrawC.step rfl rfl rfl (Loc.of rfl fun σ' hs => R_move rfl (.no rfl) (hd_sup hs rfl) (.tmp (hs.slots _ _ rfl) fun _ => rfl)) ?_
             refine DrawC.step rfl rfl rfl (Loc.of rfl fun σ' hs => (by exact R_nilCheck rfl (.no rfl) (hd_sup hs rfl) (.tmp (hs.slots _ _ rfl) fun _ => rfl))) ?_
             refine DrawC.step rfl rfl rfl (Loc.of rfl fun σ' hs => (by exact R_fieldAddr rfl (.no rfl) (hd_sup hs rfl) (.tmp (hs.slots _ _ rfl) fun _ => rfl) fl217_0)) ?_
             refine DrawC.step rfl rfl rfl (Loc.of rfl fun σ' hs => (by exact R_fieldAddr rfl (.no rfl) (hd_sup hs rfl) (.tmp (hs.slots _ _ rfl) fun _ => rfl) fl172_3)) ?_
             refine DrawC.step rfl rfl rfl (Loc.of rfl fun σ' hs => (by exact R_load rfl (.no rfl) (hd_sup hs rfl) (.tmp (hs.slots _ _ rfl) fun _ => rfl) ty3 rfl rfl)) ?_
             refine DrawC.step rfl rfl rfl (Loc.ofs rfl fun σ' hs hf => R_call 9800 (implPowerRelation g.Values.length ⟨hG.1, hG.2.1⟩ (relOf g y) hro.1 hro.2 x.tok.Low x.tok.High hlow (good_high hgx h77)) rfl rfl (hd_sup hs rfl) (.cons (.tmp (hs.slots _ _ rfl) fun _ => rfl) (readA_sup hs rfl) (.cons (.tmp (hs.slots _ _ rfl) fun _ => rfl) (readA_sup hs rfl) (.cons (.tmp (hs.slots _ _ rfl) fun _ => rfl) (readA_sup hs rfl) (.cons (.tmp (hs.slots _ _ rfl) fun _ => rfl) (readA_sup hs rfl) .nil)))) rfl (all_fresh hf)) ?_
             refine DrawC.step rfl rfl rfl (Loc.of rfl fun σ' hs => R_assign rfl (.no rfl) (hd_sup hs rfl) (.tmp (hs.slots _ _ rfl) fun _ => rfl)) ?_
             refine DrawC.fin rfl rfl ?_
             refine AWl.nil (AW.ret ?_)
             refine Res.one rfl (.tmp rfl .nil) rfl ?_
             rw [relOf_one hk2, if_neg h65]; rfl
           · skip
             try simp at h77
             refine AW.skip ?_
             refine AW.seq ?_
             refine AW.le (σ' := ⟨_, [(0, _), (1, _), (3, _), (4, _), (5, _), (13, _)], [(20001, _)]⟩) (Le.sub0 rfl ⟨rfl, rfl, rfl, rfl, rfl, rfl, trivial⟩ ⟨rfl, trivial⟩) ?_
             refine AW.region ?_
             refine AWl.add (R_empty 99 rfl rfl rfl Tryz.underlying126 ty170 rfl) rfl ?_
             refine AWl.put (R_assign rfl (.no rfl) rfl (.tmp rfl fun _ => rfl)) rfl ?_
             refine AWl.nil (AW.ret ?_)
             refine Res.one rfl (.tmp rfl .nil) rfl ?_
             rw [relOf_none (kind_no' hgx (by omega)), if_neg h14, if_neg h18]; rfl
theorem implrelation (g : TGraph) (hg : validG g = true) : ∀ x : Tr, good x → FnT Tryz.prog 180 [.one (.ad (treeCells x)), .agg (cGraph g)] (.a (.one (.sl 2 ((relOf g x).map cPair)))) :=
 Tr.ind fun x ih hgx => implrelation1 g hg x hgx fun y hy => ih y hy (good_kids hgx y hy)
theorem specl16Eval1 (g : TGraph) (hg : validG g = true) (x : Tr) (hgx : good x) (hz : (toks x).length ≤ 1048576) (ih : ∀ y ∈ x.kids, ∀ L, L = (toks y).map cToken → FnT Tryz.prog 81 [.agg (cGraph g), .one (.sl 4 L)] (.a (.one (.sl 2 ((relOf g y).map cPair))))) : FnT Tryz.prog 81 [.agg (cGraph g), .one (.sl 4 ((toks x).map cToken))] (.a (.one (.sl 2 ((relOf g x).map cPair)))) := by
 refine FnT.walk Tryz.func81 rfl (by kernel_rfl) Tryz.ntmps81 rfl fun hlen w0 => ?_
 try simp [cPair, cToken, cExpr, cEdge, cGraph, cStep, cWalk, cChange, cBatch, cHistory, cPositions, cAutomaton, cProductStep, cPathAtom, cConjunction, cView, cDelta, cRegistered, cRegistry] at hlen
 clear hlen; obtain ⟨hlow, hlow3, -⟩ := good_cases hgx; have hG := validG_len hg; have hlast := tok_last x; have hpos := toks_pos x
 refine AW.seq ?_
 refine AW.region ?_
 refine AWl.put (R_boxz rfl rfl rfl (.tmp rfl fun _ => rfl) (ts := _) (by rfl)) rfl ?_
 refine AWl.put (R_assign rfl (.no rfl) rfl (.const rfl)) rfl ?_
 refine AWl.nilS (i := 4) 20001 2 rfl rfl ?_
 refine AWl.nil (AW.seq ?_)
 refine AW.region ?_
 refine AWl.put (R_move rfl (.no rfl) rfl (.tmp rfl fun _ => rfl)) rfl ?_
 refine AWl.put (by exact R_lenm rfl (.no rfl) rfl (.tmp rfl fun _ => rfl) (by exact .t) Tryz.underlying71) rfl ?_
 refine AWl.put (R_sub rfl (.no rfl) rfl (.tmp rfl fun _ => rfl) (.const rfl) (fun _ => by omega)) rfl ?_
 refine AWl.put (R_assign rfl (.no rfl) rfl (.tmp rfl fun _ => rfl)) rfl ?_
 refine AWl.nil (AW.seq ?_)
 refine AW.region ?_
 refine AWl.put (R_move rfl (.no rfl) rfl (.tmp rfl fun _ => rfl)) rfl ?_
 refine AWl.put (R_move rfl (.no rfl) rfl (.tmp rfl fun _ => rfl)) rfl ?_
 refine AWl.put (by exact R_indexAddr rfl (.no rfl) rfl (.tmp rfl fun _ => rfl) (.tmp rfl fun _ => rfl) Tryz.underlying71 ty172 (fun _ => ⟨by omega, map_get hlast⟩)) rfl ?_
 refine AWl.put (by exact R_load rfl (.no rfl) rfl (.tmp rfl fun _ => rfl) ty172 rfl rfl) rfl ?_
 refine AWl.add (R_alloc 6 rfl rfl rfl in172 rfl rfl rfl) rfl ?_
 refine AWl.chgb (R_store_pb rfl rfl rfl (.tmp rfl fun _ => rfl) (.tmp rfl fun _ => rfl) rfl ty172 rfl rfl rfl (by kernel_rfl) rfl) ?_
 refine AWl.nil (AW.seq ?_)
 refine AW.seq ?_
 refine AW.le (σ' := ⟨_, [(0, _), (1, _), (2, _), (4, _), (5, _), (6, _)], [(20001, _), (6, _)]⟩) (Le.sub0 rfl ⟨rfl, rfl, rfl, rfl, rfl, rfl, trivial⟩ ⟨rfl, rfl, trivial⟩) ?_
 refine AW.region ?_
 refine AWl.put (by exact R_fieldAddr_pp rfl (.no rfl) rfl (.tmp rfl fun _ => rfl) fl172_0) rfl ?_
 refine AWl.put (by exact R_load_pp rfl (.no rfl) rfl (.tmp rfl fun _ => rfl) rfl ty3 rfl rfl) rfl ?_
 refine AWl.nil (AW.block ?_)
 refine AW.seq ?_
 refine AW.region ?_
 refine AWl.put (R_eq rfl (.no rfl) rfl (.tmp rfl fun _ => rfl) (.const rfl)) rfl ?_
 refine AWl.put (R_assign rfl (.no rfl) rfl (.tmp rfl fun _ => rfl)) rfl ?_
 refine AWl.nil ?_
 refine AW.cond (.tmp rfl fun _ => rfl) (fun h18 => ?_) (fun h18 => ?_)
 · skip
   try simp at h18
   refine AW.seq ?_
   refine AW.region ?_
   refine AWl.put (by exact R_fieldAddr rfl (.no rfl) rfl (.tmp rfl fun _ => rfl) fl43_0) rfl ?_
   refine AWl.put (by exact R_load rfl (.no rfl) rfl (.tmp rfl fun _ => rfl) ty22 rfl rfl) rfl ?_
   refine AWl.put (by exact R_lenm rfl (.no rfl) rfl (.tmp rfl fun _ => rfl) (by exact .t) Tryz.underlying22) rfl ?_
   refine AWl.adds (R_call 2300 (specIdentityRelation g.Values.length hG.2.1) rfl rfl rfl (.cons (.tmp rfl fun _ => rfl) rfl .nil) rfl rfl) rfl ?_
   refine AWl.put (R_assign rfl (.no rfl) rfl (.tmp rfl fun _ => rfl)) rfl ?_
   refine AWl.nil (AW.ret ?_)
   refine Res.one rfl (.tmp rfl .nil) rfl ?_
   rw [relOf_none (kind_no' hgx (by omega)), if_pos h18]; rfl
 · skip
   try simp at h18
   refine AW.seq ?_
   refine AW.region ?_
   refine AWl.put (R_eq rfl (.no rfl) rfl (.tmp rfl fun _ => rfl) (.const rfl)) rfl ?_
   refine AWl.put (R_assign rfl (.no rfl) rfl (.tmp rfl fun _ => rfl)) rfl ?_
   refine AWl.nil ?_
   refine AW.cond (.tmp rfl fun _ => rfl) (fun h24 => ?_) (fun h24 => ?_)
   · skip
     try simp at h24
     refine AW.seq ?_
     refine AW.region ?_
     refine AWl.put (by exact R_load rfl (.no rfl) rfl (.tmp rfl fun _ => rfl) ty43 rfl rfl) rfl ?_
     refine AWl.put (by exact R_fieldAddr_pp rfl (.no rfl) rfl (.tmp rfl fun _ => rfl) fl172_1) rfl ?_
     refine AWl.put (by exact R_load_pp rfl (.no rfl) rfl (.tmp rfl fun _ => rfl) rfl ty3 rfl rfl) rfl ?_
     refine AWl.adds (R_call 2900 (specLetterRelation g hg x.tok.Letter (good_letter hgx h24)) rfl rfl rfl (.cons (.tmp rfl fun _ => rfl) rfl (.cons (.tmp rfl fun _ => rfl) rfl .nil)) rfl rfl) rfl ?_
     refine AWl.put (R_assign rfl (.no rfl) rfl (.tmp rfl fun _ => rfl)) rfl ?_
     refine AWl.nil (AW.ret ?_)
     refine Res.one rfl (.tmp rfl .nil) rfl ?_
     rw [relOf_none (kind_no' hgx (by omega)), if_neg h18, if_pos h24]; rfl
   · skip
     try simp at h24
     refine AW.seq ?_
     refine AW.region ?_
     refine AWl.put (R_eq rfl (.no rfl) rfl (.tmp rfl fun _ => rfl) (.const rfl)) rfl ?_
     refine AWl.put (R_assign rfl (.no rfl) rfl (.tmp rfl fun _ => rfl)) rfl ?_
     refine AWl.nil ?_
     refine AW.cond (.tmp rfl fun _ => rfl) (fun h30 => ?_) (fun h30 => ?_)
     · skip
       try simp at h30
       obtain ⟨y, z, hk2, hte, hgy, hgz⟩ := kind_two' hgx (by omega)
       have hln : (toks x).length = (toks y).length + (toks z).length + 1 := by rw [hte]; simp; omega
       have hry := relOf_len hg y
       have hrz := relOf_len hg z
       refine AW.seq ?_
       refine AW.le (σ' := ⟨_, [(0, _), (1, _), (2, _), (4, _), (5, _), (6, _), (17, _)], [(20001, _), (6, _)]⟩) (Le.sub0 rfl ⟨rfl, rfl, rfl, rfl, rfl, rfl, rfl, trivial⟩ ⟨rfl, rfl, trivial⟩) ?_
       refine AW.region ?_
       refine AWl.put (R_move rfl (.no rfl) rfl (.tmp rfl fun _ => rfl)) rfl ?_
       refine AWl.put (R_move rfl (.no rfl) rfl (.tmp rfl fun _ => rfl)) rfl ?_
       refine AWl.put (R_slice (m := (toks y).length + (toks z).length) rfl (.no rfl) rfl (.tmp rfl fun _ => rfl) .no (.yes (.tmp rfl fun _ => rfl) (fun _ => by first | omega | (simp <;> omega))) Tryz.underlying71 ty172 (fun _ => ⟨by omega, by first | omega | (simp; omega)⟩)) rfl ?_
       refine AWl.put (R_callz (FnT.fr (l8Start_at hgz (pre := toks y) (by simp; omega) _ (sl_pre2 hte))) rfl (.no rfl) rfl (.cons (.tmp rfl fun _ => rfl) rfl .nil)) rfl ?_
       refine AWl.put (R_assign rfl (.no rfl) rfl (.tmp rfl fun _ => rfl)) rfl ?_
       refine AWl.nil (AW.seq ?_)
       refine AW.drawn 13 (nthB [[], [], [], [1, 2], [0, 1, 2, 3], [], [], [], [], [6, 7, 8], [0, 1, 2, 3, 4, 5, 6, 7, 8, 9], [0, 1, 2, 3, 4, 5, 6, 7, 8, 9, 10], [0, 1, 2, 3, 4, 5, 6, 7, 8, 9, 10, 11]]) (by kernel_rfl) (by kernel_rfl) (by kernel_rfl) ?_
       refine DrawC.step rfl rfl rfl (Loc.of rfl fun σ' hs => (by exact R_load rfl (.no rfl) (hd_sup hs rfl) (.tmp (hs.slots _ _ rfl) fun _ => rfl) ty43 rfl rfl)) ?_
       refine DrawC.step rfl rfl rfl (Loc.of rfl fun σ' hs => R_move rfl (.no rfl) (hd_sup hs rfl) (.tmp (hs.slots _ _ rfl) fun _ => rfl)) ?_
       refine DrawC.step rfl rfl rfl (Loc.of rfl fun σ' hs => R_move rfl (.no rfl) (hd_sup hs rfl) (.tmp (hs.slots _ _ rfl) fun _ => rfl)) ?_
       refine DrawC.step rfl rfl rfl (Loc.of rfl fun σ' hs => R_slice (m := (toks y).length) rfl (.no rfl) (hd_sup hs rfl) (.tmp (hs.slots _ _ rfl) fun _ => rfl) .no (.yes (.tmp (hs.slots _ _ rfl) fun _ => rfl) (fun _ => by first | omega | (simp <;> omega))) Tryz.underlying71 ty172 (fun _ => ⟨by omega, by first | omega | (simp; omega)⟩)) ?_
       refine DrawC.step rfl rfl rfl (Loc.of rfl fun σ' hs => R_callz (FnT.fr (ih y (by rw [hk2]; simp) _ (sl_pre (by rw [hte, List.append_assoc])))) rfl (.no rfl) (hd_sup hs rfl) (.cons (.tmp (hs.slots _ _ rfl) fun _ => rfl) (readA_sup hs rfl) (.cons (.tmp (hs.slots _ _ rfl) fun _ => rfl) (readA_sup hs rfl) .nil))) ?_
       refine DrawC.step rfl rfl rfl (Loc.of rfl fun σ' hs => (by exact R_load rfl (.no rfl) (hd_sup hs rfl) (.tmp (hs.slots _ _ rfl) fun _ => rfl) ty43 rfl rfl)) ?_
       refine DrawC.step rfl rfl rfl (Loc.of rfl fun σ' hs => R_move rfl (.no rfl) (hd_sup hs rfl) (.tmp (hs.slots _ _ rfl) fun _ => rfl)) ?_
       refine DrawC.step rfl rfl rfl (Loc.of rfl fun σ' hs => R_move rfl (.no rfl) (hd_sup hs rfl) (.tmp (hs.slots _ _ rfl) fun _ => rfl)) ?_
       refine DrawC.step rfl rfl rfl (Loc.of rfl fun σ' hs => R_move rfl (.no rfl) (hd_sup hs rfl) (.tmp (hs.slots _ _ rfl) fun _ => rfl)) ?_
       refine DrawC.step rfl rfl rfl (Loc.of rfl fun σ' hs => R_slice (n := (toks y).length) (m := (toks y).length + (toks z).length) rfl (.no rfl) (hd_sup hs rfl) (.tmp (hs.slots _ _ rfl) fun _ => rfl) (.yes (.tmp (hs.slots _ _ rfl) fun _ => rfl) (fun _ => by first | omega | (simp <;> omega))) (.yes (.tmp (hs.slots _ _ rfl) fun _ => rfl) (fun _ => by first | omega | (simp <;> omega))) Tryz.underlying71 ty172 (fun _ => ⟨by omega, by first | omega | (simp; omega)⟩)) ?_
       refine DrawC.step rfl rfl rfl (Loc.of rfl fun σ' hs => R_callz (FnT.fr (ih z (by rw [hk2]; simp) _ (sl_mid hte))) rfl (.no rfl) (hd_sup hs rfl) (.cons (.tmp (hs.slots _ _ rfl) fun _ => rfl) (readA_sup hs rfl) (.cons (.tmp (hs.slots _ _ rfl) fun _ => rfl) (readA_sup hs rfl) .nil))) ?_
       refine DrawC.step rfl rfl rfl (Loc.ofs rfl fun σ' hs hf => R_call 4700 (specComposeRelations (relOf g y) (relOf g z) (by omega) (by omega)) rfl rfl (hd_sup hs rfl) (.cons (.tmp (hs.slots _ _ rfl) fun _ => rfl) (readA_sup hs rfl) (.cons (.tmp (hs.slots _ _ rfl) fun _ => rfl) (readA_sup hs rfl) .nil)) rfl (all_fresh hf)) ?_
       refine DrawC.step rfl rfl rfl (Loc.of rfl fun σ' hs => R_assign rfl (.no rfl) (hd_sup hs rfl) (.tmp (hs.slots _ _ rfl) fun _ => rfl)) ?_
       refine DrawC.fin rfl rfl ?_
       refine AWl.nil (AW.ret ?_)
       refine Res.one rfl (.tmp rfl .nil) rfl ?_
       rw [relOf_two hk2, if_pos h30]; rfl
     · skip
       try simp at h30
       refine AW.seq ?_
       refine AW.le (σ' := ⟨_, [(0, _), (1, _), (2, _), (4, _), (5, _), (6, _), (17, _)], [(20001, _), (6, _)]⟩) (Le.sub0 rfl ⟨rfl, rfl, rfl, rfl, rfl, rfl, rfl, trivial⟩ ⟨rfl, rfl, trivial⟩) ?_
       refine AW.region ?_
       refine AWl.put (R_eq rfl (.no rfl) rfl (.tmp rfl fun _ => rfl) (.const rfl)) rfl ?_
       refine AWl.put (R_assign rfl (.no rfl) rfl (.tmp rfl fun _ => rfl)) rfl ?_
       refine AWl.nil ?_
       refine AW.cond (.tmp rfl fun _ => rfl) (fun h48 => ?_) (fun h48 => ?_)
       · skip
         try simp at h48
         obtain ⟨y, z, hk2, hte, hgy, hgz⟩ := kind_two' hgx (by omega)
         have hln : (toks x).length = (toks y).length + (toks z).length + 1 := by rw [hte]; simp; omega
         have hry := relOf_len hg y
         have hrz := relOf_len hg z
         refine AW.seq ?_
         refine AW.region ?_
         refine AWl.put (R_move rfl (.no rfl) rfl (.tmp rfl fun _ => rfl)) rfl ?_
         refine AWl.put (R_move rfl (.no rfl) rfl (.tmp rfl fun _ => rfl)) rfl ?_
         refine AWl.put (R_slice (m := (toks y).length + (toks z).length) rfl (.no rfl) rfl (.tmp rfl fun _ => rfl) .no (.yes (.tmp rfl fun _ => rfl) (fun _ => by first | omega | (simp <;> omega))) Tryz.underlying71 ty172 (fun _ => ⟨by omega, by first | omega | (simp; omega)⟩)) rfl ?_
         refine AWl.put (R_callz (FnT.fr (l8Start_at hgz (pre := toks y) (by simp; omega) _ (sl_pre2 hte))) rfl (.no rfl) rfl (.cons (.tmp rfl fun _ => rfl) rfl .nil)) rfl ?_
         refine AWl.put (R_assign rfl (.no rfl) rfl (.tmp rfl fun _ => rfl)) rfl ?_
         refine AWl.nil (AW.seq ?_)
         refine AW.le (σ' := ⟨_, [(0, _), (1, _), (2, _), (4, _), (5, _), (6, _), (8, _), (17, _)], [(20001, _), (6, _)]⟩) (Le.sub0 rfl ⟨rfl, rfl, rfl, rfl, rfl, rfl, rfl, rfl, trivial⟩ ⟨rfl, rfl, trivial⟩) ?_
         refine AW.drawn 13 (nthB [[], [], [], [1, 2], [0, 1, 2, 3], [], [], [], [], [6, 7, 8], [0, 1, 2, 3, 4, 5, 6, 7, 8, 9], [0, 1, 2, 3, 4, 5, 6, 7, 8, 9, 10], [0, 1, 2, 3, 4, 5, 6, 7, 8, 9, 10, 11]]) (by kernel_rfl) (by kernel_rfl) (by kernel_rfl) ?_
         refine DrawC.step rfl rfl rfl (Loc.of rfl fun σ' hs => (by exact R_load rfl (.no rfl) (hd_sup hs rfl) (.tmp (hs.slots _ _ rfl) fun _ => rfl) ty43 rfl rfl)) ?_
         refine DrawC.step rfl rfl rfl (Loc.of rfl fun σ' hs => R_move rfl (.no rfl) (hd_sup hs rfl) (.tmp (hs.slots _ _ rfl) fun _ => rfl)) ?_
         refine DrawC.step rfl rfl rfl (Loc.of rfl fun σ' hs => R_move rfl (.no rfl) (hd_sup hs rfl) (.tmp (hs.slots _ _ rfl) fun _ => rfl)) ?_
         refine DrawC.step rfl rfl rfl (Loc.of rfl fun σ' hs => R_slice (m := (toks y).length) rfl (.no rfl) (hd_sup hs rfl) (.tmp (hs.slots _ _ rfl) fun _ => rfl) .no (.yes (.tmp (hs.slots _ _ rfl) fun _ => rfl) (fun _ => by first | omega | (simp <;> omega))) Tryz.underlying71 ty172 (fun _ => ⟨by omega, by first | omega | (simp; omega)⟩)) ?_
         refine DrawC.step rfl rfl rfl (Loc.of rfl fun σ' hs => R_callz (FnT.fr (ih y (by rw [hk2]; simp) _ (sl_pre (by rw [hte, List.append_assoc])))) rfl (.no rfl) (hd_sup hs rfl) (.cons (.tmp (hs.slots _ _ rfl) fun _ => rfl) (readA_sup hs rfl) (.cons (.tmp (hs.slots _ _ rfl) fun _ => rfl) (readA_sup hs rfl) .nil))) ?_
         refine DrawC.step rfl rfl rfl (Loc.of rfl fun σ' hs => (by exact R_load rfl (.no rfl) (hd_sup hs rfl) (.tmp (hs.slots _ _ rfl) fun _ => rfl) ty43 rfl rfl)) ?_
         refine DrawC.step rfl rfl rfl (Loc.of rfl fun σ' hs => R_move rfl (.no rfl) (hd_sup hs rfl) (.tmp (hs.slots _ _ rfl) fun _ => rfl)) ?_
         refine DrawC.step rfl rfl rfl (Loc.of rfl fun σ' hs => R_move rfl (.no rfl) (hd_sup hs rfl) (.tmp (hs.slots _ _ rfl) fun _ => rfl)) ?_
         refine DrawC.step rfl rfl rfl (Loc.of rfl fun σ' hs => R_move rfl (.no rfl) (hd_sup hs rfl) (.tmp (hs.slots _ _ rfl) fun _ => rfl)) ?_
         refine DrawC.step rfl rfl rfl (Loc.of rfl fun σ' hs => R_slice (n := (toks y).length) (m := (toks y).length + (toks z).length) rfl (.no rfl) (hd_sup hs rfl) (.tmp (hs.slots _ _ rfl) fun _ => rfl) (.yes (.tmp (hs.slots _ _ rfl) fun _ => rfl) (fun _ => by first | omega | (simp <;> omega))) (.yes (.tmp (hs.slots _ _ rfl) fun _ => rfl) (fun _ => by first | omega | (simp <;> omega))) Tryz.underlying71 ty172 (fun _ => ⟨by omega, by first | omega | (simp; omega)⟩)) ?_
         refine DrawC.step rfl rfl rfl (Loc.of rfl fun σ' hs => R_callz (FnT.fr (ih z (by rw [hk2]; simp) _ (sl_mid hte))) rfl (.no rfl) (hd_sup hs rfl) (.cons (.tmp (hs.slots _ _ rfl) fun _ => rfl) (readA_sup hs rfl) (.cons (.tmp (hs.slots _ _ rfl) fun _ => rfl) (readA_sup hs rfl) .nil))) ?_
         refine DrawC.step rfl rfl rfl (Loc.ofs rfl fun σ' hs hf => R_call 6500 (specMergePairs (relOf g y) (relOf g z) (by omega)) rfl rfl (hd_sup hs rfl) (.cons (.tmp (hs.slots _ _ rfl) fun _ => rfl) (readA_sup hs rfl) (.cons (.tmp (hs.slots _ _ rfl) fun _ => rfl) (readA_sup hs rfl) .nil)) rfl (all_fresh hf)) ?_
         refine DrawC.step rfl rfl rfl (Loc.of rfl fun σ' hs => R_assign rfl (.no rfl) (hd_sup hs rfl) (.tmp (hs.slots _ _ rfl) fun _ => rfl)) ?_
         refine DrawC.fin rfl rfl ?_
         refine AWl.nil (AW.ret ?_)
         refine Res.one rfl (.tmp rfl .nil) rfl ?_
         rw [relOf_two hk2, if_neg h30]; rfl
       · skip
         try simp at h48
         refine AW.seq ?_
         refine AW.region ?_
         refine AWl.put (R_eq rfl (.no rfl) rfl (.tmp rfl fun _ => rfl) (.const rfl)) rfl ?_
         refine AWl.put (R_assign rfl (.no rfl) rfl (.tmp rfl fun _ => rfl)) rfl ?_
         refine AWl.nil ?_
         refine AW.cond (.tmp rfl fun _ => rfl) (fun h66 => ?_) (fun h66 => ?_)
         · skip
           try simp at h66
           obtain ⟨y, hk2, hte, hgy⟩ := kind_one' hgx (by omega)
           have hln : (toks x).length = (toks y).length + 1 := by rw [hte]; simp
           have hro := relOf_ok hg y
           refine AW.seq ?_
           refine AW.drawn 10 (nthB [[], [0], [0, 1], [], [], [], [4, 5], [3, 4, 5, 6], [0, 1, 2, 3, 4, 5, 6, 7], [0, 1, 2, 3, 4, 5, 6, 7, 8]]) (by kernel_rfl) (by kernel_rfl) (by kernel_rfl) ?_
           refine DrawC.step rfl rfl rfl (Loc.of rfl fun σ' hs => (by exact R_fieldAddr rfl (.no rfl) (hd_sup hs rfl) (.tmp (hs.slots _ _ rfl) fun _ => rfl) fl43_0)) ?_
           refine DrawC.step rfl rfl rfl (Loc.of rfl fun σ' hs => (by exact R_load rfl (.no rfl) (hd_sup hs rfl) (.tmp (hs.slots _ _ rfl) fun _ => rfl) ty22 rfl rfl)) ?_
           refine DrawC.step rfl rfl rfl (Loc.of rfl fun σ' hs => (by exact R_lenm rfl (.no rfl) (hd_sup hs rfl) (.tmp (hs.slots _ _ rfl) fun _ => rfl) (by exact .t) Tryz.underlying22)) ?_
           refine DrawC.step rfl rfl rfl (Loc.of rfl fun σ' hs => (by exact R_load rfl (.no rfl) (hd_sup hs rfl) (.tmp (hs.slots _ _ rfl) fun _ => rfl) ty43 rfl rfl)) ?_
           refine DrawC.step rfl rfl rfl (Loc.of rfl fun σ' hs => R_move rfl (.no rfl) (hd_sup hs rfl) (.tmp (hs.slots _ _ rfl) fun _ => rfl)) ?_
           refine DrawC.step rfl rfl rfl (Loc.of rfl fun σ' hs => R_move rfl (.no rfl) (hd_sup hs rfl) (.tmp (hs.slots _ _ rfl) fun _ => rfl)) ?_
           refine DrawC.step rfl rfl rfl (Loc.of rfl fun σ' hs => R_slice (m := (toks y).length) rfl (.no rfl) (hd_sup hs rfl) (.tmp (hs.slots _ _ rfl) fun _ => rfl) .no (.yes (.tmp (hs.slots _ _ rfl) fun _ => rfl) (fun _ => by first | omega | (simp <;> omega))) Tryz.underlying71 ty172 (fun _ => ⟨by omega, by first | omega | (simp; omega)⟩)) ?_
           refine DrawC.step rfl rfl rfl (Loc.of rfl fun σ' hs => R_callz (FnT.fr (ih y (by rw [hk2]; simp) _ (sl_pre hte))) rfl (.no rfl) (hd_sup hs rfl) (.cons (.tmp (hs.slots _ _ rfl) fun _ => rfl) (readA_sup hs rfl) (.cons (.tmp (hs.slots _ _ rfl) fun _ => rfl) (readA_sup hs rfl) .nil))) ?_
           refine DrawC.step rfl rfl rfl (Loc.ofs rfl fun σ' hs hf => R_call 7600 (specClosureRelation g.Values.length ⟨hG.1, hG.2.1⟩ (relOf g y) hro.1 hro.2) rfl rfl (hd_sup hs rfl) (.cons (.tmp (hs.slots _ _ rfl) fun _ => rfl) (readA_sup hs rfl) (.cons (.tmp (hs.slots _ _ rfl) fun _ => rfl) (readA_sup hs rfl) .nil)) rfl (all_fresh hf)) ?_
           refine DrawC.step rfl rfl rfl (Loc.of rfl fun σ' hs => R_assign rfl (.no rfl) (hd_sup hs rfl) (.tmp (hs.slots _ _ rfl) fun _ => rfl)) ?_
           refine DrawC.fin rfl rfl ?_
           refine AWl.nil (AW.ret ?_)
           refine Res.one rfl (.tmp rfl .nil) rfl ?_
           rw [relOf_one hk2, if_pos h66]; rfl
         · skip
           try simp at h66
           refine AW.seq ?_
           refine AW.region ?_
           refine AWl.put (R_eq rfl (.no rfl) rfl (.tmp rfl fun _ => rfl) (.const rfl)) rfl ?_
           refine AWl.put (R_assign rfl (.no rfl) rfl (.tmp rfl fun _ => rfl)) rfl ?_
           refine AWl.nil ?_
           refine AW.cond (.tmp rfl fun _ => rfl) (fun h77 => ?_) (fun h77 => ?_)
           · skip
             try simp at h77
             obtain ⟨y, hk2, hte, hgy⟩ := kind_one' hgx (by omega)
             have hln : (toks x).length = (toks y).length + 1 := by rw [hte]; simp
             have hro := relOf_ok hg y
             refine AW.seq ?_
             refine AW.le (σ' := ⟨_, [(0, _), (1, _), (2, _), (4, _), (5, _), (6, _), (17, _)], [(20001, _), (6, _)]⟩) (Le.sub0 rfl ⟨rfl, rfl, rfl, rfl, rfl, rfl, rfl, trivial⟩ ⟨rfl, rfl, trivial⟩) ?_
             refine AW.drawn 14 (nthB [[], [0], [0, 1], [], [], [], [4, 5], [3, 4, 5, 6], [], [8], [], [10], [0, 1, 2, 3, 4, 5, 6, 7, 8, 9, 10, 11], [0, 1, 2, 3, 4, 5, 6, 7, 8, 9, 10, 11, 12]]) (by kernel_rfl) (by kernel_rfl) (by kernel_rfl) ?_
             refine DrawC.step rfl rfl rfl (Loc.of rfl fun σ' hs => (by exact R_fieldAddr rfl (.no rfl) (hd_sup hs rfl) (.tmp (hs.slots _ _ rfl) fun _ => rfl) fl43_0)) ?_
             refine DrawC.step rfl rfl rfl (Loc.of rfl fun σ' hs => (by exact R_load rfl (.no rfl) (hd_sup hs rfl) (.tmp (hs.slots _ _ rfl) fun _ => rfl) ty22 rfl rfl)) ?_
             refine DrawC.step rfl rfl rfl (Loc.of rfl fun σ' hs => (by exact R_lenm rfl (.no rfl) (hd_sup hs rfl) (.tmp (hs.slots _ _ rfl) fun _ => rfl) (by exact .t) Tryz.underlying22)) ?_
             refine DrawC.step rfl rfl rfl (Loc.of rfl fun σ' hs => (by exact R_load rfl (.no rfl) (hd_sup hs rfl) (.tmp (hs.slots _ _ rfl) fun _ => rfl) ty43 rfl rfl)) ?_
             refine DrawC.step rfl rfl rfl (Loc.of rfl fun σ' hs => R_move rfl (.no rfl) (hd_sup hs rfl) (.tmp (hs.slots _ _ rfl) fun _ => rfl)) ?_
             refine DrawC.step rfl rfl rfl (Loc.of rfl fun σ' hs => R_move rfl (.no rfl) (hd_sup hs rfl) (.tmp (hs.slots _ _ rfl) fun _ => rfl)) ?_
             refine DrawC.step rfl rfl rfl (Loc.of rfl fun σ' hs => R_slice (m := (toks y).length) rfl (.no rfl) (hd_sup hs rfl) (.tmp (hs.slots _ _ rfl) fun _ => rfl) .no (.yes (.tmp (hs.slots _ _ rfl) fun _ => rfl) (fun _ => by first | omega | (simp <;> omega))) Tryz.underlying71 ty172 (fun _ => ⟨by omega, by first | omega | (simp; omega)⟩)) ?_
             refine DrawC.step rfl rfl rfl (Loc.of rfl fun σ' hs => R_callz (FnT.fr (ih y (by rw [hk2]; simp) _ (sl_pre hte))) rfl (.no rfl) (hd_sup hs rfl) (.cons (.tmp (hs.slots _ _ rfl) fun _ => rfl) (readA_sup hs rfl) (.cons (.tmp (hs.slots _ _ rfl) fun _ => rfl) (readA_sup hs rfl) .nil))) ?_
             refine DrawC.step rfl rfl rfl (Loc.of rfl fun σ' hs => (by exact R_fieldAddr_pp rfl (.no rfl) (hd_sup hs rfl) (.tmp (hs.slots _ _ rfl) fun _ => rfl) fl172_2)) ?_
             refine DrawC.step rfl rfl rfl (Loc.of rfl fun σ' hs => (by exact R_load_pp rfl (.no rfl) (hd_sup hs rfl) (.tmp (hs.slots _ _ rfl) fun _ => rfl) (hs.res _ _ rfl) ty3 rfl rfl)) ?_
             refine DrawC.step rfl rfl rfl (Loc.of rfl fun σ' hs => (by exact R_fieldAddr_pp rfl (.no rfl) (hd_sup hs rfl) (.tmp (hs.slots _ _ rfl) fun _ => rfl) fl172_3)) ?_
             refine DrawC.step rfl rfl rfl (Loc.of rfl fun σ' hs => (by exact R_load_pp rfl (.no rfl) (hd_sup hs rfl) (.tmp (hs.slots _ _ rfl) fun _ => rfl) (hs.res _ _ rfl) ty3 rfl rfl)) ?_
             refine DrawC.step rfl rfl rfl (Loc.ofs rfl fun σ' hs hf => R_call 9100 (specPowerRelation g.Values.length ⟨hG.1, hG.2.1⟩ (relOf g y) hro.1 hro.2 x.tok.Low x.tok.High hlow (good_high hgx h77)) rfl rfl (hd_sup hs rfl) (.cons (.tmp (hs.slots _ _ rfl) fun _ => rfl) (readA_sup hs rfl) (.cons (.tmp (hs.slots _ _ rfl) fun _ => rfl) (readA_sup hs rfl) (.cons (.tmp (hs.slots _ _ rfl) fun _ => rfl) (readA_sup hs rfl) (.cons (.tmp (hs.slots _ _ rfl) fun _ => rfl) (readA_sup hs rfl) .nil)))) rfl (all_fresh hf)) ?_
             refine DrawC.step rfl rfl rfl (Loc.of rfl fun σ' hs => R_assign rfl (.no rfl) (hd_sup hs rfl) (.tmp (hs.slots _ _ rfl) fun _ => rfl)) ?_
             refine DrawC.fin rfl rfl ?_
             refine AWl.nil (AW.ret ?_)
             refine Res.one rfl (.tmp rfl .nil) rfl ?_
             rw [relOf_one hk2, if_neg h66]; rfl
           · skip
             try simp at h77
             refine AW.skip ?_
             refine AW.seq ?_
             refine AW.le (σ' := ⟨_, [(0, _), (1, _), (2, _), (4, _), (5, _), (6, _), (17, _)], [(20001, _), (6, _)]⟩) (Le.sub0 rfl ⟨rfl, rfl, rfl, rfl, rfl, rfl, rfl, trivial⟩ ⟨rfl, rfl, trivial⟩) ?_
             refine AW.region ?_
             refine AWl.add (R_empty 92 rfl rfl rfl Tryz.underlying126 ty170 rfl) rfl ?_
             refine AWl.put (R_assign rfl (.no rfl) rfl (.tmp rfl fun _ => rfl)) rfl ?_
             refine AWl.nil (AW.ret ?_)
             refine Res.one rfl (.tmp rfl .nil) rfl ?_
             rw [relOf_none (kind_no' hgx (by omega)), if_neg h18, if_neg h24]; rfl
theorem specl16Eval' (g : TGraph) (hg : validG g = true) : ∀ x : Tr, good x → (toks x).length ≤ 1048576 → ∀ L, L = (toks x).map cToken → FnT Tryz.prog 81 [.agg (cGraph g), .one (.sl 4 L)] (.a (.one (.sl 2 ((relOf g x).map cPair)))) :=
 Tr.ind fun x ih hgx hz L hL => by subst hL; exact specl16Eval1 g hg x hgx hz fun y hy L hL => ih y hy (good_kids hgx y hy) (by have := kids_toks hy; omega) L hL
theorem specl16Eval (g : TGraph) (hg : validG g = true) (e : TExpr) (he : isValidExpr e = true) : FnT Tryz.prog 81 [.agg (cGraph g), .one (.sl 4 (e.Tokens.map cToken))] (.a (.one (.sl 2 ((evalE g e).1.map cPair)))) := by
 obtain ⟨x, hx, htk, hgx, hl⟩ := valid_tree he
 rw [evalE_some hg he hx]
 exact specl16Eval' g hg x hgx (by rw [htk]; omega) _ (by rw [htk])
theorem implEvaluateExpr (g : TGraph) (e : TExpr) : FnT Tryz.prog 136 [.agg (cGraph g), .agg (cExpr e)] (.tup [.one (.sl 2 ((evalE g e).1.map cPair)), .one (.v (.bool (evalE g e).2))]) := by
 refine FnT.walk Tryz.func136 rfl (by kernel_rfl) Tryz.ntmps136 rfl fun hlen w0 => ?_
 try simp [cPair, cToken, cExpr, cEdge, cGraph, cStep, cWalk, cChange, cBatch, cHistory, cPositions, cAutomaton, cProductStep, cPathAtom, cConjunction, cView, cDelta, cRegistered, cRegistry] at hlen
 skip
 refine AW.seq ?_
 refine AW.region ?_
 refine AWl.put (R_boxz rfl rfl rfl (.tmp rfl fun _ => rfl) (ts := _) (by rfl)) rfl ?_
 refine AWl.put (R_boxz rfl rfl rfl (.tmp rfl fun _ => rfl) (ts := _) (by rfl)) rfl ?_
 refine AWl.put (R_assign rfl (.no rfl) rfl (.const rfl)) rfl ?_
 refine AWl.nilS (i := 4) 20001 2 rfl rfl ?_
 refine AWl.put (R_assign rfl (.no rfl) rfl (.const rfl)) rfl ?_
 refine AWl.nil (AW.seq ?_)
 refine AW.seq ?_
 refine AW.region ?_
 refine AWl.put (by exact R_load rfl (.no rfl) rfl (.tmp rfl fun _ => rfl) ty43 rfl rfl) rfl ?_
 refine AWl.put (R_callz (FnT.fr (implIsValidGraph g)) rfl (.no rfl) rfl (.cons (.tmp rfl fun _ => rfl) rfl .nil)) rfl ?_
 refine AWl.put (R_not rfl (.no rfl) rfl (.tmp rfl fun _ => rfl)) rfl ?_
 refine AWl.put (R_move rfl (.no rfl) rfl (.tmp rfl fun _ => rfl)) rfl ?_
 refine AWl.put (by exact R_load rfl (by exact .not1 rfl rfl rfl rfl) rfl (.tmp rfl (by exact fun _ => rfl)) ty73 rfl rfl) rfl ?_
 refine AWl.put (R_callz (FnT.fr (implIsValidExpr e)) rfl (by exact .not1 rfl rfl rfl rfl) rfl (.cons (.tmp rfl (by exact id)) rfl .nil)) rfl ?_
 refine AWl.put (R_not rfl (by exact .not1 rfl rfl rfl rfl) rfl (.tmp rfl (by exact id))) rfl ?_
 refine AWl.put (R_or rfl (.no rfl) rfl (.tmp rfl fun _ => rfl) (.tmp rfl (by exact id))) rfl ?_
 refine AWl.nil ?_
 refine AW.cond (.tmp rfl fun _ => rfl) (fun h13 => ?_) (fun h13 => ?_)
 · skip
   try simp at h13
   have hno : (validG g && isValidExpr e) = false := by (revert h13; cases validG g <;> cases isValidExpr e <;> simp)
   refine AW.seq ?_
   refine AW.le (σ' := ⟨_, [(0, _), (1, _), (2, _), (3, _), (4, _), (5, _)], [(20001, _)]⟩) (Le.sub0 rfl ⟨rfl, rfl, rfl, rfl, rfl, rfl, trivial⟩ ⟨rfl, trivial⟩) ?_
   refine AW.region ?_
   refine AWl.put (R_assign rfl (.no rfl) rfl (.const rfl)) rfl ?_
   refine AWl.nilS (i := 4) 20002 2 rfl rfl ?_
   refine AWl.put (R_assign rfl (.no rfl) rfl (.const rfl)) rfl ?_
   refine AWl.nil (AW.ret ?_)
   refine Res.many rfl (.tmp rfl (.tmp rfl .nil)) rfl ?_ (by simp)
   rw [evalE_bad hno]; rfl
 · skip
   try simp at h13
   have hyes : validG g = true ∧ isValidExpr e = true := by (revert h13; cases validG g <;> cases isValidExpr e <;> simp)
   obtain ⟨hg, he⟩ := hyes
   obtain ⟨x, hx, htk, hgx, hl⟩ := valid_tree he
   have htr := impltreeOf e (by omega)
   rw [treeV_some hx] at htr
   refine AW.skip ?_
   refine AW.seq ?_
   refine AW.le (σ' := ⟨_, [(0, _), (1, _), (2, _), (3, _), (4, _), (5, _)], [(20001, _)]⟩) (Le.sub0 rfl ⟨rfl, rfl, rfl, rfl, rfl, rfl, trivial⟩ ⟨rfl, trivial⟩) ?_
   refine AW.drawn 6 (nthB [[], [0], [], [0, 1, 2], [0, 1, 2, 3], [0, 1, 2, 3, 4]]) (by kernel_rfl) (by kernel_rfl) (by kernel_rfl) ?_
   refine DrawC.step rfl rfl rfl (Loc.of rfl fun σ' hs => (by exact R_load rfl (.no rfl) (hd_sup hs rfl) (.tmp (hs.slots _ _ rfl) fun _ => rfl) ty73 rfl rfl)) ?_
   refine DrawC.step rfl rfl rfl (Loc.of rfl fun σ' hs => R_callz (htr) rfl (.no rfl) (hd_sup hs rfl) (.cons (.tmp (hs.slots _ _ rfl) fun _ => rfl) (readA_sup hs rfl) .nil)) ?_
   refine DrawC.step rfl rfl rfl (Loc.of rfl fun σ' hs => (by exact R_load rfl (.no rfl) (hd_sup hs rfl) (.tmp (hs.slots _ _ rfl) fun _ => rfl) ty43 rfl rfl)) ?_
   refine DrawC.step rfl rfl rfl (Loc.ofs rfl fun σ' hs hf => R_call 1700 (implrelation g hg x hgx) rfl rfl (hd_sup hs rfl) (.cons (.tmp (hs.slots _ _ rfl) fun _ => rfl) (readA_sup hs rfl) (.cons (.tmp (hs.slots _ _ rfl) fun _ => rfl) (readA_sup hs rfl) .nil)) rfl (all_fresh hf)) ?_
   refine DrawC.step rfl rfl rfl (Loc.of rfl fun σ' hs => R_assign rfl (.no rfl) (hd_sup hs rfl) (.tmp (hs.slots _ _ rfl) fun _ => rfl)) ?_
   refine DrawC.step rfl rfl rfl (Loc.of rfl fun σ' hs => R_assign rfl (.no rfl) (hd_sup hs rfl) (.const rfl)) ?_
   refine DrawC.fin rfl rfl ?_
   refine AWl.nil (AW.ret ?_)
   refine Res.many rfl (.tmp rfl (.tmp rfl .nil)) rfl ?_ (by simp)
   rw [evalE_some hg he hx]; rfl
end Go.Proofs.YtoealglkenhphaaGreat
