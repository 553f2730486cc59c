import Derived.Test.YtbkhopfpejhnlaaGreatB50rc
import Derived.Test.YtbkhopfpejhnlaaGreatSortrc
import Derived.Test.YtbkhopfpejhnlaaGreatB31rc
set_option linter.unusedVariables false
set_option linter.unusedSimpArgs false
set_option maxHeartbeats 1000000
set_option maxRecDepth 100000
namespace Go.Q
open Go.D
theorem relOf_none {g : TGraph} {x : Tr} (h : x.kids = []) : relOf g x = if x.tok.Kind = 2 then idL g.Values.length else if x.tok.Kind = 3 then letL g x.tok.Letter else [] := by
 cases x with
 | leaf t => rfl
 | un t y => cases h
 | bin t y z => cases h
theorem relOf_one {g : TGraph} {x y : Tr} (h : x.kids = [y]) : relOf g x = if x.tok.Kind = 6 then closeL g.Values.length (relOf g y) else powL g.Values.length (relOf g y) x.tok.Low x.tok.High := by
 cases x with
 | leaf t => cases h
 | un t z => simp only [Tr.kids, List.cons.injEq, and_true] at h; subst h; rfl
 | bin t z z' => simp [Tr.kids] at h
theorem relOf_two {g : TGraph} {x y z : Tr} (h : x.kids = [y, z]) : relOf g x = if x.tok.Kind = 4 then compL (relOf g y) (relOf g z) else pmerge (relOf g y) (relOf g z) := by
 cases x with
 | leaf t => cases h
 | un t y' => simp [Tr.kids] at h
 | bin t y' z' => simp only [Tr.kids, List.cons.injEq, and_true] at h; obtain ⟨rfl, rfl⟩ := h; rfl
theorem good_letter {x : Tr} (hg : good x) (h : x.tok.Kind = 3) : 0 ≤ x.tok.Letter ∧ x.tok.Letter ≤ 8 := by
 have ha := good_arity hg
 unfold arity at ha
 rw [if_neg (by omega), if_pos h] at ha
 split at ha
 · rename_i hc; simp only [Bool.and_eq_true, inB, decide_eq_true_eq] at hc; omega
 · omega
theorem good_high {x : Tr} (hg : good x) (h : x.tok.Kind = 7) : 0 ≤ x.tok.High ∧ x.tok.High ≤ 3 := by
 have ha := good_arity hg
 unfold arity at ha
 rw [if_neg (by omega), if_neg (by omega), if_neg (by omega), if_neg (by omega), if_pos h] at ha
 split at ha
 · rename_i hc; simp only [Bool.and_eq_true, inB, decide_eq_true_eq] at hc; omega
 · omega
structure LineOk (vs : List Int) (es : List TEdge) : Prop where
 len : vs.length = es.length + 1
 le : vs.length ≤ 5
 val : ∀ v ∈ vs, 0 ≤ v ∧ v ≤ 2
 ed : ∀ (k : Nat) (e : TEdge), es[k]? = some e → e.ID = (k : Int) + 1 ∧ (0 ≤ e.From ∧ e.From ≤ (k : Int) + 1) ∧ (0 ≤ e.To ∧ e.To ≤ (k : Int) + 1) ∧ 0 ≤ e.Label ∧ e.Label ≤ 2
def evalE (g : TGraph) (e : TExpr) : List TPair × Bool := if validG g && isValidExpr e then (match treeM e.Tokens with | some x => (relOf g x, true) | none => ([], true)) else ([], false)
theorem evalE_some {g : TGraph} {e : TExpr} {x : Tr} (hg : validG g = true) (he : isValidExpr e = true) (hx : treeM e.Tokens = some x) : evalE g e = (relOf g x, true) := by unfold evalE; rw [hg, he, hx]; rfl
theorem evalE_bad {g : TGraph} {e : TExpr} (h : (validG g && isValidExpr e) = false) : evalE g e = ([], false) := by unfold evalE; rw [h]; rfl
def refut (g : TGraph) (a b : TExpr) (x y : Int) : Bool := (evalE g a).2 && (evalE g b).2 && decide ((⟨x, y⟩ : TPair) ∈ (evalE g a).1) && !decide ((⟨x, y⟩ : TPair) ∈ (evalE g b).1)
theorem evalE_2 (g : TGraph) (e : TExpr) : (evalE g e).2 = (validG g && isValidExpr e) := by
 unfold evalE
 cases h : (validG g && isValidExpr e) with
 | false => rfl
 | true => rw [if_pos rfl]; split <;> rfl
end Go.Q
namespace Go.Proofs.YtbkhopfpejhnlaaGreat
open Go.RowKit Go.Q Go.D
theorem implrelation1 (g : TGraph) (hg : validG g = true) (x : Tr) (hgx : good x) (ih : ∀ y ∈ x.kids, FnT Tryz.prog 69 [.one (.ad (treeCells y)), .agg (cGraph g)] (.a (.one (.sl 2 ((relOf g y).map cPair))))) : FnT Tryz.prog 69 [.one (.ad (treeCells x)), .agg (cGraph g)] (.a (.one (.sl 2 ((relOf g x).map cPair)))) := by
 refine FnT.walk Tryz.func69 U (by kernel_rfl) Tryz.ntmps69 U fun hlen w0 => ?_
 try simp [cPair, cToken, cExpr, cEdge, cGraph] at hlen
 clear hlen; rw [treeCells_eq]; obtain ⟨hlow, hlow3, -⟩ := good_cases hgx; have hG := validG_len hg
 refine AW.sr ?_
 refine AWl.p (R_boxz U U U (.tm U) (ts := _) (by rfl)) U ?_
 refine AWl.ac ?_
 refine AWl.nilS (i := 4) 20001 2 U U ?_
 refine AWl.nil (AW.sr ?_)
 refine AWl.p (by exact R_fieldAddr U (.no U) U (.tm U) fl27_0) U ?_
 refine AWl.p (by exact R_load U (.no U) U (.tm U) ty24 U U) U ?_
 refine AWl.p (by exact R_lenm U (.no U) U (.tm U) (by exact .t) Tryz.underlying24) U ?_
 refine AWl.av ?_
 refine AWl.nil (AW.seq ?_)
 refine AW.sr ?_
 refine AWl.mv ?_
 refine AWl.p (by exact R_nilCheck U (.no U) U (.tm U)) U ?_
 refine AWl.p (by exact R_fieldAddr U (.no U) U (.tm U) fl127_0) U ?_
 refine AWl.p (by exact R_fieldAddr U (.no U) U (.tm U) fl100_0) U ?_
 refine AWl.p (by exact R_load U (.no U) U (.tm U) ty3 U U) U ?_
 refine AWl.nil (AW.block ?_)
 refine AW.seq ?_
 refine AW.le (σ' := ⟨_, [(0, _), (1, _), (3, _), (4, _), (5, _), (13, _)], [(20001, _)]⟩) (Le.sub0 U ⟨U, U, U, U, U, U, Y⟩ ⟨U, Y⟩) ?_
 refine AW.region ?_
 refine AWl.p (R_eq U (.no U) U (.tm U) (.const U)) U ?_
 refine AWl.av ?_
 refine AWl.nil ?_
 refine AW.cond (.tm U) (fun h14 => ?_) (fun h14 => ?_)
 · skip
   try simp at h14
   refine AW.sr ?_
   refine AWl.mv ?_
   refine AWl.adds (R_call 1700 (implIdentityRelation g.Values.length hG.2.1) U U U (.cons (.tm U) U .nil) U U) U ?_
   refine AWl.av ?_
   refine AWl.nil (AW.ret ?_)
   refine Res.one U (.tmp U .nil) U ?_
   rw [relOf_none (kind_no' hgx (by omega)), if_pos h14]; rfl
 · skip
   try simp at h14
   refine AW.sr ?_
   refine AWl.p (R_eq U (.no U) U (.tm U) (.const U)) U ?_
   refine AWl.av ?_
   refine AWl.nil ?_
   refine AW.cond (.tm U) (fun h18 => ?_) (fun h18 => ?_)
   · skip
     try simp at h18
     refine AW.seq ?_
     refine AW.drawn 8 (nthB [[], [], [1], [1, 2], [1, 2, 3], [1, 2, 3, 4], [0, 1, 2, 3, 4, 5], [0, 1, 2, 3, 4, 5, 6]]) (by kernel_rfl) (by kernel_rfl) (by kernel_rfl) ?_
     refine DrawC.step U U U (Loc.of U fun σ' hs => (by exact R_load U (.no U) (hd_sup hs U) (.tm (hs.slots _ _ U)) ty27 U U)) ?_
     refine DrawC.step U U U (Loc.of U fun σ' hs => R_move U (.no U) (hd_sup hs U) (.tm (hs.slots _ _ U))) ?_
     refine DrawC.step U U U (Loc.of U fun σ' hs => (by exact R_nilCheck U (.no U) (hd_sup hs U) (.tm (hs.slots _ _ U)))) ?_
     refine DrawC.step U U U (Loc.of U fun σ' hs => (by exact R_fieldAddr U (.no U) (hd_sup hs U) (.tm (hs.slots _ _ U)) fl127_0)) ?_
     refine DrawC.step U U U (Loc.of U fun σ' hs => (by exact R_fieldAddr U (.no U) (hd_sup hs U) (.tm (hs.slots _ _ U)) fl100_1)) ?_
     refine DrawC.step U U U (Loc.of U fun σ' hs => (by exact R_load U (.no U) (hd_sup hs U) (.tm (hs.slots _ _ U)) ty3 U U)) ?_
     refine DrawC.step U U U (Loc.ofs U fun σ' hs hf => R_call 2600 (implLetterRelation g hg x.tok.Letter (good_letter hgx h18)) U U (hd_sup hs U) (.cons (.tm (hs.slots _ _ U)) (readA_sup hs U) (.cons (.tm (hs.slots _ _ U)) (readA_sup hs U) .nil)) U (all_fresh hf)) ?_
     refine DrawC.step U U U (Loc.of U fun σ' hs => R_assign U (.no U) (hd_sup hs U) (.tm (hs.slots _ _ U))) ?_
     refine DrawC.fin U U ?_
     refine AWl.nil (AW.ret ?_)
     refine Res.one U (.tmp U .nil) U ?_
     rw [relOf_none (kind_no' hgx (by omega)), if_neg h14, if_pos h18]; rfl
   · skip
     try simp at h18
     refine AW.sr ?_
     refine AWl.p (R_eq U (.no U) U (.tm U) (.const U)) U ?_
     refine AWl.av ?_
     refine AWl.nil ?_
     refine AW.cond (.tm U) (fun h27 => ?_) (fun h27 => ?_)
     · skip
       try simp at h27
       obtain ⟨y, z, hk2, -, hgy, hgz⟩ := kind_two' hgx (by omega)
       have hi0 : (x.kids.map cKid)[(0 : Int).toNat]? = some (cKid y) := by rw [hk2]; rfl
       have hi1 : (x.kids.map cKid)[(1 : Int).toNat]? = some (cKid z) := by rw [hk2]; rfl
       have hry := relOf_len hg y
       have hrz := relOf_len hg z
       have hln : x.kids.length = 2 := by rw [hk2]; rfl
       refine AW.seq ?_
       refine AW.le (σ' := ⟨_, [(0, _), (1, _), (3, _), (4, _), (5, _), (13, _)], [(20001, _)]⟩) (Le.sub0 U ⟨U, U, U, U, U, U, Y⟩ ⟨U, Y⟩) ?_
       refine AW.drawn 18 (nthB [[], [0], [0, 1], [0, 1, 2], [0, 1, 2, 3], [0, 1, 2, 3, 4], [], [0, 1, 2, 3, 4, 5, 6], [], [8], [8, 9], [8, 9, 10], [8, 9, 10, 11], [8, 9, 10, 11, 12], [], [0, 1, 2, 3, 4, 5, 6, 7, 8, 9, 10, 11, 12, 13, 14], [0, 1, 2, 3, 4, 5, 6, 7, 8, 9, 10, 11, 12, 13, 14, 15], [0, 1, 2, 3, 4, 5, 6, 7, 8, 9, 10, 11, 12, 13, 14, 15, 16]]) (by kernel_rfl) (by kernel_rfl) (by kernel_rfl) ?_
       refine DrawC.step U U U (Loc.of U fun σ' hs => R_move U (.no U) (hd_sup hs U) (.tm (hs.slots _ _ U))) ?_
       refine DrawC.step U U U (Loc.of U fun σ' hs => (by exact R_nilCheck U (.no U) (hd_sup hs U) (.tm (hs.slots _ _ U)))) ?_
       refine DrawC.step U U U (Loc.of U fun σ' hs => (by exact R_fieldAddr U (.no U) (hd_sup hs U) (.tm (hs.slots _ _ U)) fl127_1)) ?_
       refine DrawC.step U U U (Loc.of U fun σ' hs => (by exact R_load U (.no U) (hd_sup hs U) (.tm (hs.slots _ _ U)) ty123 U U)) ?_
       refine DrawC.step U U U (Loc.of U fun σ' hs => (by exact R_indexAddr U (.no U) (hd_sup hs U) (.tm (hs.slots _ _ U)) (.const U) Tryz.underlying123 ty91 (fun _ => ⟨by omega, (by exact hi0)⟩))) ?_
       refine DrawC.step U U U (Loc.of U fun σ' hs => (by exact R_load U (.no U) (hd_sup hs U) (.tm (hs.slots _ _ U)) ty91 U U)) ?_
       refine DrawC.step U U U (Loc.of U fun σ' hs => (by exact R_load U (.no U) (hd_sup hs U) (.tm (hs.slots _ _ U)) ty27 U U)) ?_
       refine DrawC.step U U U (Loc.of U fun σ' hs => R_callz (FnT.fr (ih y (by rw [hk2]; simp))) U (.no U) (hd_sup hs U) (.cons (.tm (hs.slots _ _ U)) (readA_sup hs U) (.cons (.tm (hs.slots _ _ U)) (readA_sup hs U) .nil))) ?_
       refine DrawC.step U U U (Loc.of U fun σ' hs => R_move U (.no U) (hd_sup hs U) (.tm (hs.slots _ _ U))) ?_
       refine DrawC.step U U U (Loc.of U fun σ' hs => (by exact R_nilCheck U (.no U) (hd_sup hs U) (.tm (hs.slots _ _ U)))) ?_
       refine DrawC.step U U U (Loc.of U fun σ' hs => (by exact R_fieldAddr U (.no U) (hd_sup hs U) (.tm (hs.slots _ _ U)) fl127_1)) ?_
       refine DrawC.step U U U (Loc.of U fun σ' hs => (by exact R_load U (.no U) (hd_sup hs U) (.tm (hs.slots _ _ U)) ty123 U U)) ?_
       refine DrawC.step U U U (Loc.of U fun σ' hs => (by exact R_indexAddr U (.no U) (hd_sup hs U) (.tm (hs.slots _ _ U)) (.const U) Tryz.underlying123 ty91 (fun _ => ⟨by omega, (by exact hi1)⟩))) ?_
       refine DrawC.step U U U (Loc.of U fun σ' hs => (by exact R_load U (.no U) (hd_sup hs U) (.tm (hs.slots _ _ U)) ty91 U U)) ?_
       refine DrawC.step U U U (Loc.of U fun σ' hs => (by exact R_load U (.no U) (hd_sup hs U) (.tm (hs.slots _ _ U)) ty27 U U)) ?_
       refine DrawC.step U U U (Loc.of U fun σ' hs => R_callz (FnT.fr (ih z (by rw [hk2]; simp))) U (.no U) (hd_sup hs U) (.cons (.tm (hs.slots _ _ U)) (readA_sup hs U) (.cons (.tm (hs.slots _ _ U)) (readA_sup hs U) .nil))) ?_
       refine DrawC.step U U U (Loc.ofs U fun σ' hs hf => R_call 4500 (implComposeRelations (relOf g y) (relOf g z) (by omega) (by omega)) U U (hd_sup hs U) (.cons (.tm (hs.slots _ _ U)) (readA_sup hs U) (.cons (.tm (hs.slots _ _ U)) (readA_sup hs U) .nil)) U (all_fresh hf)) ?_
       refine DrawC.step U U U (Loc.of U fun σ' hs => R_assign U (.no U) (hd_sup hs U) (.tm (hs.slots _ _ U))) ?_
       refine DrawC.fin U U ?_
       refine AWl.nil (AW.ret ?_)
       refine Res.one U (.tmp U .nil) U ?_
       rw [relOf_two hk2, if_pos h27]; rfl
     · skip
       try simp at h27
       refine AW.seq ?_
       refine AW.le (σ' := ⟨_, [(0, _), (1, _), (3, _), (4, _), (5, _), (13, _)], [(20001, _)]⟩) (Le.sub0 U ⟨U, U, U, U, U, U, Y⟩ ⟨U, Y⟩) ?_
       refine AW.region ?_
       refine AWl.p (R_eq U (.no U) U (.tm U) (.const U)) U ?_
       refine AWl.av ?_
       refine AWl.nil ?_
       refine AW.cond (.tm U) (fun h46 => ?_) (fun h46 => ?_)
       · skip
         try simp at h46
         obtain ⟨y, z, hk2, -, hgy, hgz⟩ := kind_two' hgx (by omega)
         have hi0 : (x.kids.map cKid)[(0 : Int).toNat]? = some (cKid y) := by rw [hk2]; rfl
         have hi1 : (x.kids.map cKid)[(1 : Int).toNat]? = some (cKid z) := by rw [hk2]; rfl
         have hry := relOf_len hg y
         have hrz := relOf_len hg z
         have hln : x.kids.length = 2 := by rw [hk2]; rfl
         refine AW.seq ?_
         refine AW.drawn 18 (nthB [[], [0], [0, 1], [0, 1, 2], [0, 1, 2, 3], [0, 1, 2, 3, 4], [], [0, 1, 2, 3, 4, 5, 6], [], [8], [8, 9], [8, 9, 10], [8, 9, 10, 11], [8, 9, 10, 11, 12], [], [0, 1, 2, 3, 4, 5, 6, 7, 8, 9, 10, 11, 12, 13, 14], [0, 1, 2, 3, 4, 5, 6, 7, 8, 9, 10, 11, 12, 13, 14, 15], [0, 1, 2, 3, 4, 5, 6, 7, 8, 9, 10, 11, 12, 13, 14, 15, 16]]) (by kernel_rfl) (by kernel_rfl) (by kernel_rfl) ?_
         refine DrawC.step U U U (Loc.of U fun σ' hs => R_move U (.no U) (hd_sup hs U) (.tm (hs.slots _ _ U))) ?_
         refine DrawC.step U U U (Loc.of U fun σ' hs => (by exact R_nilCheck U (.no U) (hd_sup hs U) (.tm (hs.slots _ _ U)))) ?_
         refine DrawC.step U U U (Loc.of U fun σ' hs => (by exact R_fieldAddr U (.no U) (hd_sup hs U) (.tm (hs.slots _ _ U)) fl127_1)) ?_
         refine DrawC.step U U U (Loc.of U fun σ' hs => (by exact R_load U (.no U) (hd_sup hs U) (.tm (hs.slots _ _ U)) ty123 U U)) ?_
         refine DrawC.step U U U (Loc.of U fun σ' hs => (by exact R_indexAddr U (.no U) (hd_sup hs U) (.tm (hs.slots _ _ U)) (.const U) Tryz.underlying123 ty91 (fun _ => ⟨by omega, (by exact hi0)⟩))) ?_
         refine DrawC.step U U U (Loc.of U fun σ' hs => (by exact R_load U (.no U) (hd_sup hs U) (.tm (hs.slots _ _ U)) ty91 U U)) ?_
         refine DrawC.step U U U (Loc.of U fun σ' hs => (by exact R_load U (.no U) (hd_sup hs U) (.tm (hs.slots _ _ U)) ty27 U U)) ?_
         refine DrawC.step U U U (Loc.of U fun σ' hs => R_callz (FnT.fr (ih y (by rw [hk2]; simp))) U (.no U) (hd_sup hs U) (.cons (.tm (hs.slots _ _ U)) (readA_sup hs U) (.cons (.tm (hs.slots _ _ U)) (readA_sup hs U) .nil))) ?_
         refine DrawC.step U U U (Loc.of U fun σ' hs => R_move U (.no U) (hd_sup hs U) (.tm (hs.slots _ _ U))) ?_
         refine DrawC.step U U U (Loc.of U fun σ' hs => (by exact R_nilCheck U (.no U) (hd_sup hs U) (.tm (hs.slots _ _ U)))) ?_
         refine DrawC.step U U U (Loc.of U fun σ' hs => (by exact R_fieldAddr U (.no U) (hd_sup hs U) (.tm (hs.slots _ _ U)) fl127_1)) ?_
         refine DrawC.step U U U (Loc.of U fun σ' hs => (by exact R_load U (.no U) (hd_sup hs U) (.tm (hs.slots _ _ U)) ty123 U U)) ?_
         refine DrawC.step U U U (Loc.of U fun σ' hs => (by exact R_indexAddr U (.no U) (hd_sup hs U) (.tm (hs.slots _ _ U)) (.const U) Tryz.underlying123 ty91 (fun _ => ⟨by omega, (by exact hi1)⟩))) ?_
         refine DrawC.step U U U (Loc.of U fun σ' hs => (by exact R_load U (.no U) (hd_sup hs U) (.tm (hs.slots _ _ U)) ty91 U U)) ?_
         refine DrawC.step U U U (Loc.of U fun σ' hs => (by exact R_load U (.no U) (hd_sup hs U) (.tm (hs.slots _ _ U)) ty27 U U)) ?_
         refine DrawC.step U U U (Loc.of U fun σ' hs => R_callz (FnT.fr (ih z (by rw [hk2]; simp))) U (.no U) (hd_sup hs U) (.cons (.tm (hs.slots _ _ U)) (readA_sup hs U) (.cons (.tm (hs.slots _ _ U)) (readA_sup hs U) .nil))) ?_
         refine DrawC.step U U U (Loc.ofs U fun σ' hs hf => R_call 6400 (implMergePairs (relOf g y) (relOf g z) (by omega)) U U (hd_sup hs U) (.cons (.tm (hs.slots _ _ U)) (readA_sup hs U) (.cons (.tm (hs.slots _ _ U)) (readA_sup hs U) .nil)) U (all_fresh hf)) ?_
         refine DrawC.step U U U (Loc.of U fun σ' hs => R_assign U (.no U) (hd_sup hs U) (.tm (hs.slots _ _ U))) ?_
         refine DrawC.fin U U ?_
         refine AWl.nil (AW.ret ?_)
         refine Res.one U (.tmp U .nil) U ?_
         rw [relOf_two hk2, if_neg h27]; rfl
       · skip
         try simp at h46
         refine AW.sr ?_
         refine AWl.p (R_eq U (.no U) U (.tm U) (.const U)) U ?_
         refine AWl.av ?_
         refine AWl.nil ?_
         refine AW.cond (.tm U) (fun h65 => ?_) (fun h65 => ?_)
         · skip
           try simp at h65
           obtain ⟨y, hk2, -, hgy⟩ := kind_one' hgx (by omega)
           have hi0 : (x.kids.map cKid)[(0 : Int).toNat]? = some (cKid y) := by rw [hk2]; rfl
           have hln : x.kids.length = 1 := by rw [hk2]; rfl
           have hro := relOf_ok hg y
           refine AW.seq ?_
           refine AW.drawn 11 (nthB [[], [], [1], [1, 2], [1, 2, 3], [1, 2, 3, 4], [1, 2, 3, 4, 5], [], [1, 2, 3, 4, 5, 6, 7], [0, 1, 2, 3, 4, 5, 6, 7, 8], [0, 1, 2, 3, 4, 5, 6, 7, 8, 9]]) (by kernel_rfl) (by kernel_rfl) (by kernel_rfl) ?_
           refine DrawC.step U U U (Loc.of U fun σ' hs => R_move U (.no U) (hd_sup hs U) (.tm (hs.slots _ _ U))) ?_
           refine DrawC.step U U U (Loc.of U fun σ' hs => R_move U (.no U) (hd_sup hs U) (.tm (hs.slots _ _ U))) ?_
           refine DrawC.step U U U (Loc.of U fun σ' hs => (by exact R_nilCheck U (.no U) (hd_sup hs U) (.tm (hs.slots _ _ U)))) ?_
           refine DrawC.step U U U (Loc.of U fun σ' hs => (by exact R_fieldAddr U (.no U) (hd_sup hs U) (.tm (hs.slots _ _ U)) fl127_1)) ?_
           refine DrawC.step U U U (Loc.of U fun σ' hs => (by exact R_load U (.no U) (hd_sup hs U) (.tm (hs.slots _ _ U)) ty123 U U)) ?_
           refine DrawC.step U U U (Loc.of U fun σ' hs => (by exact R_indexAddr U (.no U) (hd_sup hs U) (.tm (hs.slots _ _ U)) (.const U) Tryz.underlying123 ty91 (fun _ => ⟨by omega, (by exact hi0)⟩))) ?_
           refine DrawC.step U U U (Loc.of U fun σ' hs => (by exact R_load U (.no U) (hd_sup hs U) (.tm (hs.slots _ _ U)) ty91 U U)) ?_
           refine DrawC.step U U U (Loc.of U fun σ' hs => (by exact R_load U (.no U) (hd_sup hs U) (.tm (hs.slots _ _ U)) ty27 U U)) ?_
           refine DrawC.step U U U (Loc.of U fun σ' hs => R_callz (FnT.fr (ih y (by rw [hk2]; simp))) U (.no U) (hd_sup hs U) (.cons (.tm (hs.slots _ _ U)) (readA_sup hs U) (.cons (.tm (hs.slots _ _ U)) (readA_sup hs U) .nil))) ?_
           refine DrawC.step U U U (Loc.ofs U fun σ' hs hf => R_call 7600 (implClosureRelation g.Values.length ⟨hG.1, hG.2.1⟩ (relOf g y) hro.1 hro.2) U U (hd_sup hs U) (.cons (.tm (hs.slots _ _ U)) (readA_sup hs U) (.cons (.tm (hs.slots _ _ U)) (readA_sup hs U) .nil)) U (all_fresh hf)) ?_
           refine DrawC.step U U U (Loc.of U fun σ' hs => R_assign U (.no U) (hd_sup hs U) (.tm (hs.slots _ _ U))) ?_
           refine DrawC.fin U U ?_
           refine AWl.nil (AW.ret ?_)
           refine Res.one U (.tmp U .nil) U ?_
           rw [relOf_one hk2, if_pos h65]; rfl
         · skip
           try simp at h65
           refine AW.sr ?_
           refine AWl.p (R_eq U (.no U) U (.tm U) (.const U)) U ?_
           refine AWl.av ?_
           refine AWl.nil ?_
           refine AW.cond (.tm U) (fun h77 => ?_) (fun h77 => ?_)
           · skip
             try simp at h77
             obtain ⟨y, hk2, -, hgy⟩ := kind_one' hgx (by omega)
             have hi0 : (x.kids.map cKid)[(0 : Int).toNat]? = some (cKid y) := by rw [hk2]; rfl
             have hln : x.kids.length = 1 := by rw [hk2]; rfl
             have hro := relOf_ok hg y
             refine AW.seq ?_
             refine AW.le (σ' := ⟨_, [(0, _), (1, _), (3, _), (4, _), (5, _), (13, _)], [(20001, _)]⟩) (Le.sub0 U ⟨U, U, U, U, U, U, Y⟩ ⟨U, Y⟩) ?_
             refine AW.drawn 21 (nthB [[], [], [1], [1, 2], [1, 2, 3], [1, 2, 3, 4], [1, 2, 3, 4, 5], [], [1, 2, 3, 4, 5, 6, 7], [], [9], [9, 10], [9, 10, 11], [9, 10, 11, 12], [], [14], [14, 15], [14, 15, 16], [14, 15, 16, 17], [0, 1, 2, 3, 4, 5, 6, 7, 8, 9, 10, 11, 12, 13, 14, 15, 16, 17, 18], [0, 1, 2, 3, 4, 5, 6, 7, 8, 9, 10, 11, 12, 13, 14, 15, 16, 17, 18, 19]]) (by kernel_rfl) (by kernel_rfl) (by kernel_rfl) ?_
             refine DrawC.step U U U (Loc.of U fun σ' hs => R_move U (.no U) (hd_sup hs U) (.tm (hs.slots _ _ U))) ?_
             refine DrawC.step U U U (Loc.of U fun σ' hs => R_move U (.no U) (hd_sup hs U) (.tm (hs.slots _ _ U))) ?_
             refine DrawC.step U U U (Loc.of U fun σ' hs => (by exact R_nilCheck U (.no U) (hd_sup hs U) (.tm (hs.slots _ _ U)))) ?_
             refine DrawC.step U U U (Loc.of U fun σ' hs => (by exact R_fieldAddr U (.no U) (hd_sup hs U) (.tm (hs.slots _ _ U)) fl127_1)) ?_
             refine DrawC.step U U U (Loc.of U fun σ' hs => (by exact R_load U (.no U) (hd_sup hs U) (.tm (hs.slots _ _ U)) ty123 U U)) ?_
             refine DrawC.step U U U (Loc.of U fun σ' hs => (by exact R_indexAddr U (.no U) (hd_sup hs U) (.tm (hs.slots _ _ U)) (.const U) Tryz.underlying123 ty91 (fun _ => ⟨by omega, (by exact hi0)⟩))) ?_
             refine DrawC.step U U U (Loc.of U fun σ' hs => (by exact R_load U (.no U) (hd_sup hs U) (.tm (hs.slots _ _ U)) ty91 U U)) ?_
             refine DrawC.step U U U (Loc.of U fun σ' hs => (by exact R_load U (.no U) (hd_sup hs U) (.tm (hs.slots _ _ U)) ty27 U U)) ?_
             refine DrawC.step U U U (Loc.of U fun σ' hs => R_callz (FnT.fr (ih y (by rw [hk2]; simp))) U (.no U) (hd_sup hs U) (.cons (.tm (hs.slots _ _ U)) (readA_sup hs U) (.cons (.tm (hs.slots _ _ U)) (readA_sup hs U) .nil))) ?_
             refine DrawC.step U U U (Loc.of U fun σ' hs => R_move U (.no U) (hd_sup hs U) (.tm (hs.slots _ _ U))) ?_
             refine DrawC.step U U U (Loc.of U fun σ' hs => (by exact R_nilCheck U (.no U) (hd_sup hs U) (.tm (hs.slots _ _ U)))) ?_
             refine DrawC.step U U U (Loc.of U fun σ' hs => (by exact R_fieldAddr U (.no U) (hd_sup hs U) (.tm (hs.slots _ _ U)) fl127_0)) ?_
             refine DrawC.step U U U (Loc.of U fun σ' hs => (by exact R_fieldAddr U (.no U) (hd_sup hs U) (.tm (hs.slots _ _ U)) fl100_2)) ?_
             refine DrawC.step U U U (Loc.of U fun σ' hs => (by exact R_load U (.no U) (hd_sup hs U) (.tm (hs.slots _ _ U)) ty3 U U)) ?_
             refine DrawC.step U U U (Loc.of U fun σ' hs => R_move U (.no U) (hd_sup hs U) (.tm (hs.slots _ _ U))) ?_
             refine DrawC.step U U U (Loc.of U fun σ' hs => (by exact R_nilCheck U (.no U) (hd_sup hs U) (.tm (hs.slots _ _ U)))) ?_
             refine DrawC.step U U U (Loc.of U fun σ' hs => (by exact R_fieldAddr U (.no U) (hd_sup hs U) (.tm (hs.slots _ _ U)) fl127_0)) ?_
             refine DrawC.step U U U (Loc.of U fun σ' hs => (by exact R_fieldAddr U (.no U) (hd_sup hs U) (.tm (hs.slots _ _ U)) fl100_3)) ?_
             refine DrawC.step U U U (Loc.of U fun σ' hs => (by exact R_load U (.no U) (hd_sup hs U) (.tm (hs.slots _ _ U)) ty3 U U)) ?_
             refine DrawC.step U U U (Loc.ofs U fun σ' hs hf => R_call 9800 (implPowerRelation g.Values.length ⟨hG.1, hG.2.1⟩ (relOf g y) hro.1 hro.2 x.tok.Low x.tok.High hlow (good_high hgx h77)) U U (hd_sup hs U) (.cons (.tm (hs.slots _ _ U)) (readA_sup hs U) (.cons (.tm (hs.slots _ _ U)) (readA_sup hs U) (.cons (.tm (hs.slots _ _ U)) (readA_sup hs U) (.cons (.tm (hs.slots _ _ U)) (readA_sup hs U) .nil)))) U (all_fresh hf)) ?_
             refine DrawC.step U U U (Loc.of U fun σ' hs => R_assign U (.no U) (hd_sup hs U) (.tm (hs.slots _ _ U))) ?_
             refine DrawC.fin U U ?_
             refine AWl.nil (AW.ret ?_)
             refine Res.one U (.tmp U .nil) U ?_
             rw [relOf_one hk2, if_neg h65]; rfl
           · skip
             try simp at h77
             refine AW.skip ?_
             refine AW.seq ?_
             refine AW.le (σ' := ⟨_, [(0, _), (1, _), (3, _), (4, _), (5, _), (13, _)], [(20001, _)]⟩) (Le.sub0 U ⟨U, U, U, U, U, U, Y⟩ ⟨U, Y⟩) ?_
             refine AW.region ?_
             refine AWl.add (R_empty 99 U U U Tryz.underlying58 ty63 U) U ?_
             refine AWl.av ?_
             refine AWl.nil (AW.ret ?_)
             refine Res.one U (.tmp U .nil) U ?_
             rw [relOf_none (kind_no' hgx (by omega)), if_neg h14, if_neg h18]; rfl
theorem implrelation (g : TGraph) (hg : validG g = true) : ∀ x : Tr, good x → FnT Tryz.prog 69 [.one (.ad (treeCells x)), .agg (cGraph g)] (.a (.one (.sl 2 ((relOf g x).map cPair)))) :=
 Tr.ind fun x ih hgx => implrelation1 g hg x hgx fun y hy => ih y hy (good_kids hgx y hy)
theorem specl16Eval1 (g : TGraph) (hg : validG g = true) (x : Tr) (hgx : good x) (hz : (toks x).length ≤ 1048576) (ih : ∀ y ∈ x.kids, ∀ L, L = (toks y).map cToken → FnT Tryz.prog 48 [.agg (cGraph g), .one (.sl 4 L)] (.a (.one (.sl 2 ((relOf g y).map cPair))))) : FnT Tryz.prog 48 [.agg (cGraph g), .one (.sl 4 ((toks x).map cToken))] (.a (.one (.sl 2 ((relOf g x).map cPair)))) := by
 refine FnT.walk Tryz.func48 U (by kernel_rfl) Tryz.ntmps48 U fun hlen w0 => ?_
 try simp [cPair, cToken, cExpr, cEdge, cGraph] at hlen
 clear hlen; obtain ⟨hlow, hlow3, -⟩ := good_cases hgx; have hG := validG_len hg; have hlast := tok_last x; have hpos := toks_pos x
 refine AW.sr ?_
 refine AWl.p (R_boxz U U U (.tm U) (ts := _) (by rfl)) U ?_
 refine AWl.ac ?_
 refine AWl.nilS (i := 4) 20001 2 U U ?_
 refine AWl.nil (AW.sr ?_)
 refine AWl.mv ?_
 refine AWl.p (by exact R_lenm U (.no U) U (.tm U) (by exact .t) Tryz.underlying28) U ?_
 refine AWl.p (R_sub U (.no U) U (.tm U) (.const U) (fun _ => by omega)) U ?_
 refine AWl.av ?_
 refine AWl.nil (AW.sr ?_)
 refine AWl.mv ?_
 refine AWl.mv ?_
 refine AWl.p (by exact R_indexAddr U (.no U) U (.tm U) (.tm U) Tryz.underlying28 ty100 (fun _ => ⟨by omega, map_get hlast⟩)) U ?_
 refine AWl.p (by exact R_load U (.no U) U (.tm U) ty100 U U) U ?_
 refine AWl.add (R_alloc 6 U U U in100 U U U) U ?_
 refine AWl.chgb (R_store_pb U U U (.tm U) (.tm U) U ty100 U U U (by kernel_rfl) U) ?_
 refine AWl.nil (AW.seq ?_)
 refine AW.seq ?_
 refine AW.le (σ' := ⟨_, [(0, _), (1, _), (2, _), (4, _), (5, _), (6, _)], [(20001, _), (6, _)]⟩) (Le.sub0 U ⟨U, U, U, U, U, U, Y⟩ ⟨U, U, Y⟩) ?_
 refine AW.region ?_
 refine AWl.p (by exact R_fieldAddr_pp U (.no U) U (.tm U) fl100_0) U ?_
 refine AWl.p (by exact R_load_pp U (.no U) U (.tm U) U ty3 U U) U ?_
 refine AWl.nil (AW.block ?_)
 refine AW.sr ?_
 refine AWl.p (R_eq U (.no U) U (.tm U) (.const U)) U ?_
 refine AWl.av ?_
 refine AWl.nil ?_
 refine AW.cond (.tm U) (fun h18 => ?_) (fun h18 => ?_)
 · skip
   try simp at h18
   refine AW.sr ?_
   refine AWl.p (by exact R_fieldAddr U (.no U) U (.tm U) fl27_0) U ?_
   refine AWl.p (by exact R_load U (.no U) U (.tm U) ty24 U U) U ?_
   refine AWl.p (by exact R_lenm U (.no U) U (.tm U) (by exact .t) Tryz.underlying24) U ?_
   refine AWl.adds (R_call 2300 (specIdentityRelation g.Values.length hG.2.1) U U U (.cons (.tm U) U .nil) U U) U ?_
   refine AWl.av ?_
   refine AWl.nil (AW.ret ?_)
   refine Res.one U (.tmp U .nil) U ?_
   rw [relOf_none (kind_no' hgx (by omega)), if_pos h18]; rfl
 · skip
   try simp at h18
   refine AW.sr ?_
   refine AWl.p (R_eq U (.no U) U (.tm U) (.const U)) U ?_
   refine AWl.av ?_
   refine AWl.nil ?_
   refine AW.cond (.tm U) (fun h24 => ?_) (fun h24 => ?_)
   · skip
     try simp at h24
     refine AW.sr ?_
     refine AWl.p (by exact R_load U (.no U) U (.tm U) ty27 U U) U ?_
     refine AWl.p (by exact R_fieldAddr_pp U (.no U) U (.tm U) fl100_1) U ?_
     refine AWl.p (by exact R_load_pp U (.no U) U (.tm U) U ty3 U U) U ?_
     refine AWl.adds (R_call 2900 (specLetterRelation g hg x.tok.Letter (good_letter hgx h24)) U U U (.cons (.tm U) U (.cons (.tm U) U .nil)) U U) U ?_
     refine AWl.av ?_
     refine AWl.nil (AW.ret ?_)
     refine Res.one U (.tmp U .nil) U ?_
     rw [relOf_none (kind_no' hgx (by omega)), if_neg h18, if_pos h24]; rfl
   · skip
     try simp at h24
     refine AW.sr ?_
     refine AWl.p (R_eq U (.no U) U (.tm U) (.const U)) U ?_
     refine AWl.av ?_
     refine AWl.nil ?_
     refine AW.cond (.tm U) (fun h30 => ?_) (fun h30 => ?_)
     · skip
       try simp at h30
       obtain ⟨y, z, hk2, hte, hgy, hgz⟩ := kind_two' hgx (by omega)
       have hln : (toks x).length = (toks y).length + (toks z).length + 1 := by rw [hte]; simp; omega
       have hry := relOf_len hg y
       have hrz := relOf_len hg z
       refine AW.seq ?_
       refine AW.le (σ' := ⟨_, [(0, _), (1, _), (2, _), (4, _), (5, _), (6, _), (17, _)], [(20001, _), (6, _)]⟩) (Le.sub0 U ⟨U, U, U, U, U, U, U, Y⟩ ⟨U, U, Y⟩) ?_
       refine AW.region ?_
       refine AWl.mv ?_
       refine AWl.mv ?_
       refine AWl.p (R_slice (m := (toks y).length + (toks z).length) U (.no U) U (.tm U) .no (.yes (.tm U) (fun _ => by first | omega | (simp <;> omega))) Tryz.underlying28 ty100 (fun _ => ⟨by omega, by first | omega | (simp; omega)⟩)) U ?_
       refine AWl.p (R_callz (FnT.fr (l8Start_at hgz (pre := toks y) (by simp; omega) _ (sl_pre2 hte))) U (.no U) U (.cons (.tm U) U .nil)) U ?_
       refine AWl.av ?_
       refine AWl.nil (AW.seq ?_)
       refine AW.drawn 13 (nthB [[], [], [], [1, 2], [0, 1, 2, 3], [], [], [], [], [6, 7, 8], [0, 1, 2, 3, 4, 5, 6, 7, 8, 9], [0, 1, 2, 3, 4, 5, 6, 7, 8, 9, 10], [0, 1, 2, 3, 4, 5, 6, 7, 8, 9, 10, 11]]) (by kernel_rfl) (by kernel_rfl) (by kernel_rfl) ?_
       refine DrawC.step U U U (Loc.of U fun σ' hs => (by exact R_load U (.no U) (hd_sup hs U) (.tm (hs.slots _ _ U)) ty27 U U)) ?_
       refine DrawC.step U U U (Loc.of U fun σ' hs => R_move U (.no U) (hd_sup hs U) (.tm (hs.slots _ _ U))) ?_
       refine DrawC.step U U U (Loc.of U fun σ' hs => R_move U (.no U) (hd_sup hs U) (.tm (hs.slots _ _ U))) ?_
       refine DrawC.step U U U (Loc.of U fun σ' hs => R_slice (m := (toks y).length) U (.no U) (hd_sup hs U) (.tm (hs.slots _ _ U)) .no (.yes (.tm (hs.slots _ _ U)) (fun _ => by first | omega | (simp <;> omega))) Tryz.underlying28 ty100 (fun _ => ⟨by omega, by first | omega | (simp; omega)⟩)) ?_
       refine DrawC.step U U U (Loc.of U fun σ' hs => R_callz (FnT.fr (ih y (by rw [hk2]; simp) _ (sl_pre (by rw [hte, List.append_assoc])))) U (.no U) (hd_sup hs U) (.cons (.tm (hs.slots _ _ U)) (readA_sup hs U) (.cons (.tm (hs.slots _ _ U)) (readA_sup hs U) .nil))) ?_
       refine DrawC.step U U U (Loc.of U fun σ' hs => (by exact R_load U (.no U) (hd_sup hs U) (.tm (hs.slots _ _ U)) ty27 U U)) ?_
       refine DrawC.step U U U (Loc.of U fun σ' hs => R_move U (.no U) (hd_sup hs U) (.tm (hs.slots _ _ U))) ?_
       refine DrawC.step U U U (Loc.of U fun σ' hs => R_move U (.no U) (hd_sup hs U) (.tm (hs.slots _ _ U))) ?_
       refine DrawC.step U U U (Loc.of U fun σ' hs => R_move U (.no U) (hd_sup hs U) (.tm (hs.slots _ _ U))) ?_
       refine DrawC.step U U U (Loc.of U fun σ' hs => R_slice (n := (toks y).length) (m := (toks y).length + (toks z).length) U (.no U) (hd_sup hs U) (.tm (hs.slots _ _ U)) (.yes (.tm (hs.slots _ _ U)) (fun _ => by first | omega | (simp <;> omega))) (.yes (.tm (hs.slots _ _ U)) (fun _ => by first | omega | (simp <;> omega))) Tryz.underlying28 ty100 (fun _ => ⟨by omega, by first | omega | (simp; omega)⟩)) ?_
       refine DrawC.step U U U (Loc.of U fun σ' hs => R_callz (FnT.fr (ih z (by rw [hk2]; simp) _ (sl_mid hte))) U (.no U) (hd_sup hs U) (.cons (.tm (hs.slots _ _ U)) (readA_sup hs U) (.cons (.tm (hs.slots _ _ U)) (readA_sup hs U) .nil))) ?_
       refine DrawC.step U U U (Loc.ofs U fun σ' hs hf => R_call 4700 (specComposeRelations (relOf g y) (relOf g z) (by omega) (by omega)) U U (hd_sup hs U) (.cons (.tm (hs.slots _ _ U)) (readA_sup hs U) (.cons (.tm (hs.slots _ _ U)) (readA_sup hs U) .nil)) U (all_fresh hf)) ?_
       refine DrawC.step U U U (Loc.of U fun σ' hs => R_assign U (.no U) (hd_sup hs U) (.tm (hs.slots _ _ U))) ?_
       refine DrawC.fin U U ?_
       refine AWl.nil (AW.ret ?_)
       refine Res.one U (.tmp U .nil) U ?_
       rw [relOf_two hk2, if_pos h30]; rfl
     · skip
       try simp at h30
       refine AW.seq ?_
       refine AW.le (σ' := ⟨_, [(0, _), (1, _), (2, _), (4, _), (5, _), (6, _), (17, _)], [(20001, _), (6, _)]⟩) (Le.sub0 U ⟨U, U, U, U, U, U, U, Y⟩ ⟨U, U, Y⟩) ?_
       refine AW.region ?_
       refine AWl.p (R_eq U (.no U) U (.tm U) (.const U)) U ?_
       refine AWl.av ?_
       refine AWl.nil ?_
       refine AW.cond (.tm U) (fun h48 => ?_) (fun h48 => ?_)
       · skip
         try simp at h48
         obtain ⟨y, z, hk2, hte, hgy, hgz⟩ := kind_two' hgx (by omega)
         have hln : (toks x).length = (toks y).length + (toks z).length + 1 := by rw [hte]; simp; omega
         have hry := relOf_len hg y
         have hrz := relOf_len hg z
         refine AW.sr ?_
         refine AWl.mv ?_
         refine AWl.mv ?_
         refine AWl.p (R_slice (m := (toks y).length + (toks z).length) U (.no U) U (.tm U) .no (.yes (.tm U) (fun _ => by first | omega | (simp <;> omega))) Tryz.underlying28 ty100 (fun _ => ⟨by omega, by first | omega | (simp; omega)⟩)) U ?_
         refine AWl.p (R_callz (FnT.fr (l8Start_at hgz (pre := toks y) (by simp; omega) _ (sl_pre2 hte))) U (.no U) U (.cons (.tm U) U .nil)) U ?_
         refine AWl.av ?_
         refine AWl.nil (AW.seq ?_)
         refine AW.le (σ' := ⟨_, [(0, _), (1, _), (2, _), (4, _), (5, _), (6, _), (8, _), (17, _)], [(20001, _), (6, _)]⟩) (Le.sub0 U ⟨U, U, U, U, U, U, U, U, Y⟩ ⟨U, U, Y⟩) ?_
         refine AW.drawn 13 (nthB [[], [], [], [1, 2], [0, 1, 2, 3], [], [], [], [], [6, 7, 8], [0, 1, 2, 3, 4, 5, 6, 7, 8, 9], [0, 1, 2, 3, 4, 5, 6, 7, 8, 9, 10], [0, 1, 2, 3, 4, 5, 6, 7, 8, 9, 10, 11]]) (by kernel_rfl) (by kernel_rfl) (by kernel_rfl) ?_
         refine DrawC.step U U U (Loc.of U fun σ' hs => (by exact R_load U (.no U) (hd_sup hs U) (.tm (hs.slots _ _ U)) ty27 U U)) ?_
         refine DrawC.step U U U (Loc.of U fun σ' hs => R_move U (.no U) (hd_sup hs U) (.tm (hs.slots _ _ U))) ?_
         refine DrawC.step U U U (Loc.of U fun σ' hs => R_move U (.no U) (hd_sup hs U) (.tm (hs.slots _ _ U))) ?_
         refine DrawC.step U U U (Loc.of U fun σ' hs => R_slice (m := (toks y).length) U (.no U) (hd_sup hs U) (.tm (hs.slots _ _ U)) .no (.yes (.tm (hs.slots _ _ U)) (fun _ => by first | omega | (simp <;> omega))) Tryz.underlying28 ty100 (fun _ => ⟨by omega, by first | omega | (simp; omega)⟩)) ?_
         refine DrawC.step U U U (Loc.of U fun σ' hs => R_callz (FnT.fr (ih y (by rw [hk2]; simp) _ (sl_pre (by rw [hte, List.append_assoc])))) U (.no U) (hd_sup hs U) (.cons (.tm (hs.slots _ _ U)) (readA_sup hs U) (.cons (.tm (hs.slots _ _ U)) (readA_sup hs U) .nil))) ?_
         refine DrawC.step U U U (Loc.of U fun σ' hs => (by exact R_load U (.no U) (hd_sup hs U) (.tm (hs.slots _ _ U)) ty27 U U)) ?_
         refine DrawC.step U U U (Loc.of U fun σ' hs => R_move U (.no U) (hd_sup hs U) (.tm (hs.slots _ _ U))) ?_
         refine DrawC.step U U U (Loc.of U fun σ' hs => R_move U (.no U) (hd_sup hs U) (.tm (hs.slots _ _ U))) ?_
         refine DrawC.step U U U (Loc.of U fun σ' hs => R_move U (.no U) (hd_sup hs U) (.tm (hs.slots _ _ U))) ?_
         refine DrawC.step U U U (Loc.of U fun σ' hs => R_slice (n := (toks y).length) (m := (toks y).length + (toks z).length) U (.no U) (hd_sup hs U) (.tm (hs.slots _ _ U)) (.yes (.tm (hs.slots _ _ U)) (fun _ => by first | omega | (simp <;> omega))) (.yes (.tm (hs.slots _ _ U)) (fun _ => by first | omega | (simp <;> omega))) Tryz.underlying28 ty100 (fun _ => ⟨by omega, by first | omega | (simp; omega)⟩)) ?_
         refine DrawC.step U U U (Loc.of U fun σ' hs => R_callz (FnT.fr (ih z (by rw [hk2]; simp) _ (sl_mid hte))) U (.no U) (hd_sup hs U) (.cons (.tm (hs.slots _ _ U)) (readA_sup hs U) (.cons (.tm (hs.slots _ _ U)) (readA_sup hs U) .nil))) ?_
         refine DrawC.step U U U (Loc.ofs U fun σ' hs hf => R_call 6500 (specMergePairs (relOf g y) (relOf g z) (by omega)) U U (hd_sup hs U) (.cons (.tm (hs.slots _ _ U)) (readA_sup hs U) (.cons (.tm (hs.slots _ _ U)) (readA_sup hs U) .nil)) U (all_fresh hf)) ?_
         refine DrawC.step U U U (Loc.of U fun σ' hs => R_assign U (.no U) (hd_sup hs U) (.tm (hs.slots _ _ U))) ?_
         refine DrawC.fin U U ?_
         refine AWl.nil (AW.ret ?_)
         refine Res.one U (.tmp U .nil) U ?_
         rw [relOf_two hk2, if_neg h30]; rfl
       · skip
         try simp at h48
         refine AW.sr ?_
         refine AWl.p (R_eq U (.no U) U (.tm U) (.const U)) U ?_
         refine AWl.av ?_
         refine AWl.nil ?_
         refine AW.cond (.tm U) (fun h66 => ?_) (fun h66 => ?_)
         · skip
           try simp at h66
           obtain ⟨y, hk2, hte, hgy⟩ := kind_one' hgx (by omega)
           have hln : (toks x).length = (toks y).length + 1 := by rw [hte]; simp
           have hro := relOf_ok hg y
           refine AW.seq ?_
           refine AW.drawn 10 (nthB [[], [0], [0, 1], [], [], [], [4, 5], [3, 4, 5, 6], [0, 1, 2, 3, 4, 5, 6, 7], [0, 1, 2, 3, 4, 5, 6, 7, 8]]) (by kernel_rfl) (by kernel_rfl) (by kernel_rfl) ?_
           refine DrawC.step U U U (Loc.of U fun σ' hs => (by exact R_fieldAddr U (.no U) (hd_sup hs U) (.tm (hs.slots _ _ U)) fl27_0)) ?_
           refine DrawC.step U U U (Loc.of U fun σ' hs => (by exact R_load U (.no U) (hd_sup hs U) (.tm (hs.slots _ _ U)) ty24 U U)) ?_
           refine DrawC.step U U U (Loc.of U fun σ' hs => (by exact R_lenm U (.no U) (hd_sup hs U) (.tm (hs.slots _ _ U)) (by exact .t) Tryz.underlying24)) ?_
           refine DrawC.step U U U (Loc.of U fun σ' hs => (by exact R_load U (.no U) (hd_sup hs U) (.tm (hs.slots _ _ U)) ty27 U U)) ?_
           refine DrawC.step U U U (Loc.of U fun σ' hs => R_move U (.no U) (hd_sup hs U) (.tm (hs.slots _ _ U))) ?_
           refine DrawC.step U U U (Loc.of U fun σ' hs => R_move U (.no U) (hd_sup hs U) (.tm (hs.slots _ _ U))) ?_
           refine DrawC.step U U U (Loc.of U fun σ' hs => R_slice (m := (toks y).length) U (.no U) (hd_sup hs U) (.tm (hs.slots _ _ U)) .no (.yes (.tm (hs.slots _ _ U)) (fun _ => by first | omega | (simp <;> omega))) Tryz.underlying28 ty100 (fun _ => ⟨by omega, by first | omega | (simp; omega)⟩)) ?_
           refine DrawC.step U U U (Loc.of U fun σ' hs => R_callz (FnT.fr (ih y (by rw [hk2]; simp) _ (sl_pre hte))) U (.no U) (hd_sup hs U) (.cons (.tm (hs.slots _ _ U)) (readA_sup hs U) (.cons (.tm (hs.slots _ _ U)) (readA_sup hs U) .nil))) ?_
           refine DrawC.step U U U (Loc.ofs U fun σ' hs hf => R_call 7600 (specClosureRelation g.Values.length ⟨hG.1, hG.2.1⟩ (relOf g y) hro.1 hro.2) U U (hd_sup hs U) (.cons (.tm (hs.slots _ _ U)) (readA_sup hs U) (.cons (.tm (hs.slots _ _ U)) (readA_sup hs U) .nil)) U (all_fresh hf)) ?_
           refine DrawC.step U U U (Loc.of U fun σ' hs => R_assign U (.no U) (hd_sup hs U) (.tm (hs.slots _ _ U))) ?_
           refine DrawC.fin U U ?_
           refine AWl.nil (AW.ret ?_)
           refine Res.one U (.tmp U .nil) U ?_
           rw [relOf_one hk2, if_pos h66]; rfl
         · skip
           try simp at h66
           refine AW.sr ?_
           refine AWl.p (R_eq U (.no U) U (.tm U) (.const U)) U ?_
           refine AWl.av ?_
           refine AWl.nil ?_
           refine AW.cond (.tm U) (fun h77 => ?_) (fun h77 => ?_)
           · skip
             try simp at h77
             obtain ⟨y, hk2, hte, hgy⟩ := kind_one' hgx (by omega)
             have hln : (toks x).length = (toks y).length + 1 := by rw [hte]; simp
             have hro := relOf_ok hg y
             refine AW.seq ?_
             refine AW.le (σ' := ⟨_, [(0, _), (1, _), (2, _), (4, _), (5, _), (6, _), (17, _)], [(20001, _), (6, _)]⟩) (Le.sub0 U ⟨U, U, U, U, U, U, U, Y⟩ ⟨U, U, Y⟩) ?_
             refine AW.drawn 14 (nthB [[], [0], [0, 1], [], [], [], [4, 5], [3, 4, 5, 6], [], [8], [], [10], [0, 1, 2, 3, 4, 5, 6, 7, 8, 9, 10, 11], [0, 1, 2, 3, 4, 5, 6, 7, 8, 9, 10, 11, 12]]) (by kernel_rfl) (by kernel_rfl) (by kernel_rfl) ?_
             refine DrawC.step U U U (Loc.of U fun σ' hs => (by exact R_fieldAddr U (.no U) (hd_sup hs U) (.tm (hs.slots _ _ U)) fl27_0)) ?_
             refine DrawC.step U U U (Loc.of U fun σ' hs => (by exact R_load U (.no U) (hd_sup hs U) (.tm (hs.slots _ _ U)) ty24 U U)) ?_
             refine DrawC.step U U U (Loc.of U fun σ' hs => (by exact R_lenm U (.no U) (hd_sup hs U) (.tm (hs.slots _ _ U)) (by exact .t) Tryz.underlying24)) ?_
             refine DrawC.step U U U (Loc.of U fun σ' hs => (by exact R_load U (.no U) (hd_sup hs U) (.tm (hs.slots _ _ U)) ty27 U U)) ?_
             refine DrawC.step U U U (Loc.of U fun σ' hs => R_move U (.no U) (hd_sup hs U) (.tm (hs.slots _ _ U))) ?_
             refine DrawC.step U U U (Loc.of U fun σ' hs => R_move U (.no U) (hd_sup hs U) (.tm (hs.slots _ _ U))) ?_
             refine DrawC.step U U U (Loc.of U fun σ' hs => R_slice (m := (toks y).length) U (.no U) (hd_sup hs U) (.tm (hs.slots _ _ U)) .no (.yes (.tm (hs.slots _ _ U)) (fun _ => by first | omega | (simp <;> omega))) Tryz.underlying28 ty100 (fun _ => ⟨by omega, by first | omega | (simp; omega)⟩)) ?_
             refine DrawC.step U U U (Loc.of U fun σ' hs => R_callz (FnT.fr (ih y (by rw [hk2]; simp) _ (sl_pre hte))) U (.no U) (hd_sup hs U) (.cons (.tm (hs.slots _ _ U)) (readA_sup hs U) (.cons (.tm (hs.slots _ _ U)) (readA_sup hs U) .nil))) ?_
             refine DrawC.step U U U (Loc.of U fun σ' hs => (by exact R_fieldAddr_pp U (.no U) (hd_sup hs U) (.tm (hs.slots _ _ U)) fl100_2)) ?_
             refine DrawC.step U U U (Loc.of U fun σ' hs => (by exact R_load_pp U (.no U) (hd_sup hs U) (.tm (hs.slots _ _ U)) (hs.res _ _ U) ty3 U U)) ?_
             refine DrawC.step U U U (Loc.of U fun σ' hs => (by exact R_fieldAddr_pp U (.no U) (hd_sup hs U) (.tm (hs.slots _ _ U)) fl100_3)) ?_
             refine DrawC.step U U U (Loc.of U fun σ' hs => (by exact R_load_pp U (.no U) (hd_sup hs U) (.tm (hs.slots _ _ U)) (hs.res _ _ U) ty3 U U)) ?_
             refine DrawC.step U U U (Loc.ofs U fun σ' hs hf => R_call 9100 (specPowerRelation g.Values.length ⟨hG.1, hG.2.1⟩ (relOf g y) hro.1 hro.2 x.tok.Low x.tok.High hlow (good_high hgx h77)) U U (hd_sup hs U) (.cons (.tm (hs.slots _ _ U)) (readA_sup hs U) (.cons (.tm (hs.slots _ _ U)) (readA_sup hs U) (.cons (.tm (hs.slots _ _ U)) (readA_sup hs U) (.cons (.tm (hs.slots _ _ U)) (readA_sup hs U) .nil)))) U (all_fresh hf)) ?_
             refine DrawC.step U U U (Loc.of U fun σ' hs => R_assign U (.no U) (hd_sup hs U) (.tm (hs.slots _ _ U))) ?_
             refine DrawC.fin U U ?_
             refine AWl.nil (AW.ret ?_)
             refine Res.one U (.tmp U .nil) U ?_
             rw [relOf_one hk2, if_neg h66]; rfl
           · skip
             try simp at h77
             refine AW.skip ?_
             refine AW.seq ?_
             refine AW.le (σ' := ⟨_, [(0, _), (1, _), (2, _), (4, _), (5, _), (6, _), (17, _)], [(20001, _), (6, _)]⟩) (Le.sub0 U ⟨U, U, U, U, U, U, U, Y⟩ ⟨U, U, Y⟩) ?_
             refine AW.region ?_
             refine AWl.add (R_empty 92 U U U Tryz.underlying58 ty63 U) U ?_
             refine AWl.av ?_
             refine AWl.nil (AW.ret ?_)
             refine Res.one U (.tmp U .nil) U ?_
             rw [relOf_none (kind_no' hgx (by omega)), if_neg h18, if_neg h24]; rfl
theorem specl16Eval' (g : TGraph) (hg : validG g = true) : ∀ x : Tr, good x → (toks x).length ≤ 1048576 → ∀ L, L = (toks x).map cToken → FnT Tryz.prog 48 [.agg (cGraph g), .one (.sl 4 L)] (.a (.one (.sl 2 ((relOf g x).map cPair)))) :=
 Tr.ind fun x ih hgx hz L hL => by subst hL; exact specl16Eval1 g hg x hgx hz fun y hy L hL => ih y hy (good_kids hgx y hy) (by have := kids_toks hy; omega) L hL
theorem specl16Eval (g : TGraph) (hg : validG g = true) (e : TExpr) (he : isValidExpr e = true) : FnT Tryz.prog 48 [.agg (cGraph g), .one (.sl 4 (e.Tokens.map cToken))] (.a (.one (.sl 2 ((evalE g e).1.map cPair)))) := by
 obtain ⟨x, hx, htk, hgx, hl⟩ := valid_tree he
 rw [evalE_some hg he hx]
 exact specl16Eval' g hg x hgx (by rw [htk]; omega) _ (by rw [htk])
theorem implEvaluateExpr (g : TGraph) (e : TExpr) : FnT Tryz.prog 35 [.agg (cGraph g), .agg (cExpr e)] (.tup [.one (.sl 2 ((evalE g e).1.map cPair)), .one (.v (.bool (evalE g e).2))]) := by
 refine FnT.walk Tryz.func35 U (by kernel_rfl) Tryz.ntmps35 U fun hlen w0 => ?_
 try simp [cPair, cToken, cExpr, cEdge, cGraph] at hlen
 skip
 refine AW.sr ?_
 refine AWl.p (R_boxz U U U (.tm U) (ts := _) (by rfl)) U ?_
 refine AWl.p (R_boxz U U U (.tm U) (ts := _) (by rfl)) U ?_
 refine AWl.ac ?_
 refine AWl.nilS (i := 4) 20001 2 U U ?_
 refine AWl.ac ?_
 refine AWl.nil (AW.seq ?_)
 refine AW.sr ?_
 refine AWl.p (by exact R_load U (.no U) U (.tm U) ty27 U U) U ?_
 refine AWl.p (R_callz (FnT.fr (implIsValidGraph g)) U (.no U) U (.cons (.tm U) U .nil)) U ?_
 refine AWl.p (R_not U (.no U) U (.tm U)) U ?_
 refine AWl.mv ?_
 refine AWl.p (by exact R_load U (by exact .not1 U U U U) U (.tmp U (by exact fun _ => rfl)) ty30 U U) U ?_
 refine AWl.p (R_callz (FnT.fr (implIsValidExpr e)) U (by exact .not1 U U U U) U (.cons (.tmp U (by exact id)) U .nil)) U ?_
 refine AWl.p (R_not U (by exact .not1 U U U U) U (.tmp U (by exact id))) U ?_
 refine AWl.p (R_or U (.no U) U (.tm U) (.tmp U (by exact id))) U ?_
 refine AWl.nil ?_
 refine AW.cond (.tm U) (fun h13 => ?_) (fun h13 => ?_)
 · skip
   try simp at h13
   have hno : (validG g && isValidExpr e) = false := by (revert h13; cases validG g <;> cases isValidExpr e <;> simp)
   refine AW.seq ?_
   refine AW.le (σ' := ⟨_, [(0, _), (1, _), (2, _), (3, _), (4, _), (5, _)], [(20001, _)]⟩) (Le.sub0 U ⟨U, U, U, U, U, U, Y⟩ ⟨U, Y⟩) ?_
   refine AW.region ?_
   refine AWl.ac ?_
   refine AWl.nilS (i := 4) 20002 2 U U ?_
   refine AWl.ac ?_
   refine AWl.nil (AW.ret ?_)
   refine Res.many U (.tmp U (.tmp U .nil)) U ?_ (by simp)
   rw [evalE_bad hno]; rfl
 · skip
   try simp at h13
   have hyes : validG g = true ∧ isValidExpr e = true := by (revert h13; cases validG g <;> cases isValidExpr e <;> simp)
   obtain ⟨hg, he⟩ := hyes
   obtain ⟨x, hx, htk, hgx, hl⟩ := valid_tree he
   have htr := impltreeOf e (by omega)
   rw [treeV_some hx] at htr
   refine AW.skip ?_
   refine AW.seq ?_
   refine AW.le (σ' := ⟨_, [(0, _), (1, _), (2, _), (3, _), (4, _), (5, _)], [(20001, _)]⟩) (Le.sub0 U ⟨U, U, U, U, U, U, Y⟩ ⟨U, Y⟩) ?_
   refine AW.drawn 6 (nthB [[], [0], [], [0, 1, 2], [0, 1, 2, 3], [0, 1, 2, 3, 4]]) (by kernel_rfl) (by kernel_rfl) (by kernel_rfl) ?_
   refine DrawC.step U U U (Loc.of U fun σ' hs => (by exact R_load U (.no U) (hd_sup hs U) (.tm (hs.slots _ _ U)) ty30 U U)) ?_
   refine DrawC.step U U U (Loc.of U fun σ' hs => R_callz (htr) U (.no U) (hd_sup hs U) (.cons (.tm (hs.slots _ _ U)) (readA_sup hs U) .nil)) ?_
   refine DrawC.step U U U (Loc.of U fun σ' hs => (by exact R_load U (.no U) (hd_sup hs U) (.tm (hs.slots _ _ U)) ty27 U U)) ?_
   refine DrawC.step U U U (Loc.ofs U fun σ' hs hf => R_call 1700 (implrelation g hg x hgx) U U (hd_sup hs U) (.cons (.tm (hs.slots _ _ U)) (readA_sup hs U) (.cons (.tm (hs.slots _ _ U)) (readA_sup hs U) .nil)) U (all_fresh hf)) ?_
   refine DrawC.step U U U (Loc.of U fun σ' hs => R_assign U (.no U) (hd_sup hs U) (.tm (hs.slots _ _ U))) ?_
   refine DrawC.step U U U (Loc.of U fun σ' hs => R_assign U (.no U) (hd_sup hs U) (.const U)) ?_
   refine DrawC.fin U U ?_
   refine AWl.nil (AW.ret ?_)
   refine Res.many U (.tmp U (.tmp U .nil)) U ?_ (by simp)
   rw [evalE_some hg he hx]; rfl
theorem implIsRefutation (g : TGraph) (a b : TExpr) (x y : Int) : FnT Tryz.prog 11 [.agg (cGraph g), .agg (cExpr a), .agg (cExpr b), .one (.v (.int .i64 x)), .one (.v (.int .i64 y))] (.a (.one (.v (.bool (refut g a b x y))))) := by
 refine FnT.walk Tryz.func11 U (by kernel_rfl) Tryz.ntmps11 U fun hlen w0 => ?_
 try simp [cPair, cToken, cExpr, cEdge, cGraph] at hlen
 skip
 refine AW.sr ?_
 refine AWl.p (R_boxz U U U (.tm U) (ts := _) (by rfl)) U ?_
 refine AWl.p (R_boxz U U U (.tm U) (ts := _) (by rfl)) U ?_
 refine AWl.p (R_boxz U U U (.tm U) (ts := _) (by rfl)) U ?_
 refine AWl.ac ?_
 refine AWl.nil (AW.sr ?_)
 refine AWl.p (by exact R_load U (.no U) U (.tm U) ty27 U U) U ?_
 refine AWl.p (by exact R_load U (.no U) U (.tm U) ty30 U U) U ?_
 refine AWl.p (R_callz (FnT.fr (implEvaluateExpr g a)) U (.no U) U (.cons (.tm U) U (.cons (.tm U) U .nil))) U ?_
 refine AWl.p (R_movet U (.no U) U U fun _ => rfl) U ?_
 refine AWl.p (R_extract U (.no U) U U (fun _ => rfl) U) U ?_
 refine AWl.p (R_extract U (.no U) U U (fun _ => rfl) U) U ?_
 refine AWl.av ?_
 refine AWl.av ?_
 refine AWl.nil (AW.seq ?_)
 refine AW.le (σ' := ⟨_, [(0, _), (1, _), (2, _), (3, _), (4, _), (5, _), (6, _), (7, _), (10, _), (11, _), (12, _)], []⟩) (Le.sub0 U ⟨U, U, U, U, U, U, U, U, U, U, U, Y⟩ trivial) ?_
 refine AW.region ?_
 refine AWl.p (by exact R_load U (.no U) U (.tm U) ty27 U U) U ?_
 refine AWl.p (by exact R_load U (.no U) U (.tm U) ty30 U U) U ?_
 refine AWl.p (R_callz (FnT.fr (implEvaluateExpr g b)) U (.no U) U (.cons (.tm U) U (.cons (.tm U) U .nil))) U ?_
 refine AWl.p (R_movet U (.no U) U U fun _ => rfl) U ?_
 refine AWl.p (R_extract U (.no U) U U (fun _ => rfl) U) U ?_
 refine AWl.p (R_extract U (.no U) U U (fun _ => rfl) U) U ?_
 refine AWl.av ?_
 refine AWl.av ?_
 refine AWl.nil (AW.seq ?_)
 refine AW.le (σ' := ⟨_, [(0, _), (1, _), (2, _), (3, _), (4, _), (5, _), (6, _), (7, _), (10, _), (11, _), (12, _), (13, _), (14, _)], []⟩) (Le.sub0 U ⟨U, U, U, U, U, U, U, U, U, U, U, U, U, Y⟩ trivial) ?_
 refine AW.region ?_
 refine AWl.mv ?_
 refine AWl.mv ?_
 refine AWl.p (R_move U (by exact .yes1 U U U U) U (.tmp U (by exact fun _ => rfl))) U ?_
 refine AWl.p (R_and U (.no U) U (.tm U) (.tmp U (by exact id))) U ?_
 refine AWl.mv ?_
 refine AWl.p (R_move U (by exact .yes1 U U U U) U (.tmp U (by exact fun _ => rfl))) U ?_
 refine AWl.p (R_move U (by exact .yes1 U U U U) U (.tmp U (by exact fun _ => rfl))) U ?_
 refine AWl.p (R_move U (by exact .yes1 U U U U) U (.tmp U (by exact fun _ => rfl))) U ?_
 refine AWl.p (R_grd (by exact .yes1 U U U U) U fun hq => R_build (ps := [(0, .tmp 33), (1, .tmp 34)]) U U U in63 U U st63 (.cons (.tmp U (by exact fun _ => hq)) U U fp63_0 (.cons (.tmp U (by exact fun _ => hq)) U U fp63_1 .nil)) U) U ?_
 refine AWl.p (R_callz (FnT.fr (slicesContainsPair (evalE g a).1 ⟨x, y⟩)) U (by exact .yes1 U U U U) U (.cons (.tmp U (by exact id)) U (.cons (.tmp U (by exact id)) U .nil))) U ?_
 refine AWl.p (R_and U (.no U) U (.tm U) (.tmp U (by exact id))) U ?_
 refine AWl.mv ?_
 refine AWl.p (R_move U (by exact .yes1 U U U U) U (.tmp U (by exact fun _ => rfl))) U ?_
 refine AWl.p (R_move U (by exact .yes1 U U U U) U (.tmp U (by exact fun _ => rfl))) U ?_
 refine AWl.p (R_move U (by exact .yes1 U U U U) U (.tmp U (by exact fun _ => rfl))) U ?_
 refine AWl.p (R_grd (by exact .yes1 U U U U) U fun hq => R_build (ps := [(0, .tmp 40), (1, .tmp 41)]) U U U in63 U U st63 (.cons (.tmp U (by exact fun _ => hq)) U U fp63_0 (.cons (.tmp U (by exact fun _ => hq)) U U fp63_1 .nil)) U) U ?_
 refine AWl.p (R_callz (FnT.fr (slicesContainsPair (evalE g b).1 ⟨x, y⟩)) U (by exact .yes1 U U U U) U (.cons (.tmp U (by exact id)) U (.cons (.tmp U (by exact id)) U .nil))) U ?_
 refine AWl.p (R_not U (by exact .yes1 U U U U) U (.tmp U (by exact id))) U ?_
 refine AWl.p (R_and U (.no U) U (.tm U) (.tmp U (by exact id))) U ?_
 refine AWl.av ?_
 refine AWl.nil (AW.ret ?_)
 refine Res.v U U ?_
 rfl
theorem specIsRefutation (g : TGraph) (a b : TExpr) (x y : Int) : FnT Tryz.prog 32 [.agg (cGraph g), .agg (cExpr a), .agg (cExpr b), .one (.v (.int .i64 x)), .one (.v (.int .i64 y))] (.a (.one (.v (.bool (refut g a b x y))))) := by
 refine FnT.walk Tryz.func32 U (by kernel_rfl) Tryz.ntmps32 U fun hlen w0 => ?_
 try simp [cPair, cToken, cExpr, cEdge, cGraph] at hlen
 skip
 refine AW.sr ?_
 refine AWl.p (R_boxz U U U (.tm U) (ts := _) (by rfl)) U ?_
 refine AWl.p (R_boxz U U U (.tm U) (ts := _) (by rfl)) U ?_
 refine AWl.p (R_boxz U U U (.tm U) (ts := _) (by rfl)) U ?_
 refine AWl.ac ?_
 refine AWl.nil (AW.seq ?_)
 refine AW.sr ?_
 refine AWl.p (by exact R_load U (.no U) U (.tm U) ty27 U U) U ?_
 refine AWl.p (R_callz (FnT.fr (specIsValidGraph g)) U (.no U) U (.cons (.tm U) U .nil)) U ?_
 refine AWl.p (R_not U (.no U) U (.tm U)) U ?_
 refine AWl.mv ?_
 refine AWl.p (by exact R_load U (by exact .not1 U U U U) U (.tmp U (by exact fun _ => rfl)) ty30 U U) U ?_
 refine AWl.p (R_callz (FnT.fr (specIsValidExpr a)) U (by exact .not1 U U U U) U (.cons (.tmp U (by exact id)) U .nil)) U ?_
 refine AWl.p (R_not U (by exact .not1 U U U U) U (.tmp U (by exact id))) U ?_
 refine AWl.p (R_or U (.no U) U (.tm U) (.tmp U (by exact id))) U ?_
 refine AWl.mv ?_
 refine AWl.p (by exact R_load U (by exact .not1 U U U U) U (.tmp U (by exact fun _ => rfl)) ty30 U U) U ?_
 refine AWl.p (R_callz (FnT.fr (specIsValidExpr b)) U (by exact .not1 U U U U) U (.cons (.tmp U (by exact id)) U .nil)) U ?_
 refine AWl.p (R_not U (by exact .not1 U U U U) U (.tmp U (by exact id))) U ?_
 refine AWl.p (R_or U (.no U) U (.tm U) (.tmp U (by exact id))) U ?_
 refine AWl.nil ?_
 refine AW.cond (.tm U) (fun h24 => ?_) (fun h24 => ?_)
 · skip
   try simp at h24
   have hno : (validG g && isValidExpr a && isValidExpr b) = false := by (revert h24; cases validG g <;> cases isValidExpr a <;> cases isValidExpr b <;> simp)
   refine AW.seq ?_
   refine AW.le (σ' := ⟨_, [(0, _), (1, _), (2, _), (3, _), (4, _), (5, _), (6, _), (7, _), (10, _)], []⟩) (Le.sub0 U ⟨U, U, U, U, U, U, U, U, U, Y⟩ trivial) ?_
   refine AW.region ?_
   refine AWl.ac ?_
   refine AWl.nil (AW.ret ?_)
   refine Res.v U U ?_
   unfold refut; rw [evalE_2, evalE_2]; revert hno; cases validG g <;> cases isValidExpr a <;> cases isValidExpr b <;> simp
 · skip
   try simp at h24
   have hyes : validG g = true ∧ isValidExpr a = true ∧ isValidExpr b = true := by (revert h24; cases validG g <;> cases isValidExpr a <;> cases isValidExpr b <;> simp)
   refine AW.skip ?_
   refine AW.seq ?_
   refine AW.le (σ' := ⟨_, [(0, _), (1, _), (2, _), (3, _), (4, _), (5, _), (6, _), (7, _), (10, _)], []⟩) (Le.sub0 U ⟨U, U, U, U, U, U, U, U, U, Y⟩ trivial) ?_
   refine AW.region ?_
   refine AWl.mv ?_
   refine AWl.mv ?_
   refine AWl.p (R_build (ps := [(0, .tmp 25), (1, .tmp 26)]) U U U in63 U U st63 (.cons (.tm U) U U fp63_0 (.cons (.tm U) U U fp63_1 .nil)) U) U ?_
   refine AWl.add (R_alloc 11 U U U in63 U U U) U ?_
   refine AWl.chgb (R_store_pb U U U (.tm U) (.tm U) U ty63 U U U (by kernel_rfl) U) ?_
   refine AWl.nil (AW.seq ?_)
   refine AW.drawn 16 (nthB [[], [], [1], [0, 1, 2], [], [0, 1, 2, 3, 4], [0, 1, 2, 3, 4, 5], [0, 1, 2, 3, 4, 5, 6], [0, 1, 2, 3, 4, 5, 6], [0, 1, 2, 3, 4, 5, 6, 8], [0, 1, 2, 3, 4, 5, 6, 7, 8, 9], [0, 1, 2, 3, 4, 5, 6], [0, 1, 2, 3, 4, 5, 6, 7, 8, 9, 10, 11], [0, 1, 2, 3, 4, 5, 6, 7, 8, 9, 10, 11, 12], [0, 1, 2, 3, 4, 5, 6, 7, 8, 9, 10, 11, 12, 13], [0, 1, 2, 3, 4, 5, 6, 7, 8, 9, 10, 11, 12, 13, 14]]) (by kernel_rfl) (by kernel_rfl) (by kernel_rfl) ?_
   refine DrawC.step U U U (Loc.of U fun σ' hs => (by exact R_load U (.no U) (hd_sup hs U) (.tm (hs.slots _ _ U)) ty27 U U)) ?_
   refine DrawC.step U U U (Loc.of U fun σ' hs => (by exact R_fieldAddr U (.no U) (hd_sup hs U) (.tm (hs.slots _ _ U)) fl30_0)) ?_
   refine DrawC.step U U U (Loc.of U fun σ' hs => (by exact R_load U (.no U) (hd_sup hs U) (.tm (hs.slots _ _ U)) ty28 U U)) ?_
   refine DrawC.step U U U (Loc.of U fun σ' hs => R_callz (FnT.fr (specl16Eval g hyes.1 a hyes.2.1)) U (.no U) (hd_sup hs U) (.cons (.tm (hs.slots _ _ U)) (readA_sup hs U) (.cons (.tm (hs.slots _ _ U)) (readA_sup hs U) .nil))) ?_
   refine DrawC.step U U U (Loc.of U fun σ' hs => (by exact R_load_pp U (.no U) (hd_sup hs U) (.tm (hs.slots _ _ U)) (hs.res _ _ U) ty63 U U)) ?_
   refine DrawC.step U U U (Loc.of U fun σ' hs => R_callz (FnT.fr (specl15Has (evalE g a).1 ⟨x, y⟩)) U (.no U) (hd_sup hs U) (.cons (.tm (hs.slots _ _ U)) (readA_sup hs U) (.cons (.tm (hs.slots _ _ U)) (readA_sup hs U) .nil))) ?_
   refine DrawC.step U U U (Loc.of U fun σ' hs => R_move U (.no U) (hd_sup hs U) (.tm (hs.slots _ _ U))) ?_
   refine DrawC.step U U U (Loc.of U fun σ' hs => (by exact R_load U (by exact .yes1 U U (hs.slots _ _ U) (by rw [hs.n]; rfl)) (hd_sup hs U) (.tmp (hs.slots _ _ U) (by exact fun _ => rfl)) ty27 U U)) ?_
   refine DrawC.step U U U (Loc.of U fun σ' hs => (by exact R_fieldAddr U (by exact .yes1 U U (hs.slots _ _ U) (by rw [hs.n]; rfl)) (hd_sup hs U) (.tmp (hs.slots _ _ U) (by exact fun _ => rfl)) fl30_0)) ?_
   refine DrawC.step U U U (Loc.of U fun σ' hs => (by exact R_load U (by exact .yes1 U U (hs.slots _ _ U) (by rw [hs.n]; rfl)) (hd_sup hs U) (.tmp (hs.slots _ _ U) (by exact id)) ty28 U U)) ?_
   refine DrawC.step U U U (Loc.of U fun σ' hs => R_callz (FnT.fr (specl16Eval g hyes.1 b hyes.2.2)) U (by exact .yes1 U U (hs.slots _ _ U) (by rw [hs.n]; rfl)) (hd_sup hs U) (.cons (.tmp (hs.slots _ _ U) (by exact id)) (readA_sup hs U) (.cons (.tmp (hs.slots _ _ U) (by exact id)) (readA_sup hs U) .nil))) ?_
   refine DrawC.step U U U (Loc.of U fun σ' hs => (by exact R_load_pp U (by exact .yes1 U U (hs.slots _ _ U) (by rw [hs.n]; rfl)) (hd_sup hs U) (.tmp (hs.slots _ _ U) (by exact fun _ => rfl)) (hs.res _ _ U) ty63 U U)) ?_
   refine DrawC.step U U U (Loc.of U fun σ' hs => R_callz (FnT.fr (specl15Has (evalE g b).1 ⟨x, y⟩)) U (by exact .yes1 U U (hs.slots _ _ U) (by rw [hs.n]; rfl)) (hd_sup hs U) (.cons (.tmp (hs.slots _ _ U) (by exact id)) (readA_sup hs U) (.cons (.tmp (hs.slots _ _ U) (by exact id)) (readA_sup hs U) .nil))) ?_
   refine DrawC.step U U U (Loc.of U fun σ' hs => R_not U (by exact .yes1 U U (hs.slots _ _ U) (by rw [hs.n]; rfl)) (hd_sup hs U) (.tmp (hs.slots _ _ U) (by exact id))) ?_
   refine DrawC.step U U U (Loc.of U fun σ' hs => R_and U (.no U) (hd_sup hs U) (.tm (hs.slots _ _ U)) (.tmp (hs.slots _ _ U) (by exact id))) ?_
   refine DrawC.step U U U (Loc.of U fun σ' hs => R_assign U (.no U) (hd_sup hs U) (.tm (hs.slots _ _ U))) ?_
   refine DrawC.fin U U ?_
   refine AWl.nil (AW.ret ?_)
   refine Res.v U U ?_
   unfold refut; rw [evalE_2, evalE_2, hyes.1, hyes.2.1, hyes.2.2]; rfl
end Go.Proofs.YtbkhopfpejhnlaaGreat
