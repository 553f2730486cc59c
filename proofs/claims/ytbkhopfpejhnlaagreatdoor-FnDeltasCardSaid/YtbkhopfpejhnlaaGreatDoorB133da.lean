import Derived.Test.YtbkhopfpejhnlaaGreatDoorB126da
import Derived.Test.YtbkhopfpejhnlaaGreatDoorDraw3da
import Derived.Test.YtbkhopfpejhnlaaGreatDoorB33da
import Derived.Test.YtbkhopfpejhnlaaGreatDoorStdda
set_option linter.unusedVariables false
set_option linter.unusedSimpArgs false
set_option maxHeartbeats 1000000
set_option maxRecDepth 100000
namespace Go.Q
open Go.RowKit Go.D
theorem FnE.fr {P : Program} {f : FuncId} {ins : List V0} {τ : Type} {p : τ → Prop} {out : τ → V} (h : FnE P f ins p out) : FrE P f ins (fun o => ∃ x, p x ∧ o = out x) :=
 ⟨h.1, fun w vs F hg hv => (h.2 w vs F hg hv).mono fun _ _ ⟨x, hx, v, G, h1, h2, _, h4, h5⟩ => ⟨_, ⟨x, hx, rfl⟩, v, G, h1, (by cases ho : out x with | a y => rw [ho] at h2; exact V0r.read h2 | tup l => rw [ho] at h2; obtain ⟨vs, e, h2⟩ := h2; exact ⟨vs, e, h2.read⟩), fun b hb => (h4 b hb).1, h5⟩⟩
def invD (d : TDelta) : TDelta := ⟨d.Removed, d.Added⟩
theorem eqD (a b : TDelta) : (decide (a.Added = b.Added) && decide (a.Removed = b.Removed)) = decide (a = b) := by
 cases a; cases b
 rw [Bool.eq_iff_iff]
 simp
def smallD (d : TDelta) : Prop := d.Added.length ≤ 10 ∧ d.Removed.length ≤ 10
theorem smallD_delta {a b : List TPair} (ha : a.length ≤ 7) (hb : b.length ≤ 7) : smallD (deltaB a b) := by
 have h1 := psub_len b a
 have h2 := psub_len a b
 unfold smallD deltaB
 simp only
 omega
end Go.Q
namespace Go.Proofs.YtbkhopfpejhnlaaGreatDoor
open Go.RowKit Go.Q Go.D
set_option maxRecDepth 100000 in
theorem specEqualPairs (l r : List TPair) : FnT Tryz.prog 13 [.one (.sl 2 (l.map cPair)), .one (.sl 2 (r.map cPair))] (.a (.one (.v (.bool (decide (l = r)))))) := by
 refine FnT.walk Tryz.func13 U (by kernel_rfl) Tryz.ntmps13 U fun hlen w0 => ?_
 try simp [cPair, cToken, cExpr, cEdge, cGraph, cStep, cWalk, cChange, cBatch, cHistory, cPositions, cAutomaton, cProductStep, cPathAtom, cConjunction, cView, cDelta, cRegistered, cRegistry] at hlen
 skip
 refine AW.sr ?_
 refine AWl.ac U U U U U ?_
 refine AWl.nil (AW.seq ?_)
 refine AW.sr ?_
 refine AWl.mv U U U U U ?_
 refine AWl.put ((by first | exact R_lenm U (.no U) U (.tm U) (by first | exact .t | exact .rf U | exact .vw | exact .nil) Tryz.underlying24 | exact R_len U (.no U) U (.tm U) (by first | exact .t | exact .rf U | exact .vw | exact .nil) Tryz.underlying24)) U ?_
 refine AWl.mv U U U U U ?_
 refine AWl.put ((by first | exact R_lenm U (.no U) U (.tm U) (by first | exact .t | exact .rf U | exact .vw | exact .nil) Tryz.underlying24 | exact R_len U (.no U) U (.tm U) (by first | exact .t | exact .rf U | exact .vw | exact .nil) Tryz.underlying24)) U ?_
 refine AWl.put (R_ne U (.no U) U (.tm U) (.tm U)) U ?_
 refine AWl.nil ?_
 refine AW.cond (.tm U) (fun h10 => ?_) (fun h10 => ?_)
 · skip
   try simp at h10
   refine AW.sr ?_
   refine AWl.ac U U U U U ?_
   refine AWl.nil (AW.ret ?_)
   refine Res.v U U ?_
   have hne : l ≠ r := (fun e => by subst e; simp at h10); simp [hne]
 · skip
   try simp at h10
   refine AW.skip ?_
   refine AW.seq ?_
   refine AW.sr ?_
   refine AWl.ac U U U U U ?_
   refine AWl.nil (AW.block ?_)
   refine AW.loop1 (fun (k : Nat) => (k ≤ l.length ∧ l.length = r.length) ∧ decide (l = r) = decide (l.drop k = r.drop k)) (fun (k : Nat) => ⟨_, [(5, (true, .a (.one (.t (.v (.int .i64 (k : Nat))))))), (0, _), (1, _)], []⟩) (fun (k : Nat) => l.length - k) (0) ⟨⟨Nat.zero_le _, by (try simp at h10); omega⟩, by simp⟩ (Le.sub0 U ⟨U, U, U, trivial⟩ trivial) ?_
   rintro k ⟨hk, he⟩
   refine AW.seq ?_
   refine AW.sr ?_
   refine AWl.mv U U U U U ?_
   refine AWl.mv U U U U U ?_
   refine AWl.put ((by first | exact R_lenm U (.no U) U (.tm U) (by first | exact .t | exact .rf U | exact .vw | exact .nil) Tryz.underlying24 | exact R_len U (.no U) U (.tm U) (by first | exact .t | exact .rf U | exact .vw | exact .nil) Tryz.underlying24)) U ?_
   refine AWl.put (R_lt U (.no U) U (.tm U) (.tm U)) U ?_
   refine AWl.nil ?_
   refine AW.cond (.tm U) (fun h14 => ?_) (fun h14 => ?_)
   · skip
     try simp at h14
     have hkl : k < l.length := (by first | omega | (simp at h14; omega))
     obtain ⟨x, hx⟩ : ∃ ξ, l[k]? = some ξ := ⟨_, List.getElem?_eq_getElem hkl⟩
     obtain ⟨y, hy⟩ : ∃ ξ, r[k]? = some ξ := ⟨_, List.getElem?_eq_getElem (show k < r.length by omega)⟩
     refine AW.skip ?_
     refine AW.seq ?_
     refine AW.block ?_
     refine AW.seq ?_
     refine AW.drawn 9 (nthB [[], [], [0, 1], [0, 1, 2], [], [], [4, 5], [4, 5, 6], [0, 1, 2, 3, 4, 5, 6, 7]]) (by kernel_rfl) (by kernel_rfl) (by kernel_rfl) ?_
     refine DrawC.step U U U (Loc.of U fun σ' hs => R_move U (.no U) (hd_sup hs U) (.tm (hs.slots _ _ U))) ?_
     refine DrawC.step U U U (Loc.of U fun σ' hs => R_move U (.no U) (hd_sup hs U) (.tm (hs.slots _ _ U))) ?_
     refine DrawC.step U U U (Loc.of U fun σ' hs => (by first | exact R_indexAddr U (.no U) (hd_sup hs U) (.tm (hs.slots _ _ U)) (.tm (hs.slots _ _ U)) Tryz.underlying24 ty68 (fun _ => ⟨by omega, map_get hx⟩) | exact R_indexAddr_vw U (.no U) (hd_sup hs U) (.tm (hs.slots _ _ U)) (.tm (hs.slots _ _ U)) Tryz.underlying24 ty68 (fun _ => ⟨by omega, map_get hx⟩) | exact R_indexAddr_rf U (.no U) (hd_sup hs U) (.tm (hs.slots _ _ U)) (hs.res _ _ U) (.tm (hs.slots _ _ U)) Tryz.underlying24 ty68 (fun _ => ⟨by omega, map_get hx⟩))) ?_
     refine DrawC.step U U U (Loc.of U fun σ' hs => (by first | exact R_load U (.no U) (hd_sup hs U) (.tm (hs.slots _ _ U)) ty68 U U | exact R_load_pp U (.no U) (hd_sup hs U) (.tm (hs.slots _ _ U)) (hs.res _ _ U) ty68 U U | exact R_load_vw U (.no U) (hd_sup hs U) (.tm (hs.slots _ _ U)) ty68 U U | exact R_load_pr U (.no U) (hd_sup hs U) (.tm (hs.slots _ _ U)) (hs.res _ _ U) (map_get hx) ty68 U U)) ?_
     refine DrawC.step U U U (Loc.of U fun σ' hs => R_move U (.no U) (hd_sup hs U) (.tm (hs.slots _ _ U))) ?_
     refine DrawC.step U U U (Loc.of U fun σ' hs => R_move U (.no U) (hd_sup hs U) (.tm (hs.slots _ _ U))) ?_
     refine DrawC.step U U U (Loc.of U fun σ' hs => (by first | exact R_indexAddr U (.no U) (hd_sup hs U) (.tm (hs.slots _ _ U)) (.tm (hs.slots _ _ U)) Tryz.underlying24 ty68 (fun _ => ⟨by omega, map_get hy⟩) | exact R_indexAddr_vw U (.no U) (hd_sup hs U) (.tm (hs.slots _ _ U)) (.tm (hs.slots _ _ U)) Tryz.underlying24 ty68 (fun _ => ⟨by omega, map_get hy⟩) | exact R_indexAddr_rf U (.no U) (hd_sup hs U) (.tm (hs.slots _ _ U)) (hs.res _ _ U) (.tm (hs.slots _ _ U)) Tryz.underlying24 ty68 (fun _ => ⟨by omega, map_get hy⟩))) ?_
     refine DrawC.step U U U (Loc.of U fun σ' hs => (by first | exact R_load U (.no U) (hd_sup hs U) (.tm (hs.slots _ _ U)) ty68 U U | exact R_load_pp U (.no U) (hd_sup hs U) (.tm (hs.slots _ _ U)) (hs.res _ _ U) ty68 U U | exact R_load_vw U (.no U) (hd_sup hs U) (.tm (hs.slots _ _ U)) ty68 U U | exact R_load_pr U (.no U) (hd_sup hs U) (.tm (hs.slots _ _ U)) (hs.res _ _ U) (map_get hy) ty68 U U)) ?_
     refine DrawC.step U U U (Loc.of U fun σ' hs => R_eqs U (.no U) (hd_sup hs U) (.tm (hs.slots _ _ U)) (.tm (hs.slots _ _ U)) U U (by kernel_rfl) (neS68 _ _ _ _)) ?_
     refine DrawC.fin U U ?_
     refine AWl.nil ?_
     refine AW.cond (.tm U) (fun h25 => ?_) (fun h25 => ?_)
     · skip
       skip
       have hne : l ≠ r := (fun e => by subst e; rw [hx] at hy; cases hy; simp at h25)
       refine AW.seq ?_
       refine AW.le (σ' := ⟨_, [(0, _), (1, _), (5, _)], []⟩) (Le.sub0 U ⟨U, U, U, trivial⟩ trivial) ?_
       refine AW.region ?_
       refine AWl.ac U U U U U ?_
       refine AWl.nil (AW.ret ?_)
       refine Res.v U U ?_
       simp [hne]
     · skip
       skip
       have hx2 : l[k]'hkl = r[k]'(by omega) := (by have e1 := (List.getElem?_eq_some_iff.1 hx).2; have e2 := (List.getElem?_eq_some_iff.1 hy).2; rw [e1, e2]; cases x; cases y; simp at h25; simpa using h25)
       refine AW.skip ?_
       refine AW.le (σ' := ⟨_, [(0, _), (1, _), (5, _)], []⟩) (Le.sub0 U ⟨U, U, U, trivial⟩ trivial) ?_
       refine AW.region ?_
       refine AWl.mv U U U U U ?_
       refine AWl.put (R_add U (.no U) U (.tm U) (.const U) (fun _ => by omega)) U ?_
       refine AWl.av U U U U U ?_
       refine AWl.nil ?_
       repeat (with_reducible refine BlockQ.nor ?_)
       refine Round1.next (k + 1) ⟨⟨by omega, hk.2⟩, by rw [he, List.drop_eq_getElem_cons (show k < l.length by omega), List.drop_eq_getElem_cons (show k < r.length by omega), hx2]; simp only [List.cons.injEq, true_and]⟩ (by omega) (Le.sub0 rfl ⟨rfl, rfl, rfl, trivial⟩ trivial)
   · skip
     try simp at h14
     refine AW.exit ?_
     refine AW.sr ?_
     refine AWl.ac U U U U U ?_
     refine AWl.nil (AW.ret ?_)
     refine Res.v U U ?_
     rw [he, List.drop_eq_nil_of_le (show l.length ≤ k by first | omega | (simp at h14; omega)), List.drop_eq_nil_of_le (show r.length ≤ k by first | omega | (simp at h14; omega))]; simp
theorem implEqualPairs (l r : List TPair) : FnT Tryz.prog 56 [.one (.sl 2 (l.map cPair)), .one (.sl 2 (r.map cPair))] (.a (.one (.v (.bool (decide (l = r)))))) := by
 refine FnT.walk Tryz.func56 U (by kernel_rfl) Tryz.ntmps56 U fun hlen w0 => ?_
 try simp [cPair, cToken, cExpr, cEdge, cGraph, cStep, cWalk, cChange, cBatch, cHistory, cPositions, cAutomaton, cProductStep, cPathAtom, cConjunction, cView, cDelta, cRegistered, cRegistry] at hlen
 refine AW.sr ?_
 refine AWl.ac U U U U U ?_
 refine AWl.nil (AW.sr ?_)
 refine AWl.mv U U U U U ?_
 refine AWl.mv U U U U U ?_
 refine AWl.put (R_callz (FnT.fr (slicesEqualPair l r)) U (.no U) U (.cons (.tm U) U (.cons (.tm U) U .nil))) U ?_
 refine AWl.av U U U U U ?_
 refine AWl.nil (AW.ret ?_)
 refine Res.v U U ?_
 rfl
theorem specEqualDeltas (a b : TDelta) : FnT Tryz.prog 8 [.agg (cDelta a), .agg (cDelta b)] (.a (.one (.v (.bool (decide (a = b)))))) := by
 refine FnT.walk Tryz.func8 U (by kernel_rfl) Tryz.ntmps8 U fun hlen w0 => ?_
 try simp [cPair, cToken, cExpr, cEdge, cGraph, cStep, cWalk, cChange, cBatch, cHistory, cPositions, cAutomaton, cProductStep, cPathAtom, cConjunction, cView, cDelta, cRegistered, cRegistry] at hlen
 refine AW.sr ?_
 refine AWl.put (R_boxz U U U (.tm U) (ts := _) (by first | rfl | exact cells_t1 _ | exact cells_t2 _)) U ?_
 refine AWl.put (R_boxz U U U (.tm U) (ts := _) (by first | rfl | exact cells_t1 _ | exact cells_t2 _)) U ?_
 refine AWl.ac U U U U U ?_
 refine AWl.nil (AW.sr ?_)
 refine AWl.put ((by first | exact R_fieldAddr U (.no U) U (.tm U) fl28_0 | exact R_fieldAddr_pp U (.no U) U (.tm U) fl28_0 | exact R_fieldAddr_vw U (.no U) U (.tm U) fl28_0 | exact R_fieldAddr_pr U (.no U) U (.tm U) fl28_0)) U ?_
 refine AWl.put ((by first | exact R_load U (.no U) U (.tm U) ty24 U U | exact R_load_pp U (.no U) U (.tm U) U ty24 U U | exact R_load_vw U (.no U) U (.tm U) ty24 U U | exact R_load_pr U (.no U) U (.tm U) U (by first | assumption | exact map_get (by assumption)) ty24 U U)) U ?_
 refine AWl.put ((by first | exact R_fieldAddr U (.no U) U (.tm U) fl28_0 | exact R_fieldAddr_pp U (.no U) U (.tm U) fl28_0 | exact R_fieldAddr_vw U (.no U) U (.tm U) fl28_0 | exact R_fieldAddr_pr U (.no U) U (.tm U) fl28_0)) U ?_
 refine AWl.put ((by first | exact R_load U (.no U) U (.tm U) ty24 U U | exact R_load_pp U (.no U) U (.tm U) U ty24 U U | exact R_load_vw U (.no U) U (.tm U) ty24 U U | exact R_load_pr U (.no U) U (.tm U) U (by first | assumption | exact map_get (by assumption)) ty24 U U)) U ?_
 refine AWl.put (R_callz (FnT.fr (specEqualPairs a.Added b.Added)) U (.no U) U (.cons (.tm U) U (.cons (.tm U) U .nil))) U ?_
 refine AWl.mv U U U U U ?_
 refine AWl.put ((by first | exact R_fieldAddr U (by first | exact .yes1 U U U U | exact .yes U U U U) U (.tmp U (by first | exact fun _ => rfl | exact id | simp)) fl28_1 | exact R_fieldAddr_pp U (by first | exact .yes1 U U U U | exact .yes U U U U) U (.tmp U (by first | exact fun _ => rfl | exact id | simp)) fl28_1 | exact R_fieldAddr_vw U (by first | exact .yes1 U U U U | exact .yes U U U U) U (.tmp U (by first | exact fun _ => rfl | exact id | simp)) fl28_1 | exact R_fieldAddr_pr U (by first | exact .yes1 U U U U | exact .yes U U U U) U (.tmp U (by first | exact fun _ => rfl | exact id | simp)) fl28_1)) U ?_
 refine AWl.put ((by first | exact R_load U (by first | exact .yes1 U U U U | exact .yes U U U U) U (.tmp U (by first | exact fun _ => rfl | exact id | simp)) ty24 U U | exact R_load_pp U (by first | exact .yes1 U U U U | exact .yes U U U U) U (.tmp U (by first | exact fun _ => rfl | exact id | simp)) U ty24 U U | exact R_load_vw U (by first | exact .yes1 U U U U | exact .yes U U U U) U (.tmp U (by first | exact fun _ => rfl | exact id | simp)) ty24 U U | exact R_load_pr U (by first | exact .yes1 U U U U | exact .yes U U U U) U (.tmp U (by first | exact fun _ => rfl | exact id | simp)) U (by first | assumption | exact map_get (by assumption)) ty24 U U)) U ?_
 refine AWl.put ((by first | exact R_fieldAddr U (by first | exact .yes1 U U U U | exact .yes U U U U) U (.tmp U (by first | exact fun _ => rfl | exact id | simp)) fl28_1 | exact R_fieldAddr_pp U (by first | exact .yes1 U U U U | exact .yes U U U U) U (.tmp U (by first | exact fun _ => rfl | exact id | simp)) fl28_1 | exact R_fieldAddr_vw U (by first | exact .yes1 U U U U | exact .yes U U U U) U (.tmp U (by first | exact fun _ => rfl | exact id | simp)) fl28_1 | exact R_fieldAddr_pr U (by first | exact .yes1 U U U U | exact .yes U U U U) U (.tmp U (by first | exact fun _ => rfl | exact id | simp)) fl28_1)) U ?_
 refine AWl.put ((by first | exact R_load U (by first | exact .yes1 U U U U | exact .yes U U U U) U (.tmp U (by first | exact fun _ => rfl | exact id | simp)) ty24 U U | exact R_load_pp U (by first | exact .yes1 U U U U | exact .yes U U U U) U (.tmp U (by first | exact fun _ => rfl | exact id | simp)) U ty24 U U | exact R_load_vw U (by first | exact .yes1 U U U U | exact .yes U U U U) U (.tmp U (by first | exact fun _ => rfl | exact id | simp)) ty24 U U | exact R_load_pr U (by first | exact .yes1 U U U U | exact .yes U U U U) U (.tmp U (by first | exact fun _ => rfl | exact id | simp)) U (by first | assumption | exact map_get (by assumption)) ty24 U U)) U ?_
 refine AWl.put (R_callq U (by first | exact .yes1 U U U U | exact .yes U U U U) U (.cons (.tmp U (by first | exact fun _ => rfl | exact id | simp)) U (.cons (.tmp U (by first | exact fun _ => rfl | exact id | simp)) U .nil)) fun hq => FnT.fr (specEqualPairs a.Removed b.Removed)) U ?_
 refine AWl.put (R_and U (.no U) U (.tm U) (.tmp U (by first | exact fun _ => rfl | exact id | simp))) U ?_
 refine AWl.av U U U U U ?_
 refine AWl.nil (AW.ret ?_)
 refine Res.v U U ?_
 rw [eqD]
theorem implEqualDeltas (a b : TDelta) : FnT Tryz.prog 23 [.agg (cDelta a), .agg (cDelta b)] (.a (.one (.v (.bool (decide (a = b)))))) := by
 refine FnT.walk Tryz.func23 U (by kernel_rfl) Tryz.ntmps23 U fun hlen w0 => ?_
 try simp [cPair, cToken, cExpr, cEdge, cGraph, cStep, cWalk, cChange, cBatch, cHistory, cPositions, cAutomaton, cProductStep, cPathAtom, cConjunction, cView, cDelta, cRegistered, cRegistry] at hlen
 refine AW.sr ?_
 refine AWl.put (R_boxz U U U (.tm U) (ts := _) (by first | rfl | exact cells_t1 _ | exact cells_t2 _)) U ?_
 refine AWl.put (R_boxz U U U (.tm U) (ts := _) (by first | rfl | exact cells_t1 _ | exact cells_t2 _)) U ?_
 refine AWl.ac U U U U U ?_
 refine AWl.nil (AW.sr ?_)
 refine AWl.put ((by first | exact R_fieldAddr U (.no U) U (.tm U) fl28_0 | exact R_fieldAddr_pp U (.no U) U (.tm U) fl28_0 | exact R_fieldAddr_vw U (.no U) U (.tm U) fl28_0 | exact R_fieldAddr_pr U (.no U) U (.tm U) fl28_0)) U ?_
 refine AWl.put ((by first | exact R_load U (.no U) U (.tm U) ty24 U U | exact R_load_pp U (.no U) U (.tm U) U ty24 U U | exact R_load_vw U (.no U) U (.tm U) ty24 U U | exact R_load_pr U (.no U) U (.tm U) U (by first | assumption | exact map_get (by assumption)) ty24 U U)) U ?_
 refine AWl.put ((by first | exact R_fieldAddr U (.no U) U (.tm U) fl28_0 | exact R_fieldAddr_pp U (.no U) U (.tm U) fl28_0 | exact R_fieldAddr_vw U (.no U) U (.tm U) fl28_0 | exact R_fieldAddr_pr U (.no U) U (.tm U) fl28_0)) U ?_
 refine AWl.put ((by first | exact R_load U (.no U) U (.tm U) ty24 U U | exact R_load_pp U (.no U) U (.tm U) U ty24 U U | exact R_load_vw U (.no U) U (.tm U) ty24 U U | exact R_load_pr U (.no U) U (.tm U) U (by first | assumption | exact map_get (by assumption)) ty24 U U)) U ?_
 refine AWl.put (R_callz (FnT.fr (implEqualPairs a.Added b.Added)) U (.no U) U (.cons (.tm U) U (.cons (.tm U) U .nil))) U ?_
 refine AWl.mv U U U U U ?_
 refine AWl.put ((by first | exact R_fieldAddr U (by first | exact .yes1 U U U U | exact .yes U U U U) U (.tmp U (by first | exact fun _ => rfl | exact id | simp)) fl28_1 | exact R_fieldAddr_pp U (by first | exact .yes1 U U U U | exact .yes U U U U) U (.tmp U (by first | exact fun _ => rfl | exact id | simp)) fl28_1 | exact R_fieldAddr_vw U (by first | exact .yes1 U U U U | exact .yes U U U U) U (.tmp U (by first | exact fun _ => rfl | exact id | simp)) fl28_1 | exact R_fieldAddr_pr U (by first | exact .yes1 U U U U | exact .yes U U U U) U (.tmp U (by first | exact fun _ => rfl | exact id | simp)) fl28_1)) U ?_
 refine AWl.put ((by first | exact R_load U (by first | exact .yes1 U U U U | exact .yes U U U U) U (.tmp U (by first | exact fun _ => rfl | exact id | simp)) ty24 U U | exact R_load_pp U (by first | exact .yes1 U U U U | exact .yes U U U U) U (.tmp U (by first | exact fun _ => rfl | exact id | simp)) U ty24 U U | exact R_load_vw U (by first | exact .yes1 U U U U | exact .yes U U U U) U (.tmp U (by first | exact fun _ => rfl | exact id | simp)) ty24 U U | exact R_load_pr U (by first | exact .yes1 U U U U | exact .yes U U U U) U (.tmp U (by first | exact fun _ => rfl | exact id | simp)) U (by first | assumption | exact map_get (by assumption)) ty24 U U)) U ?_
 refine AWl.put ((by first | exact R_fieldAddr U (by first | exact .yes1 U U U U | exact .yes U U U U) U (.tmp U (by first | exact fun _ => rfl | exact id | simp)) fl28_1 | exact R_fieldAddr_pp U (by first | exact .yes1 U U U U | exact .yes U U U U) U (.tmp U (by first | exact fun _ => rfl | exact id | simp)) fl28_1 | exact R_fieldAddr_vw U (by first | exact .yes1 U U U U | exact .yes U U U U) U (.tmp U (by first | exact fun _ => rfl | exact id | simp)) fl28_1 | exact R_fieldAddr_pr U (by first | exact .yes1 U U U U | exact .yes U U U U) U (.tmp U (by first | exact fun _ => rfl | exact id | simp)) fl28_1)) U ?_
 refine AWl.put ((by first | exact R_load U (by first | exact .yes1 U U U U | exact .yes U U U U) U (.tmp U (by first | exact fun _ => rfl | exact id | simp)) ty24 U U | exact R_load_pp U (by first | exact .yes1 U U U U | exact .yes U U U U) U (.tmp U (by first | exact fun _ => rfl | exact id | simp)) U ty24 U U | exact R_load_vw U (by first | exact .yes1 U U U U | exact .yes U U U U) U (.tmp U (by first | exact fun _ => rfl | exact id | simp)) ty24 U U | exact R_load_pr U (by first | exact .yes1 U U U U | exact .yes U U U U) U (.tmp U (by first | exact fun _ => rfl | exact id | simp)) U (by first | assumption | exact map_get (by assumption)) ty24 U U)) U ?_
 refine AWl.put (R_callq U (by first | exact .yes1 U U U U | exact .yes U U U U) U (.cons (.tmp U (by first | exact fun _ => rfl | exact id | simp)) U (.cons (.tmp U (by first | exact fun _ => rfl | exact id | simp)) U .nil)) fun hq => FnT.fr (implEqualPairs a.Removed b.Removed)) U ?_
 refine AWl.put (R_and U (.no U) U (.tm U) (.tmp U (by first | exact fun _ => rfl | exact id | simp))) U ?_
 refine AWl.av U U U U U ?_
 refine AWl.nil (AW.ret ?_)
 refine Res.v U U ?_
 rw [eqD]
theorem implInvertDelta (d : TDelta) (h1 : d.Added.length ≤ 1073741824) (h2 : d.Removed.length ≤ 1073741824) : FnT Tryz.prog 12 [.agg (cDelta d)] (.a (.agg (cDelta (invD d)))) := by
 refine FnT.walk Tryz.func12 U (by kernel_rfl) Tryz.ntmps12 U fun hlen w0 => ?_
 try simp [cPair, cToken, cExpr, cEdge, cGraph, cStep, cWalk, cChange, cBatch, cHistory, cPositions, cAutomaton, cProductStep, cPathAtom, cConjunction, cView, cDelta, cRegistered, cRegistry] at hlen
 refine AW.sr ?_
 refine AWl.put (R_boxz U U U (.tm U) (ts := _) (by first | rfl | exact cells_t1 _ | exact cells_t2 _)) U ?_
 refine AWl.add (R_alloc 2 U U U in28 U U U) U ?_
 refine AWl.nil (AW.seq ?_)
 refine AW.drawn 7 (nthB [[], [0], [0, 1], [], [3], [0, 1, 2, 3, 4], [0, 1, 2, 3, 4, 5]]) (by kernel_rfl) (by kernel_rfl) (by kernel_rfl) ?_
 refine DrawC.step U U U (Loc.of U fun σ' hs => (by first | exact R_fieldAddr U (.no U) (hd_sup hs U) (.tm (hs.slots _ _ U)) fl28_1 | exact R_fieldAddr_pp U (.no U) (hd_sup hs U) (.tm (hs.slots _ _ U)) fl28_1 | exact R_fieldAddr_vw U (.no U) (hd_sup hs U) (.tm (hs.slots _ _ U)) fl28_1 | exact R_fieldAddr_pr U (.no U) (hd_sup hs U) (.tm (hs.slots _ _ U)) fl28_1)) ?_
 refine DrawC.step U U U (Loc.of U fun σ' hs => (by first | exact R_load U (.no U) (hd_sup hs U) (.tm (hs.slots _ _ U)) ty24 U U | exact R_load_pp U (.no U) (hd_sup hs U) (.tm (hs.slots _ _ U)) (hs.res _ _ U) ty24 U U | exact R_load_vw U (.no U) (hd_sup hs U) (.tm (hs.slots _ _ U)) ty24 U U | exact R_load_pr U (.no U) (hd_sup hs U) (.tm (hs.slots _ _ U)) (hs.res _ _ U) (by first | assumption | exact map_get (by assumption)) ty24 U U)) ?_
 refine DrawC.step U U U (Loc.ofs U fun σ' hs hf => R_call 500 (implcopyPairs d.Removed h2) U U (hd_sup hs U) (.cons (.tm (hs.slots _ _ U)) (readA_sup hs U) .nil) U (all_fresh hf)) ?_
 refine DrawC.step U U U (Loc.of U fun σ' hs => (by first | exact R_fieldAddr U (.no U) (hd_sup hs U) (.tm (hs.slots _ _ U)) fl28_0 | exact R_fieldAddr_pp U (.no U) (hd_sup hs U) (.tm (hs.slots _ _ U)) fl28_0 | exact R_fieldAddr_vw U (.no U) (hd_sup hs U) (.tm (hs.slots _ _ U)) fl28_0 | exact R_fieldAddr_pr U (.no U) (hd_sup hs U) (.tm (hs.slots _ _ U)) fl28_0)) ?_
 refine DrawC.step U U U (Loc.of U fun σ' hs => (by first | exact R_load U (.no U) (hd_sup hs U) (.tm (hs.slots _ _ U)) ty24 U U | exact R_load_pp U (.no U) (hd_sup hs U) (.tm (hs.slots _ _ U)) (hs.res _ _ U) ty24 U U | exact R_load_vw U (.no U) (hd_sup hs U) (.tm (hs.slots _ _ U)) ty24 U U | exact R_load_pr U (.no U) (hd_sup hs U) (.tm (hs.slots _ _ U)) (hs.res _ _ U) (by first | assumption | exact map_get (by assumption)) ty24 U U)) ?_
 refine DrawC.step U U U (Loc.ofs U fun σ' hs hf => R_call 800 (implcopyPairs d.Added h1) U U (hd_sup hs U) (.cons (.tm (hs.slots _ _ U)) (readA_sup hs U) .nil) U (all_fresh hf)) ?_
 refine DrawC.step U U U (Loc.of U fun σ' hs => R_build (ps := [(0, .tmp 5), (1, .tmp 8)]) U U (hd_sup hs U) in28 U U st28 (.cons (.tm (hs.slots _ _ U)) U U fp28_0 (.cons (.tm (hs.slots _ _ U)) U U fp28_1 .nil)) U) ?_
 refine DrawC.fin U U ?_
 refine AWl.chgb (R_store_pb U U U (.tm U) (.tm U) U ty28 U U U (by kernel_rfl) U) ?_
 refine AWl.nil (AW.ret ?_)
 refine Res.one U (.cell U U ty28 U U .nil) U ?_
 rfl
set_option maxRecDepth 100000 in
theorem specl15Pairs : FnD Tryz.prog 47 [] (fun l : List TPair => l.length ≤ 6) (fun l => .a (.one (.sl 2 (l.map cPair)))) := by
 refine FnD.walk Tryz.func47 U (by kernel_rfl) Tryz.ntmps47 U (fun g => rfl) fun w0 g => ?_
 refine AW.sr ?_
 refine AWl.ac U U U U U ?_
 refine AWl.nilS (i := 2) 20001 2 U U ?_
 refine AWl.nil (AW.sr ?_)
 refine AWl.add (R_empty 5 U U U Tryz.underlying24 ty68 U) U ?_
 refine AWl.av U U U U U ?_
 refine AWl.nil (AW.seq ?_)
 refine AW.sr ?_
 refine AWl.mv U U U U U ?_
 refine AWl.opE (R_calld 700 (specl1Below _) U U U (.tm U) U U (.cons (.const U) U .nil) (fun _ => rfl) (fun _ => rfl)) ?_
 rintro _ ⟨z7, hz7, rfl⟩
 try dsimp only at hz7
 refine AWl.av U U U U U ?_
 refine AWl.nil (AW.block ?_)
 refine AW.loop2 (fun (n : Int) (ps : List TPair) => (n ≤ 6 - ps.length ∧ ps.length ≤ 6) ∧ True) (fun (n : Int) (ps : List TPair) => ⟨_, [(4, (true, .a (.one (.t (.v (.int .i64 n)))))), (3, (true, .a (.one (.rf 5)))), (0, _), (2, _)], [(5, .row 2 (ps.map cPair)), (888888, .cur g)]⟩) (fun (n : Int) (ps : List TPair) => n.toNat) (z7) ([]) ⟨by simp; omega, trivial⟩ (Le.sub0 U ⟨U, U, U, U, trivial⟩ ⟨U, U, trivial⟩) ?_
 rintro n ps ⟨hk, he⟩
 refine AW.seq ?_
 refine AW.sr ?_
 refine AWl.mv U U U U U ?_
 refine AWl.put (R_gt U (.no U) U (.tm U) (.const U)) U ?_
 refine AWl.nil ?_
 refine AW.cond (.tm U) (fun h9 => ?_) (fun h9 => ?_)
 · skip
   try simp at h9
   refine AW.skip ?_
   refine AW.seq ?_
   refine AW.block ?_
   refine AW.region ?_
   refine AWl.mv U U U U U ?_
   refine AWl.mv U U U U U ?_
   refine AWl.opE (R_calld 1400 (specl1Below _) U U U (.tm U) U U (.cons (.const U) U .nil) (fun _ => rfl) (fun _ => rfl)) ?_
   rintro _ ⟨z14, hz14, rfl⟩
   try dsimp only at hz14
   refine AWl.mv U U U U U ?_
   refine AWl.opE (R_calld 1600 (specl1Below _) U U U (.tm U) U U (.cons (.const U) U .nil) (fun _ => rfl) (fun _ => rfl)) ?_
   rintro _ ⟨z16, hz16, rfl⟩
   try dsimp only at hz16
   refine AWl.put (R_build (ps := [(0, .tmp 14), (1, .tmp 16)]) U U U in68 U U st68 (.cons (.tm U) U U fp68_0 (.cons (.tm U) U U fp68_1 .nil)) U) U ?_
   apply AWl.consume
   case ho =>
    apply R_consume (xo := .tmp 12) 5 (specl15Put ps ⟨z14, z16⟩ (by (try simp at h9); omega)) rfl rfl rfl (.tm rfl)
    case ha => rfl
    case hargs => exact (ArgC.own (ArgRd.agg (.tm rfl) .nil))
    all_goals rfl
   case hd => rfl
   refine AWl.av U U U U U ?_
   refine AWl.nil ?_
   refine AW.le (σ' := ⟨_, [(0, _), (2, _), (3, _), (4, _)], [(888888, _), (5, _)]⟩) (Le.sub0 U ⟨U, U, U, U, trivial⟩ ⟨U, U, trivial⟩) ?_
   refine AW.region ?_
   refine AWl.mv U U U U U ?_
   refine AWl.put (R_sub U (.no U) U (.tm U) (.const U) (fun _ => by omega)) U ?_
   refine AWl.av U U U U U ?_
   refine AWl.nil ?_
   repeat (with_reducible refine BlockQ.nor ?_)
   refine Round2.next (n - 1) (putG pless ps ⟨z14, z16⟩) ⟨by have := putG_len (lt := pless) ⟨z14, z16⟩ ps; (try simp at h9); omega, trivial⟩ (by (try simp at h9); omega) (Le.sub0 rfl ⟨rfl, rfl, rfl, rfl, trivial⟩ ⟨(by first | rfl | (refine congrArg (fun r => some (R.row _ r)) ?_; simp [chunk, List.map_set, cInt, cBool, cIntS, cPair, cToken, cExpr, cEdge, cGraph, cStep, cWalk, cChange, cBatch, cHistory, cPositions, cAutomaton, cProductStep, cPathAtom, cConjunction, cView, cDelta, cRegistered, cRegistry])), (by first | rfl | (refine congrArg (fun r => some (R.row _ r)) ?_; simp [chunk, List.map_set, cInt, cBool, cIntS, cPair, cToken, cExpr, cEdge, cGraph, cStep, cWalk, cChange, cBatch, cHistory, cPositions, cAutomaton, cProductStep, cPathAtom, cConjunction, cView, cDelta, cRegistered, cRegistry])), trivial⟩)
 · skip
   try simp at h9
   refine AW.exit ?_
   refine AW.sr ?_
   refine AWl.mv U U U U U ?_
   refine AWl.av U U U U U ?_
   refine AWl.nil (AW.ret ?_)
   apply DRes.mk (x := ps) rfl
   case h =>
    refine Res.one U (.tmp U .nil) U ?_
    rfl
   case hp => exact (by (try simp at h9); omega)
set_option maxRecDepth 100000 in
theorem specl15Any : FnD Tryz.prog 38 [] (fun l : List TPair => l.length ≤ 7) (fun l => .a (.one (.sl 2 (l.map cPair)))) := by
 refine FnD.walk Tryz.func38 U (by kernel_rfl) Tryz.ntmps38 U (fun g => rfl) fun w0 g => ?_
 refine AW.sr ?_
 refine AWl.ac U U U U U ?_
 refine AWl.nilS (i := 2) 20001 2 U U ?_
 refine AWl.nil (AW.sr ?_)
 refine AWl.mv U U U U U ?_
 refine AWl.opE (R_calld 500 (specl15Pairs) U U U (.tm U) U U .nil (fun _ => rfl) (fun _ => rfl)) ?_
 rintro _ ⟨z5, hz5, rfl⟩
 try dsimp only at hz5
 refine AWl.av U U U U U ?_
 refine AWl.nil (AW.seq ?_)
 refine AW.sr ?_
 refine AWl.mv U U U U U ?_
 refine AWl.opE (R_calld 700 (specl1Once _) U U U (.tm U) U U (.cons (.const U) U .nil) (fun _ => rfl) (fun _ => rfl)) ?_
 rintro _ ⟨z7, hz7, rfl⟩
 try dsimp only at hz7
 refine AWl.nil ?_
 refine AW.cond (.tm U) (fun h7 => ?_) (fun h7 => ?_)
 · skip
   try simp at h7
   refine AW.region ?_
   refine AWl.mv U U U U U ?_
   refine AWl.mv U U U U U ?_
   refine AWl.absadd (R_list (xs := [.const (.int .i64 (0)), .const (.int .i64 (5)), .const (.int .i64 (-1))]) 10 U U U (.cons (.const U) U U (.cons (.const U) U U (.cons (.const U) U U .nil))) Tryz.underlying55 in3 U U U U) U ?_
   refine AWl.opE (R_calld 1100 (specl1PickInt [0, 5, -1] (by decide)) U U U (.tm U) U U (.cons (.tm U) U .nil) (fun _ => rfl) (fun _ => rfl)) ?_
   rintro _ ⟨z11, hz11, rfl⟩
   try dsimp only at hz11
   refine AWl.mv U U U U U ?_
   refine AWl.opE (R_calld 1300 (specl1Below _) U U U (.tm U) U U (.cons (.const U) U .nil) (fun _ => rfl) (fun _ => rfl)) ?_
   rintro _ ⟨z13, hz13, rfl⟩
   try dsimp only at hz13
   refine AWl.put (R_build (ps := [(0, .tmp 11), (1, .tmp 13)]) U U U in68 U U st68 (.cons (.tm U) U U fp68_0 (.cons (.tm U) U U fp68_1 .nil)) U) U ?_
   refine AWl.absadd (R_list (xs := [.tmp 14]) 15 U U U (.cons (.tm U) U U .nil) Tryz.underlying24 in68 U U U U) U ?_
   refine AWl.chgput (R_append U U U (.tm U) U (.tm U) (by first | exact .t | exact .rf U | exact .vw | exact .nil) (by first | rfl | exact isV_map (fun _ => rfl) _ | exact isV_part (fun _ => rfl) _ _ _) Tryz.underlying24 in68 U (by first | omega | (simp [chunk]; omega) | (simp only [List.length_map, List.length_append, List.length_cons, List.length_nil, chunk]; omega)) (by first | omega | (unfold maxLen; omega) | (unfold maxLen; simp [chunk]; omega) | (unfold maxLen; simp only [List.length_map, List.length_append, List.length_cons, List.length_nil, chunk]; omega))) U ?_
   refine AWl.le (σ' := ⟨_, [(0, _), (2, _), (3, _), (7, _), (16, _)], [(888888, _), (20001, _), (500, _), (10, _), (15, _)]⟩) (Le.sub0 U ⟨U, U, U, U, U, trivial⟩ ⟨U, U, U, U, U, trivial⟩) ?_
   refine AWl.av U U U U U ?_
   refine AWl.nil (AW.sr ?_)
   refine AWl.mv U U U U U ?_
   refine AWl.av U U U U U ?_
   refine AWl.nil (AW.ret ?_)
   apply DRes.mk (x := z5 ++ [⟨z11, z13⟩]) rfl
   case h =>
    refine Res.one U (.tmp U .nil) U ?_
    exact congrArg (fun r => [V0.one (T.sl 2 r)]) (by simp [chunk, cPair])
   case hp => exact (by simp; omega)
 · skip
   try simp at h7
   refine AW.skip ?_
   refine AW.sr ?_
   refine AWl.mv U U U U U ?_
   refine AWl.av U U U U U ?_
   refine AWl.nil (AW.ret ?_)
   apply DRes.mk (x := z5) rfl
   case h =>
    refine Res.one U (.tmp U .nil) U ?_
    rfl
   case hp => exact (by omega)
set_option maxRecDepth 100000 in
theorem specl28Delta : FnD Tryz.prog 49 [] smallD (fun d => .a (.agg (cDelta d))) := by
 refine FnD.walk Tryz.func49 U (by kernel_rfl) Tryz.ntmps49 U (fun g => rfl) fun w0 g => ?_
 refine AW.sr ?_
 refine AWl.add (R_alloc 2 U U U in28 U U U) U ?_
 refine AWl.nil (AW.sr ?_)
 refine AWl.mv U U U U U ?_
 refine AWl.opE (R_calld 500 (specl15Pairs) U U U (.tm U) U U .nil (fun _ => rfl) (fun _ => rfl)) ?_
 rintro _ ⟨z5, hz5, rfl⟩
 try dsimp only at hz5
 refine AWl.mv U U U U U ?_
 refine AWl.opE (R_calld 700 (specl15Pairs) U U U (.tm U) U U .nil (fun _ => rfl) (fun _ => rfl)) ?_
 rintro _ ⟨z7, hz7, rfl⟩
 try dsimp only at hz7
 refine AWl.adds (R_call 800 (specDeltaBetween z5 z7 (by omega) (by omega)) U U U (.cons (.tm U) U (.cons (.tm U) U .nil)) U U) U ?_
 refine AWl.add (R_alloc 3 U U U in28 U U U) U ?_
 refine AWl.chgb (R_store_pb U U U (.tm U) (.tm U) U ty28 U U U (by kernel_rfl) U) ?_
 refine AWl.nil (AW.seq ?_)
 refine AW.sr ?_
 refine AWl.mv U U U U U ?_
 refine AWl.opE (R_calld 1000 (specl1Below _) U U U (.tm U) U U (.cons (.const U) U .nil) (fun _ => rfl) (fun _ => rfl)) ?_
 rintro _ ⟨z10, hz10, rfl⟩
 try dsimp only at hz10
 refine AWl.nil (AW.block ?_)
 refine AW.seq ?_
 refine AW.le (σ' := ⟨_, [(0, _), (2, _), (3, _), (10, _)], [(888888, _), (2, _), (500, _), (700, _), (800, _), (801, _), (3, _)]⟩) (Le.sub0 U ⟨U, U, U, U, trivial⟩ ⟨U, U, U, U, U, U, U, trivial⟩) ?_
 refine AW.region ?_
 refine AWl.put (R_eq U (.no U) U (.tm U) (.const U)) U ?_
 refine AWl.av U U U U U ?_
 refine AWl.nil ?_
 refine AW.cond (.tm U) (fun h11 => ?_) (fun h11 => ?_)
 · skip
   try simp at h11
   refine AW.region ?_
   refine AWl.mv U U U U U ?_
   refine AWl.opE (R_calld 1400 (specl15Any) U U U (.tm U) U U .nil (fun _ => rfl) (fun _ => rfl)) ?_
   rintro _ ⟨z14, hz14, rfl⟩
   try dsimp only at hz14
   refine AWl.put ((by first | exact R_fieldAddr U (.no U) U (.tm U) fl28_0 | exact R_fieldAddr_pp U (.no U) U (.tm U) fl28_0 | exact R_fieldAddr_vw U (.no U) U (.tm U) fl28_0 | exact R_fieldAddr_pr U (.no U) U (.tm U) fl28_0)) U ?_
   refine AWl.chgb (R_store_pb U U U (.tm U) (.tm U) U ty24 U U U (by kernel_rfl) U) ?_
   refine AWl.nil (AW.sr ?_)
   refine AWl.put ((by first | exact R_load U (.no U) U (.tm U) ty28 U U | exact R_load_pp U (.no U) U (.tm U) U ty28 U U | exact R_load_vw U (.no U) U (.tm U) ty28 U U | exact R_load_pr U (.no U) U (.tm U) U (by first | assumption | exact map_get (by assumption)) ty28 U U)) U ?_
   refine AWl.chgb (R_store_pb U U U (.tm U) (.tm U) U ty28 U U U (by kernel_rfl) U) ?_
   refine AWl.nil (AW.ret ?_)
   apply DRes.mk (x := ⟨z14, (deltaB z5 z7).Removed⟩) rfl
   case h =>
    refine Res.one U (.cell U U ty28 U U .nil) U ?_
    rfl
   case hp => exact ⟨by simp only; omega, (smallD_delta (by omega) (by omega)).2⟩
 · skip
   try simp at h11
   refine AW.sr ?_
   refine AWl.put (R_eq U (.no U) U (.tm U) (.const U)) U ?_
   refine AWl.av U U U U U ?_
   refine AWl.nil ?_
   refine AW.cond (.tm U) (fun h16 => ?_) (fun h16 => ?_)
   · skip
     try simp at h16
     have hsd : (deltaB z5 z7).Added.length ≤ 10 ∧ (deltaB z5 z7).Removed.length ≤ 10 := smallD_delta (by omega) (by omega)
     refine AW.region ?_
     refine AWl.put ((by first | exact R_fieldAddr U (.no U) U (.tm U) fl28_1 | exact R_fieldAddr_pp U (.no U) U (.tm U) fl28_1 | exact R_fieldAddr_vw U (.no U) U (.tm U) fl28_1 | exact R_fieldAddr_pr U (.no U) U (.tm U) fl28_1)) U ?_
     refine AWl.put ((by first | exact R_load U (.no U) U (.tm U) ty24 U U | exact R_load_pp U (.no U) U (.tm U) U ty24 U U | exact R_load_vw U (.no U) U (.tm U) ty24 U U | exact R_load_pr U (.no U) U (.tm U) U (by first | assumption | exact map_get (by assumption)) ty24 U U)) U ?_
     refine AWl.put (R_build (ps := []) U U U in68 U U st68 .nil U) U ?_
     refine AWl.absadd (R_list (xs := [.tmp 20]) 21 U U U (.cons (.tm U) U U .nil) Tryz.underlying24 in68 U U U U) U ?_
     refine AWl.chgput (R_append U U U (.tm U) U (.tm U) (by first | exact .t | exact .rf U | exact .vw | exact .nil) (by first | rfl | exact isV_map (fun _ => rfl) _ | exact isV_part (fun _ => rfl) _ _ _) Tryz.underlying24 in68 U (by first | omega | (simp [chunk]; omega) | (simp only [List.length_map, List.length_append, List.length_cons, List.length_nil, chunk]; omega)) (by first | omega | (unfold maxLen; omega) | (unfold maxLen; simp [chunk]; omega) | (unfold maxLen; simp only [List.length_map, List.length_append, List.length_cons, List.length_nil, chunk]; omega))) U ?_
     refine AWl.le (σ' := ⟨_, [(0, _), (2, _), (3, _), (10, _), (11, _), (16, _), (22, _)], [(888888, _), (2, _), (500, _), (700, _), (800, _), (801, _), (3, _), (21, _)]⟩) (Le.sub0 U ⟨U, U, U, U, U, U, U, trivial⟩ ⟨U, U, U, U, U, U, U, U, trivial⟩) ?_
     refine AWl.put ((by first | exact R_fieldAddr U (.no U) U (.tm U) fl28_1 | exact R_fieldAddr_pp U (.no U) U (.tm U) fl28_1 | exact R_fieldAddr_vw U (.no U) U (.tm U) fl28_1 | exact R_fieldAddr_pr U (.no U) U (.tm U) fl28_1)) U ?_
     refine AWl.chgb (R_store_pb U U U (.tm U) (.tm U) U ty24 U U U (by kernel_rfl) U) ?_
     refine AWl.nil (AW.sr ?_)
     refine AWl.put ((by first | exact R_load U (.no U) U (.tm U) ty28 U U | exact R_load_pp U (.no U) U (.tm U) U ty28 U U | exact R_load_vw U (.no U) U (.tm U) ty28 U U | exact R_load_pr U (.no U) U (.tm U) U (by first | assumption | exact map_get (by assumption)) ty28 U U)) U ?_
     refine AWl.chgb (R_store_pb U U U (.tm U) (.tm U) U ty28 U U U (by kernel_rfl) U) ?_
     refine AWl.nil (AW.ret ?_)
     apply DRes.mk (x := ⟨(deltaB z5 z7).Added, (deltaB z5 z7).Removed ++ [⟨0, 0⟩]⟩) rfl
     case h =>
      refine Res.one U (.cell U U ty28 U U .nil) U ?_
      exact congrArg (fun r => [V0.agg [T.sl 2 ((deltaB z5 z7).Added.map cPair), T.sl 2 r]]) (by simp [chunk, cPair])
     case hp => exact ⟨(smallD_delta (by omega) (by omega)).1, by have := psub_len z5 z7; simp [deltaB]; omega⟩
   · skip
     try simp at h16
     refine AW.skip ?_
     refine AW.sr ?_
     refine AWl.put ((by first | exact R_load U (.no U) U (.tm U) ty28 U U | exact R_load_pp U (.no U) U (.tm U) U ty28 U U | exact R_load_vw U (.no U) U (.tm U) ty28 U U | exact R_load_pr U (.no U) U (.tm U) U (by first | assumption | exact map_get (by assumption)) ty28 U U)) U ?_
     refine AWl.chgb (R_store_pb U U U (.tm U) (.tm U) U ty28 U U U (by kernel_rfl) U) ?_
     refine AWl.nil (AW.ret ?_)
     apply DRes.mk (x := deltaB z5 z7) rfl
     case h =>
      refine Res.one U (.cell U U ty28 U U .nil) U ?_
      rfl
     case hp => exact smallD_delta (by omega) (by omega)
set_option maxRecDepth 100000 in
theorem specDrawDeltaBetween (bs : List Int) (hb : ∀ n ∈ bs, 0 ≤ n ∧ n < 256) : FnE Tryz.prog 6 [.one (.sl 1 (byR bs))] (fun z : List TPair × List TPair => z.1.length ≤ 7 ∧ z.2.length ≤ 7) (fun z => .tup [.one (.sl 2 (z.1.map cPair)), .one (.sl 2 (z.2.map cPair))]) := by
 refine FnE.walk Tryz.func6 rfl (by kernel_rfl) Tryz.ntmps6 rfl fun w0 => ?_
 refine AW.sr ?_
 refine AWl.ac U U U U U ?_
 refine AWl.nilS (i := 2) 20001 2 U U ?_
 refine AWl.ac U U U U U ?_
 refine AWl.nilS (i := 3) 20002 2 U U ?_
 refine AWl.nil (AW.sr ?_)
 refine AWl.mv U U U U U ?_
 refine AWl.opE (R_calln 888888 (specl1New) U U U (.tm U) (by assumption) U) ?_
 rintro _ ⟨g, rfl⟩
 refine AWl.av U U U U U ?_
 refine AWl.nil (AW.sr ?_)
 refine AWl.mv U U U U U ?_
 refine AWl.opE (R_calld 900 (specl15Any) U U U (.tm U) U U .nil (fun _ => rfl) (fun _ => rfl)) ?_
 rintro _ ⟨z9, hz9, rfl⟩
 try dsimp only at hz9
 refine AWl.av U U U U U ?_
 refine AWl.nil (AW.sr ?_)
 refine AWl.mv U U U U U ?_
 refine AWl.mv U U U U U ?_
 refine AWl.opE (R_calld 1200 (specl15Any) U U U (.tm U) U U .nil (fun _ => rfl) (fun _ => rfl)) ?_
 rintro _ ⟨z12, hz12, rfl⟩
 try dsimp only at hz12
 refine AWl.av U U U U U ?_
 refine AWl.av U U U U U ?_
 refine AWl.nil (AW.ret ?_)
 apply ERes.mk (x := (z9, z12))
 case h =>
  refine Res.many U (.tmp U (.tmp U .nil)) U ?_ (by simp)
  rfl
 case hp => exact ⟨hz9, hz12⟩
set_option maxRecDepth 100000 in
theorem specDrawComposeDeltas (bs : List Int) (hb : ∀ n ∈ bs, 0 ≤ n ∧ n < 256) : FnE Tryz.prog 15 [.one (.sl 1 (byR bs))] (fun z : TDelta × TDelta => smallD z.1 ∧ smallD z.2) (fun z => .tup [.agg (cDelta z.1), .agg (cDelta z.2)]) := by
 refine FnE.walk Tryz.func15 rfl (by kernel_rfl) Tryz.ntmps15 rfl fun w0 => ?_
 refine AW.sr ?_
 refine AWl.add (R_alloc 2 U U U in28 U U U) U ?_
 refine AWl.add (R_alloc 3 U U U in28 U U U) U ?_
 refine AWl.nil (AW.sr ?_)
 refine AWl.mv U U U U U ?_
 refine AWl.opE (R_calln 888888 (specl1New) U U U (.tm U) (by assumption) U) ?_
 rintro _ ⟨g, rfl⟩
 refine AWl.av U U U U U ?_
 refine AWl.nil (AW.sr ?_)
 refine AWl.mv U U U U U ?_
 refine AWl.opE (R_calld 1000 (specl15Pairs) U U U (.tm U) U U .nil (fun _ => rfl) (fun _ => rfl)) ?_
 rintro _ ⟨z10, hz10, rfl⟩
 try dsimp only at hz10
 refine AWl.av U U U U U ?_
 refine AWl.nil (AW.sr ?_)
 refine AWl.mv U U U U U ?_
 refine AWl.opE (R_calld 1200 (specl15Pairs) U U U (.tm U) U U .nil (fun _ => rfl) (fun _ => rfl)) ?_
 rintro _ ⟨z12, hz12, rfl⟩
 try dsimp only at hz12
 refine AWl.av U U U U U ?_
 refine AWl.nil (AW.seq ?_)
 refine AW.seq ?_
 refine AW.le (σ' := ⟨_, [(0, _), (2, _), (3, _), (4, _), (5, _), (6, _)], [(2, _), (3, _), (888888, _), (1000, _), (1200, _)]⟩) (Le.sub0 U ⟨U, U, U, U, U, U, trivial⟩ ⟨U, U, U, U, U, trivial⟩) ?_
 refine AW.region ?_
 refine AWl.mv U U U U U ?_
 refine AWl.opE (R_calld 1400 (specl1Once _) U U U (.tm U) U U (.cons (.const U) U .nil) (fun _ => rfl) (fun _ => rfl)) ?_
 rintro _ ⟨z14, hz14, rfl⟩
 try dsimp only at hz14
 refine AWl.nil ?_
 refine AW.cond (.tm U) (fun h14 => ?_) (fun h14 => ?_)
 · skip
   try simp at h14
   refine AW.sr ?_
   refine AWl.mv U U U U U ?_
   refine AWl.opE (R_calld 1600 (specl28Delta) U U U (.tm U) U U .nil (fun _ => rfl) (fun _ => rfl)) ?_
   rintro _ ⟨z16, hz16, rfl⟩
   try dsimp only at hz16
   refine AWl.mv U U U U U ?_
   refine AWl.opE (R_calld 1800 (specl28Delta) U U U (.tm U) U U .nil (fun _ => rfl) (fun _ => rfl)) ?_
   rintro _ ⟨z18, hz18, rfl⟩
   try dsimp only at hz18
   refine AWl.chgb (R_store_pb U U U (.tm U) (.tm U) U ty28 U U U (by kernel_rfl) U) ?_
   refine AWl.le (σ' := ⟨_, [(0, _), (2, _), (3, _), (4, _), (5, _), (6, _), (14, _), (18, _)], [(2, _), (3, _), (888888, _), (1000, _), (1200, _), (1600, _), (1601, _), (1800, _), (1801, _)]⟩) (Le.sub0 U ⟨U, U, U, U, U, U, U, U, trivial⟩ ⟨U, U, U, U, U, U, U, U, U, trivial⟩) ?_
   refine AWl.chgb (R_store_pb U U U (.tm U) (.tm U) U ty28 U U U (by kernel_rfl) U) ?_
   refine AWl.nil (AW.ret ?_)
   apply ERes.mk (x := (z16, z18))
   case h =>
    refine Res.many U (.cell U U ty28 U U (.cell U U ty28 U U .nil)) U ?_ (by simp)
    rfl
   case hp => exact ⟨hz16, hz18⟩
 · skip
   try simp at h14
   refine AW.skip ?_
   refine AW.sr ?_
   refine AWl.mv U U U U U ?_
   refine AWl.mv U U U U U ?_
   refine AWl.adds (R_call 2100 (specDeltaBetween z10 z12 (by omega) (by omega)) U U U (.cons (.tm U) U (.cons (.tm U) U .nil)) U U) U ?_
   refine AWl.mv U U U U U ?_
   refine AWl.mv U U U U U ?_
   refine AWl.opE (R_calld 2400 (specl15Pairs) U U U (.tm U) U U .nil (fun _ => rfl) (fun _ => rfl)) ?_
   rintro _ ⟨z24, hz24, rfl⟩
   try dsimp only at hz24
   refine AWl.adds (R_call 2500 (specDeltaBetween z12 z24 (by omega) (by omega)) U U U (.cons (.tm U) U (.cons (.tm U) U .nil)) U U) U ?_
   refine AWl.chgb (R_store_pb U U U (.tm U) (.tm U) U ty28 U U U (by kernel_rfl) U) ?_
   refine AWl.le (σ' := ⟨_, [(0, _), (2, _), (3, _), (4, _), (5, _), (6, _), (14, _), (25, _)], [(2, _), (3, _), (888888, _), (1000, _), (1200, _), (2100, _), (2101, _), (2400, _), (2500, _), (2501, _)]⟩) (Le.sub0 U ⟨U, U, U, U, U, U, U, U, trivial⟩ ⟨U, U, U, U, U, U, U, U, U, U, trivial⟩) ?_
   refine AWl.chgb (R_store_pb U U U (.tm U) (.tm U) U ty28 U U U (by kernel_rfl) U) ?_
   refine AWl.nil (AW.ret ?_)
   apply ERes.mk (x := (deltaB z10 z12, deltaB z12 z24))
   case h =>
    refine Res.many U (.cell U U ty28 U U (.cell U U ty28 U U .nil)) U ?_ (by simp)
    rfl
   case hp => exact ⟨smallD_delta (by omega) (by omega), smallD_delta (by omega) (by omega)⟩
set_option maxRecDepth 100000 in
theorem specDrawApplyDelta (bs : List Int) (hb : ∀ n ∈ bs, 0 ≤ n ∧ n < 256) : FnE Tryz.prog 18 [.one (.sl 1 (byR bs))] (fun z : List TPair × TDelta => z.1.length ≤ 7) (fun z => .tup [.one (.sl 2 (z.1.map cPair)), .agg (cDelta z.2)]) := by
 refine FnE.walk Tryz.func18 rfl (by kernel_rfl) Tryz.ntmps18 rfl fun w0 => ?_
 refine AW.sr ?_
 refine AWl.ac U U U U U ?_
 refine AWl.nilS (i := 2) 20001 2 U U ?_
 refine AWl.add (R_alloc 3 U U U in28 U U U) U ?_
 refine AWl.nil (AW.sr ?_)
 refine AWl.mv U U U U U ?_
 refine AWl.opE (R_calln 888888 (specl1New) U U U (.tm U) (by assumption) U) ?_
 rintro _ ⟨g, rfl⟩
 refine AWl.av U U U U U ?_
 refine AWl.nil (AW.sr ?_)
 refine AWl.mv U U U U U ?_
 refine AWl.opE (R_calld 900 (specl15Pairs) U U U (.tm U) U U .nil (fun _ => rfl) (fun _ => rfl)) ?_
 rintro _ ⟨z9, hz9, rfl⟩
 try dsimp only at hz9
 refine AWl.av U U U U U ?_
 refine AWl.nil (AW.seq ?_)
 refine AW.sr ?_
 refine AWl.mv U U U U U ?_
 refine AWl.opE (R_calld 1100 (specl1Once _) U U U (.tm U) U U (.cons (.const U) U .nil) (fun _ => rfl) (fun _ => rfl)) ?_
 rintro _ ⟨z11, hz11, rfl⟩
 try dsimp only at hz11
 refine AWl.nil ?_
 refine AW.cond (.tm U) (fun h11 => ?_) (fun h11 => ?_)
 · skip
   try simp at h11
   refine AW.seq ?_
   refine AW.le (σ' := ⟨_, [(0, _), (2, _), (3, _), (4, _), (5, _)], [(20001, _), (3, _), (888888, _), (900, _)]⟩) (Le.sub0 U ⟨U, U, U, U, U, trivial⟩ ⟨U, U, U, U, trivial⟩) ?_
   refine AW.region ?_
   refine AWl.mv U U U U U ?_
   refine AWl.mv U U U U U ?_
   refine AWl.opE (R_calld 1400 (specl28Delta) U U U (.tm U) U U .nil (fun _ => rfl) (fun _ => rfl)) ?_
   rintro _ ⟨z14, hz14, rfl⟩
   try dsimp only at hz14
   refine AWl.av U U U U U ?_
   refine AWl.chgb (R_store_pb U U U (.tm U) (.tm U) U ty28 U U U (by kernel_rfl) U) ?_
   refine AWl.nil (AW.ret ?_)
   apply ERes.mk (x := (z9, z14))
   case h =>
    refine Res.many U (.tmp U (.cell U U ty28 U U .nil)) U ?_ (by simp)
    rfl
   case hp => exact (by simp only; omega)
 · skip
   try simp at h11
   refine AW.skip ?_
   refine AW.seq ?_
   refine AW.le (σ' := ⟨_, [(0, _), (2, _), (3, _), (4, _), (5, _)], [(20001, _), (3, _), (888888, _), (900, _)]⟩) (Le.sub0 U ⟨U, U, U, U, U, trivial⟩ ⟨U, U, U, U, trivial⟩) ?_
   refine AW.region ?_
   refine AWl.mv U U U U U ?_
   refine AWl.mv U U U U U ?_
   refine AWl.mv U U U U U ?_
   refine AWl.opE (R_calld 1800 (specl15Pairs) U U U (.tm U) U U .nil (fun _ => rfl) (fun _ => rfl)) ?_
   rintro _ ⟨z18, hz18, rfl⟩
   try dsimp only at hz18
   refine AWl.adds (R_call 1900 (specDeltaBetween z9 z18 (by omega) (by omega)) U U U (.cons (.tm U) U (.cons (.tm U) U .nil)) U U) U ?_
   refine AWl.av U U U U U ?_
   refine AWl.chgb (R_store_pb U U U (.tm U) (.tm U) U ty28 U U U (by kernel_rfl) U) ?_
   refine AWl.nil (AW.ret ?_)
   apply ERes.mk (x := (z9, deltaB z9 z18))
   case h =>
    refine Res.many U (.tmp U (.cell U U ty28 U U .nil)) U ?_ (by simp)
    rfl
   case hp => exact (by simp only; omega)
end Go.Proofs.YtbkhopfpejhnlaaGreatDoor
