import Derived.Test.YtbkhopfpejhnlaaGreatDoorB74da
import Derived.Test.YtbkhopfpejhnlaaGreatDoorB33da
set_option linter.unusedVariables false
set_option linter.unusedSimpArgs false
set_option maxHeartbeats 1000000
set_option maxRecDepth 100000
namespace Go.Proofs.YtbkhopfpejhnlaaGreatDoor
open Go.RowKit Go.Q Go.D
theorem implFormatInt (n : Int) (h0 : 0 ≤ n) (h1 : n < 100) : FnT Tryz.prog 62 [.one (.v (.int .i64 n))] (.a (.one (.v (.string (bs (numS n)))))) := by
 refine FnT.walk Tryz.func62 U (by kernel_rfl) Tryz.ntmps62 U fun hlen w0 => ?_
 try simp [cPair, cToken, cExpr, cEdge, cGraph, cStep, cWalk, cChange, cBatch, cHistory, cPositions, cAutomaton, cProductStep, cPathAtom, cConjunction, cView, cDelta, cRegistered, cRegistry] at hlen
 refine AW.sr ?_
 refine AWl.ac U U U U U ?_
 refine AWl.nil (AW.sr ?_)
 refine AWl.mv U U U U U ?_
 refine AWl.put (R_callz (FnT.fr (strconvItoa n h0 h1)) U (.no U) U (.cons (.tm U) U .nil)) U ?_
 refine AWl.av U U U U U ?_
 refine AWl.nil (AW.ret ?_)
 refine Res.v U U ?_
 rfl
theorem implFormatPairs (l : List TPair) (hz : l.length ≤ 1073741824) : FnT Tryz.prog 52 [.one (.sl 2 (l.map cPair))] (.a (.one (.v (.string (bs (fmtPairs l)))))) := by
 refine FnT.walk Tryz.func52 U (by kernel_rfl) Tryz.ntmps52 U fun hlen w0 => ?_
 try simp [cPair, cToken, cExpr, cEdge, cGraph, cStep, cWalk, cChange, cBatch, cHistory, cPositions, cAutomaton, cProductStep, cPathAtom, cConjunction, cView, cDelta, cRegistered, cRegistry] at hlen
 skip
 refine AW.sr ?_
 refine AWl.ac U U U U U ?_
 refine AWl.nil (AW.seq ?_)
 refine AW.block ?_
 refine AW.sr ?_
 refine AWl.mv U U U U U ?_
 refine AWl.put (R_callz (FnT.fr (implArePairs l)) U (.no U) U (.cons (.tm U) U .nil)) U ?_
 refine AWl.put (R_not U (.no U) U (.tm U)) U ?_
 refine AWl.av U U U U U ?_
 refine AWl.nil ?_
 refine AW.cond (.tm U) (fun h6 => ?_) (fun h6 => ?_)
 · skip
   try simp at h6
   refine AW.sr ?_
   refine AWl.ac U U U U U ?_
   refine AWl.nil (AW.ret ?_)
   refine Res.v U U ?_
   (unfold fmtPairs; rw [if_neg (by simpa using h6)]; rfl)
 · skip
   try simp at h6
   have hap : arePairs l = true := by simpa using h6
   refine AW.sr ?_
   refine AWl.mv U U U U U ?_
   refine AWl.put ((by first | exact R_lenm U (.no U) U (.tm U) (by first | exact .t | exact .rf U | exact .vw | exact .nil) Tryz.underlying24 | exact R_len U (.no U) U (.tm U) (by first | exact .t | exact .rf U | exact .vw | exact .nil) Tryz.underlying24)) U ?_
   refine AWl.put (R_eq U (.no U) U (.tm U) (.const U)) U ?_
   refine AWl.av U U U U U ?_
   refine AWl.nil ?_
   refine AW.cond (.tm U) (fun h10 => ?_) (fun h10 => ?_)
   · skip
     try simp at h10
     refine AW.seq ?_
     refine AW.le (σ' := ⟨_, [(0, _), (2, _)], []⟩) (Le.sub0 U ⟨U, U, trivial⟩ trivial) ?_
     refine AW.region ?_
     refine AWl.ac U U U U U ?_
     refine AWl.nil (AW.ret ?_)
     refine Res.v U U ?_
     (unfold fmtPairs; rw [if_pos hap, if_pos (by simpa using h10)]; rfl)
   · skip
     try simp at h10
     refine AW.skip ?_
     refine AW.seq ?_
     refine AW.le (σ' := ⟨_, [(0, _), (2, _)], []⟩) (Le.sub0 U ⟨U, U, trivial⟩ trivial) ?_
     refine AW.region ?_
     refine AWl.add (R_empty 14 U U U Tryz.underlying87 ty9 U) U ?_
     refine AWl.av U U U U U ?_
     refine AWl.nil (AW.seq ?_)
     refine AW.sr ?_
     refine AWl.mv U U U U U ?_
     refine AWl.put ((by first | exact R_lenm U (.no U) U (.tm U) (by first | exact .t | exact .rf U | exact .vw | exact .nil) Tryz.underlying24 | exact R_len U (.no U) U (.tm U) (by first | exact .t | exact .rf U | exact .vw | exact .nil) Tryz.underlying24)) U ?_
     refine AWl.put (R_move U (.no U) U (.const U)) U ?_
     refine AWl.nil (AW.block ?_)
     refine AW.loop1 (fun (k : Nat) => (k ≤ l.length) ∧ True) (fun (k : Nat) => ⟨_, [(17, (true, .a (.one (.t (.v (.int .i64 (k : Nat))))))), (3, (true, .a (.one (.rf 14)))), (2, _), (15, _), (16, _)], [(14, .row 1 (((l.take k).map fmtPair).map cStr))]⟩) (fun (k : Nat) => l.length - k) (0) ⟨Nat.zero_le _, trivial⟩ (Le.sub0 U ⟨U, U, U, U, U, trivial⟩ ⟨U, trivial⟩) ?_
     rintro k ⟨hk, he⟩
     refine AW.sr ?_
     refine AWl.put (R_lt U (.no U) U (.tm U) (.tm U)) U ?_
     refine AWl.nil (AW.seq ?_)
     refine AW.cond (.tm U) (fun h18 => ?_) (fun h18 => ?_)
     · skip
       try simp at h18
       obtain ⟨p, hp⟩ : ∃ ξ, l[k]? = some ξ := ⟨_, List.getElem?_eq_getElem (by omega)⟩
       have hpr := ap_mem hap p (List.mem_of_getElem? hp)
       have hs1 := numS_len (n := p.From) (by omega)
       have hs2 := numS_len (n := p.To) (by omega)
       refine AW.skip ?_
       refine AW.seq ?_
       refine AW.block ?_
       refine AW.sr ?_
       refine AWl.put ((by first | exact R_indexAddr U (.no U) U (.tm U) (.tm U) Tryz.underlying24 ty68 (fun _ => ⟨by omega, (map_get hp)⟩) | exact R_indexAddr_vw U (.no U) U (.tm U) (.tm U) Tryz.underlying24 ty68 (fun _ => ⟨by omega, (map_get hp)⟩) | exact R_indexAddr_rf U (.no U) U (.tm U) U (.tm U) Tryz.underlying24 ty68 (fun _ => ⟨by omega, (map_get hp)⟩))) U ?_
       refine AWl.put ((by first | exact R_load U (.no U) U (.tm U) ty68 U U | exact R_load_pp U (.no U) U (.tm U) U ty68 U U | exact R_load_vw U (.no U) U (.tm U) ty68 U U | exact R_load_pr U (.no U) U (.tm U) U (map_get hp) ty68 U U)) U ?_
       refine AWl.add (R_alloc 5 U U U in68 U U U) U ?_
       refine AWl.chgb (R_store_pb U U U (.tm U) (.tm U) U ty68 U U U (by kernel_rfl) U) ?_
       refine AWl.nil ?_
       refine AW.drawn 9 (nthB [[], [], [1], [1, 2], [], [4], [1, 2, 3, 4, 5], [1, 2, 3, 4, 5, 6], [1, 2, 3, 4, 5, 6, 7]]) (by kernel_rfl) (by kernel_rfl) (by kernel_rfl) ?_
       refine DrawC.step U U U (Loc.of U fun σ' hs => R_move U (.no U) (hd_sup hs U) (.tm (hs.slots _ _ U))) ?_
       refine DrawC.step U U U (Loc.of U fun σ' hs => (by first | exact R_fieldAddr U (.no U) (hd_sup hs U) (.tm (hs.slots _ _ U)) fl68_0 | exact R_fieldAddr_pp U (.no U) (hd_sup hs U) (.tm (hs.slots _ _ U)) fl68_0 | exact R_fieldAddr_vw U (.no U) (hd_sup hs U) (.tm (hs.slots _ _ U)) fl68_0 | exact R_fieldAddr_pr U (.no U) (hd_sup hs U) (.tm (hs.slots _ _ U)) fl68_0)) ?_
       refine DrawC.step U U U (Loc.of U fun σ' hs => (by first | exact R_load U (.no U) (hd_sup hs U) (.tm (hs.slots _ _ U)) ty3 U U | exact R_load_pp U (.no U) (hd_sup hs U) (.tm (hs.slots _ _ U)) (hs.res _ _ U) ty3 U U | exact R_load_vw U (.no U) (hd_sup hs U) (.tm (hs.slots _ _ U)) ty3 U U | exact R_load_pr U (.no U) (hd_sup hs U) (.tm (hs.slots _ _ U)) (hs.res _ _ U) (map_get hp) ty3 U U)) ?_
       refine DrawC.step U U U (Loc.of U fun σ' hs => R_callz (FnT.fr (implFormatInt p.From (by omega) (by omega))) U (.no U) (hd_sup hs U) (.cons (.tm (hs.slots _ _ U)) (readA_sup hs U) .nil)) ?_
       refine DrawC.step U U U (Loc.of U fun σ' hs => (by first | exact R_fieldAddr U (.no U) (hd_sup hs U) (.tm (hs.slots _ _ U)) fl68_1 | exact R_fieldAddr_pp U (.no U) (hd_sup hs U) (.tm (hs.slots _ _ U)) fl68_1 | exact R_fieldAddr_vw U (.no U) (hd_sup hs U) (.tm (hs.slots _ _ U)) fl68_1 | exact R_fieldAddr_pr U (.no U) (hd_sup hs U) (.tm (hs.slots _ _ U)) fl68_1)) ?_
       refine DrawC.step U U U (Loc.of U fun σ' hs => (by first | exact R_load U (.no U) (hd_sup hs U) (.tm (hs.slots _ _ U)) ty3 U U | exact R_load_pp U (.no U) (hd_sup hs U) (.tm (hs.slots _ _ U)) (hs.res _ _ U) ty3 U U | exact R_load_vw U (.no U) (hd_sup hs U) (.tm (hs.slots _ _ U)) ty3 U U | exact R_load_pr U (.no U) (hd_sup hs U) (.tm (hs.slots _ _ U)) (hs.res _ _ U) (map_get hp) ty3 U U)) ?_
       refine DrawC.step U U U (Loc.of U fun σ' hs => R_callz (FnT.fr (implFormatInt p.To (by omega) (by omega))) U (.no U) (hd_sup hs U) (.cons (.tm (hs.slots _ _ U)) (readA_sup hs U) .nil)) ?_
       refine DrawC.step U U U (Loc.of U fun σ' hs => R_cat U (.no U) (hd_sup hs U) (.tm (hs.slots _ _ U)) (.tm (hs.slots _ _ U)) (fun _ => by rw [bs_size, bs_size]; omega)) ?_
       refine DrawC.step U U U (Loc.of U fun σ' hs => R_listz (xs := [.tmp 28]) (rows := [[.v (.string (bs (numS p.From) ++ bs (numS p.To)))]]) U U (hd_sup hs U) (.cons (.tm (hs.slots _ _ U)) U U .nil) Tryz.underlying87 in9 U U (U)) ?_
       refine DrawC.fin U U ?_
       refine AWl.chgput (R_append U U U (.tm U) U (.tm U) (by first | exact .t | exact .rf U | exact .vw | exact .nil) (by first | rfl | exact isV_map (fun _ => rfl) _ | exact isV_part (fun _ => rfl) _ _ _) Tryz.underlying87 in9 U (by first | omega | (simp [chunk]; omega) | (simp only [List.length_map, List.length_append, List.length_cons, List.length_nil, chunk]; omega)) (by first | omega | (unfold maxLen; omega) | (unfold maxLen; simp [chunk]; omega) | (unfold maxLen; simp only [List.length_map, List.length_append, List.length_cons, List.length_nil, chunk]; omega))) U ?_
       refine AWl.le (σ' := ⟨_, [(2, _), (3, _), (5, _), (15, _), (16, _), (17, _), (18, _), (30, _)], [(14, _), (5, _)]⟩) (Le.sub0 U ⟨U, U, U, U, U, U, U, U, trivial⟩ ⟨U, U, trivial⟩) ?_
       refine AWl.av U U U U U ?_
       refine AWl.nil (AW.region ?_)
       refine AWl.put (R_add U (.no U) U (.tm U) (.const U) (fun _ => by omega)) U ?_
       refine AWl.mv U U U U U ?_
       refine AWl.nil ?_
       repeat (with_reducible refine BlockQ.nor ?_)
       refine Round1.next (k + 1) ⟨by omega, trivial⟩ (by omega) (Le.sub0 rfl ⟨rfl, rfl, rfl, rfl, rfl, trivial⟩ ⟨(by refine congrArg (fun r => some (R.row 1 r)) ?_; rw [take_at hp]; simp [chunk, cStr, fmtPair, bs_append]; done), trivial⟩)
     · skip
       try simp at h18
       refine AW.exit ?_
       refine AW.seq ?_
       refine AW.le (σ' := ⟨_, [(2, _), (3, _), (15, _), (16, _), (17, _)], [(14, .row 1 ((l.map fmtPair).map cStr))]⟩) (Le.sub0 U ⟨U, U, U, U, U, trivial⟩ ⟨by rw [List.take_of_length_le (by omega)]; rfl, trivial⟩) ?_
       refine AW.region ?_
       refine AWl.mv U U U U U ?_
       refine AWl.put (R_callz (FnT.fr (stringsJoin (l.map fmtPair) [32] (by have := joinL_len (sep := [32]) (b := 4) (f := fmtPair) (l := l) fun p hp => fmtPair_len (ap_mem hap p hp); simp at this; omega) (by rw [List.length_map]; omega))) U (.no U) U (.cons (.tm U) U (.cons (.const U) U .nil))) U ?_
       refine AWl.av U U U U U ?_
       refine AWl.nil (AW.ret ?_)
       refine Res.v U U ?_
       (unfold fmtPairs; rw [if_pos hap, if_neg (by simpa using h10)])
theorem implFormatDelta (d : TDelta) (hz1 : d.Added.length ≤ 1073741824) (hz2 : d.Removed.length ≤ 1073741824) : FnT Tryz.prog 20 [.agg (cDelta d)] (.a (.one (.v (.string (bs (fmtDelta d)))))) := by
 refine FnT.walk Tryz.func20 U (by kernel_rfl) Tryz.ntmps20 U fun hlen w0 => ?_
 try simp [cPair, cToken, cExpr, cEdge, cGraph, cStep, cWalk, cChange, cBatch, cHistory, cPositions, cAutomaton, cProductStep, cPathAtom, cConjunction, cView, cDelta, cRegistered, cRegistry] at hlen
 have hl1 := fmtPairs_len d.Added
 have hl2 := fmtPairs_len d.Removed
 have e1 : (⟨#[43]⟩ : ByteArray).size = 1 := rfl
 have e2 : (⟨#[32, 45]⟩ : ByteArray).size = 2 := rfl
 refine AW.sr ?_
 refine AWl.put (R_boxz U U U (.tm U) (ts := _) (by first | rfl | exact cells_t1 _ | exact cells_t2 _)) U ?_
 refine AWl.ac U U U U U ?_
 refine AWl.nil (AW.seq ?_)
 refine AW.sr ?_
 refine AWl.put ((by first | exact R_load U (.no U) U (.tm U) ty28 U U | exact R_load_pp U (.no U) U (.tm U) U ty28 U U | exact R_load_vw U (.no U) U (.tm U) ty28 U U | exact R_load_pr U (.no U) U (.tm U) U (by first | assumption | exact map_get (by assumption)) ty28 U U)) U ?_
 refine AWl.put (R_callz (FnT.fr (implIsDelta d)) U (.no U) U (.cons (.tm U) U .nil)) U ?_
 refine AWl.put (R_not U (.no U) U (.tm U)) U ?_
 refine AWl.nil ?_
 refine AW.cond (.tm U) (fun h5 => ?_) (fun h5 => ?_)
 · skip
   try simp at h5
   refine AW.sr ?_
   refine AWl.ac U U U U U ?_
   refine AWl.nil (AW.ret ?_)
   refine Res.v U U ?_
   (unfold fmtDelta; rw [if_neg (by simpa using h5)]; rfl)
 · skip
   try simp at h5
   refine AW.skip ?_
   refine AW.seq ?_
   refine AW.drawn 10 (nthB [[], [0], [0, 1], [0, 1, 2], [0, 1, 2, 3], [], [5], [0, 1, 2, 5, 6], [0, 1, 2, 3, 4, 5, 6, 7], [0, 1, 2, 3, 4, 5, 6, 7, 8]]) (by kernel_rfl) (by kernel_rfl) (by kernel_rfl) ?_
   refine DrawC.step U U U (Loc.of U fun σ' hs => (by first | exact R_fieldAddr U (.no U) (hd_sup hs U) (.tm (hs.slots _ _ U)) fl28_0 | exact R_fieldAddr_pp U (.no U) (hd_sup hs U) (.tm (hs.slots _ _ U)) fl28_0 | exact R_fieldAddr_vw U (.no U) (hd_sup hs U) (.tm (hs.slots _ _ U)) fl28_0 | exact R_fieldAddr_pr U (.no U) (hd_sup hs U) (.tm (hs.slots _ _ U)) fl28_0)) ?_
   refine DrawC.step U U U (Loc.of U fun σ' hs => (by first | exact R_load U (.no U) (hd_sup hs U) (.tm (hs.slots _ _ U)) ty24 U U | exact R_load_pp U (.no U) (hd_sup hs U) (.tm (hs.slots _ _ U)) (hs.res _ _ U) ty24 U U | exact R_load_vw U (.no U) (hd_sup hs U) (.tm (hs.slots _ _ U)) ty24 U U | exact R_load_pr U (.no U) (hd_sup hs U) (.tm (hs.slots _ _ U)) (hs.res _ _ U) (by first | assumption | exact map_get (by assumption)) ty24 U U)) ?_
   refine DrawC.step U U U (Loc.of U fun σ' hs => R_callz (FnT.fr (implFormatPairs d.Added hz1)) U (.no U) (hd_sup hs U) (.cons (.tm (hs.slots _ _ U)) (readA_sup hs U) .nil)) ?_
   refine DrawC.step U U U (Loc.of U fun σ' hs => R_cat U (.no U) (hd_sup hs U) (.const U) (.tm (hs.slots _ _ U)) (fun _ => by simp only [ByteArray.size_append, bs_size]; omega)) ?_
   refine DrawC.step U U U (Loc.of U fun σ' hs => R_cat U (.no U) (hd_sup hs U) (.tm (hs.slots _ _ U)) (.const U) (fun _ => by simp only [ByteArray.size_append, bs_size]; omega)) ?_
   refine DrawC.step U U U (Loc.of U fun σ' hs => (by first | exact R_fieldAddr U (.no U) (hd_sup hs U) (.tm (hs.slots _ _ U)) fl28_1 | exact R_fieldAddr_pp U (.no U) (hd_sup hs U) (.tm (hs.slots _ _ U)) fl28_1 | exact R_fieldAddr_vw U (.no U) (hd_sup hs U) (.tm (hs.slots _ _ U)) fl28_1 | exact R_fieldAddr_pr U (.no U) (hd_sup hs U) (.tm (hs.slots _ _ U)) fl28_1)) ?_
   refine DrawC.step U U U (Loc.of U fun σ' hs => (by first | exact R_load U (.no U) (hd_sup hs U) (.tm (hs.slots _ _ U)) ty24 U U | exact R_load_pp U (.no U) (hd_sup hs U) (.tm (hs.slots _ _ U)) (hs.res _ _ U) ty24 U U | exact R_load_vw U (.no U) (hd_sup hs U) (.tm (hs.slots _ _ U)) ty24 U U | exact R_load_pr U (.no U) (hd_sup hs U) (.tm (hs.slots _ _ U)) (hs.res _ _ U) (by first | assumption | exact map_get (by assumption)) ty24 U U)) ?_
   refine DrawC.step U U U (Loc.of U fun σ' hs => R_callz (FnT.fr (implFormatPairs d.Removed hz2)) U (.no U) (hd_sup hs U) (.cons (.tm (hs.slots _ _ U)) (readA_sup hs U) .nil)) ?_
   refine DrawC.step U U U (Loc.of U fun σ' hs => R_cat U (.no U) (hd_sup hs U) (.tm (hs.slots _ _ U)) (.tm (hs.slots _ _ U)) (fun _ => by simp only [ByteArray.size_append, bs_size]; omega)) ?_
   refine DrawC.step U U U (Loc.of U fun σ' hs => R_assign U (.no U) (hd_sup hs U) (.tm (hs.slots _ _ U))) ?_
   refine DrawC.fin U U ?_
   refine AWl.nil (AW.ret ?_)
   refine Res.v U U ?_
   (unfold fmtDelta; rw [if_pos (by simpa using h5), show (⟨#[43]⟩ : ByteArray) = bs [43] from rfl, show (⟨#[32, 45]⟩ : ByteArray) = bs [32, 45] from rfl]; simp only [bs_append])
end Go.Proofs.YtbkhopfpejhnlaaGreatDoor
