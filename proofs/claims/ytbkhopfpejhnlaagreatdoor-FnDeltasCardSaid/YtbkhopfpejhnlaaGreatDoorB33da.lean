import Derived.Test.YtbkhopfpejhnlaaGreatDoorB28da
set_option linter.unusedVariables false
set_option linter.unusedSimpArgs false
set_option maxHeartbeats 1000000
set_option maxRecDepth 100000
namespace Go.Q
open Go.D
end Go.Q
namespace Go.Proofs.YtbkhopfpejhnlaaGreatDoor
open Go.RowKit Go.Q Go.D
theorem implcopyPairs (l : List TPair) (hz : l.length ≤ 1073741824) : FnT Tryz.prog 45 [.one (.sl 2 (l.map cPair))] (.a (.one (.sl 2 (l.map cPair)))) := by
 refine FnT.walk Tryz.func45 U (by kernel_rfl) Tryz.ntmps45 U fun hlen w0 => ?_
 try simp [cPair, cToken, cExpr, cEdge, cGraph, cStep, cWalk, cChange, cBatch, cHistory, cPositions, cAutomaton, cProductStep, cPathAtom, cConjunction, cView, cDelta, cRegistered, cRegistry] at hlen
 refine AW.sr ?_
 refine AWl.ac U U U U U ?_
 refine AWl.nilS (i := 2) 20001 2 U U ?_
 refine AWl.nil (AW.sr ?_)
 refine AWl.add (R_empty 3 U U U Tryz.underlying24 ty68 U) U ?_
 refine AWl.mv U U U U U ?_
 refine AWl.chgput (R_append U U U (.tm U) U (.tm U) (by first | exact .t | exact .rf U | exact .vw | exact .nil) (by first | rfl | exact isV_map (fun _ => rfl) _ | exact isV_part (fun _ => rfl) _ _ _) Tryz.underlying24 in68 U (by first | omega | (simp [chunk]; omega) | (simp only [List.length_map, List.length_append, List.length_cons, List.length_nil, chunk]; omega)) (by first | omega | (unfold maxLen; omega) | (unfold maxLen; simp [chunk]; omega) | (unfold maxLen; simp only [List.length_map, List.length_append, List.length_cons, List.length_nil, chunk]; omega))) U ?_
 refine AWl.le (σ' := ⟨_, [(0, _), (2, _), (5, _)], [(20001, _), (3, _)]⟩) (Le.sub0 U ⟨U, U, U, trivial⟩ ⟨U, U, trivial⟩) ?_
 refine AWl.av U U U U U ?_
 refine AWl.nil (AW.ret ?_)
 refine Res.one U (.tmp U .nil) U ?_
 rfl
theorem implpairSet' (L : List (List T)) (l : List TPair) (hL : L = l.map cPair) (hz : l.length ≤ 4294967296) : FnT Tryz.prog 76 [.one (.sl 2 L)] (.a (.one (.sl 2 ((setG pless l).map cPair)))) := by
 subst hL; exact implpairSet l hz
theorem implMergePairs (a b : List TPair) (hz : a.length + b.length ≤ 1073741824) : FnT Tryz.prog 46 [.one (.sl 2 (a.map cPair)), .one (.sl 2 (b.map cPair))] (.a (.one (.sl 2 ((pmerge a b).map cPair)))) := by
 refine FnT.walk Tryz.func46 U (by kernel_rfl) Tryz.ntmps46 U fun hlen w0 => ?_
 try simp [cPair, cToken, cExpr, cEdge, cGraph, cStep, cWalk, cChange, cBatch, cHistory, cPositions, cAutomaton, cProductStep, cPathAtom, cConjunction, cView, cDelta, cRegistered, cRegistry] at hlen
 refine AW.sr ?_
 refine AWl.ac U U U U U ?_
 refine AWl.nilS (i := 4) 20001 2 U U ?_
 refine AWl.nil (AW.sr ?_)
 refine AWl.add (R_empty 5 U U U Tryz.underlying24 ty68 U) U ?_
 refine AWl.mv U U U U U ?_
 refine AWl.chgput (R_append U U U (.tm U) U (.tm U) (by first | exact .t | exact .rf U | exact .vw | exact .nil) (by first | rfl | exact isV_map (fun _ => rfl) _ | exact isV_part (fun _ => rfl) _ _ _) Tryz.underlying24 in68 U (by first | omega | (simp [chunk]; omega) | (simp only [List.length_map, List.length_append, List.length_cons, List.length_nil, chunk]; omega)) (by first | omega | (unfold maxLen; omega) | (unfold maxLen; simp [chunk]; omega) | (unfold maxLen; simp only [List.length_map, List.length_append, List.length_cons, List.length_nil, chunk]; omega))) U ?_
 refine AWl.le (σ' := ⟨_, [(0, _), (1, _), (4, _), (7, _)], [(20001, _), (5, _)]⟩) (Le.sub0 U ⟨U, U, U, U, trivial⟩ ⟨U, U, trivial⟩) ?_
 refine AWl.mv U U U U U ?_
 refine AWl.chgput (R_append U U U (.tm U) U (.tm U) (by first | exact .t | exact .rf U | exact .vw | exact .nil) (by first | rfl | exact isV_map (fun _ => rfl) _ | exact isV_part (fun _ => rfl) _ _ _) Tryz.underlying24 in68 U (by first | omega | (simp [chunk]; omega) | (simp only [List.length_map, List.length_append, List.length_cons, List.length_nil, chunk]; omega)) (by first | omega | (unfold maxLen; omega) | (unfold maxLen; simp [chunk]; omega) | (unfold maxLen; simp only [List.length_map, List.length_append, List.length_cons, List.length_nil, chunk]; omega))) U ?_
 refine AWl.le (σ' := ⟨_, [(0, _), (1, _), (4, _), (9, _)], [(20001, _), (5, _)]⟩) (Le.sub0 U ⟨U, U, U, U, trivial⟩ ⟨U, U, trivial⟩) ?_
 refine AWl.adds (R_call 1000 (implpairSet' ([] ++ a.map cPair ++ b.map cPair) (a ++ b) (by simp) (by simp; omega)) U U U (.cons (.tm U) U .nil) U U) U ?_
 refine AWl.av U U U U U ?_
 refine AWl.nil (AW.ret ?_)
 refine Res.one U (.tmp U .nil) U ?_
 rfl
theorem specMergePairs (a b : List TPair) (hz : a.length + b.length ≤ 1073741824) : FnT Tryz.prog 51 [.one (.sl 2 (a.map cPair)), .one (.sl 2 (b.map cPair))] (.a (.one (.sl 2 ((pmerge a b).map cPair)))) := by
 refine FnT.walk Tryz.func51 U (by kernel_rfl) Tryz.ntmps51 U fun hlen w0 => ?_
 try simp [cPair, cToken, cExpr, cEdge, cGraph, cStep, cWalk, cChange, cBatch, cHistory, cPositions, cAutomaton, cProductStep, cPathAtom, cConjunction, cView, cDelta, cRegistered, cRegistry] at hlen
 refine AW.sr ?_
 refine AWl.ac U U U U U ?_
 refine AWl.nilS (i := 4) 20001 2 U U ?_
 refine AWl.nil (AW.sr ?_)
 refine AWl.add (R_empty 8 U U U Tryz.underlying24 ty68 U) U ?_
 refine AWl.av U U U U U ?_
 refine AWl.nil (AW.seq ?_)
 refine AW.sr ?_
 refine AWl.ac U U U U U ?_
 refine AWl.nil (AW.block ?_)
 refine AW.loop1 (fun (k : Nat) => (k ≤ a.length) ∧ True) (fun (k : Nat) => ⟨_, [(6, (true, .a (.one (.t (.v (.int .i64 (k : Nat))))))), (5, (true, .a (.one (.rf 8)))), (0, _), (1, _), (4, _)], [(8, .row 2 ((setG pless (a.take k)).map cPair))]⟩) (fun (k : Nat) => a.length - k) (0) ⟨Nat.zero_le _, trivial⟩ (Le.sub0 U ⟨U, U, U, U, U, trivial⟩ ⟨U, trivial⟩) ?_
 rintro k ⟨hk, he⟩
 refine AW.seq ?_
 refine AW.sr ?_
 refine AWl.mv U U U U U ?_
 refine AWl.mv U U U U U ?_
 refine AWl.put ((by first | exact R_lenm U (.no U) U (.tm U) (by first | exact .t | exact .rf U | exact .vw | exact .nil) Tryz.underlying24 | exact R_len U (.no U) U (.tm U) (by first | exact .t | exact .rf U | exact .vw | exact .nil) Tryz.underlying24)) U ?_
 refine AWl.put (R_lt U (.no U) U (.tm U) (.tm U)) U ?_
 refine AWl.nil ?_
 refine AW.cond (.tm U) (fun h12 => ?_) (fun h12 => ?_)
 · skip
   try simp at h12
   obtain ⟨x, hx⟩ : ∃ ξ, a[k]? = some ξ := ⟨_, List.getElem?_eq_getElem (by omega)⟩
   refine AW.skip ?_
   refine AW.seq ?_
   refine AW.block ?_
   refine AW.region ?_
   refine AWl.mv U U U U U ?_
   refine AWl.mv U U U U U ?_
   refine AWl.mv U U U U U ?_
   refine AWl.put ((by first | exact R_indexAddr U (.no U) U (.tm U) (.tm U) Tryz.underlying24 ty68 (fun _ => ⟨by omega, (by first | exact map_get hx | exact map_get hy)⟩) | exact R_indexAddr_vw U (.no U) U (.tm U) (.tm U) Tryz.underlying24 ty68 (fun _ => ⟨by omega, (by first | exact map_get hx | exact map_get hy)⟩) | exact R_indexAddr_rf U (.no U) U (.tm U) U (.tm U) Tryz.underlying24 ty68 (fun _ => ⟨by omega, (by first | exact map_get hx | exact map_get hy)⟩))) U ?_
   refine AWl.put ((by first | exact R_load U (.no U) U (.tm U) ty68 U U | exact R_load_pp U (.no U) U (.tm U) U ty68 U U | exact R_load_vw U (.no U) U (.tm U) ty68 U U | exact R_load_pr U (.no U) U (.tm U) U (by first | exact map_get hx | exact map_get hy) ty68 U U)) U ?_
   apply AWl.consume
   case ho =>
    apply R_consume (xo := .tmp 15) 8 (specl15Put (setG pless (a.take k)) x (Nat.le_trans (setG_len _) (by simp; omega))) rfl rfl rfl (.tm rfl)
    case ha => rfl
    case hargs => exact (ArgC.own (ArgRd.agg (.tm rfl) .nil))
    all_goals rfl
   case hd => rfl
   refine AWl.av U U U U U ?_
   refine AWl.nil ?_
   refine AW.le (σ' := ⟨_, [(0, _), (1, _), (4, _), (5, _), (6, _)], [(8, _)]⟩) (Le.sub0 U ⟨U, U, U, U, U, trivial⟩ ⟨U, trivial⟩) ?_
   refine AW.region ?_
   refine AWl.mv U U U U U ?_
   refine AWl.put (R_add U (.no U) U (.tm U) (.const U) (fun _ => by omega)) U ?_
   refine AWl.av U U U U U ?_
   refine AWl.nil ?_
   repeat (with_reducible refine BlockQ.nor ?_)
   refine Round1.next (k + 1) ⟨by omega, trivial⟩ (by omega) (Le.sub0 rfl ⟨rfl, rfl, rfl, rfl, rfl, trivial⟩ ⟨(by refine congrArg (fun r => some (R.row 2 r)) ?_; first | (simp [take_at hx, setG, List.foldl_append]; done) | (simp [take_at hy, setG, List.foldl_append]; done)), trivial⟩)
 · skip
   try simp at h12
   refine AW.exit ?_
   refine AW.seq ?_
   refine AW.seq ?_
   refine AW.le (σ' := ⟨_, [(0, _), (1, _), (4, _), (5, _), (6, _)], [(8, .row 2 ((setG pless (a ++ b.take 0)).map cPair))]⟩) (Le.sub0 U ⟨U, U, U, U, U, trivial⟩ ⟨by refine congrArg (fun r => some (R.row 2 r)) ?_; rw [List.take_of_length_le (by omega)]; simp, trivial⟩) ?_
   refine AW.region ?_
   refine AWl.ac U U U U U ?_
   refine AWl.nil (AW.block ?_)
   refine AW.loop1 (fun (k2 : Nat) => (k2 ≤ b.length) ∧ True) (fun (k2 : Nat) => ⟨_, [(7, (true, .a (.one (.t (.v (.int .i64 (k2 : Nat))))))), (5, (true, .a (.one (.rf 8)))), (1, _), (4, _)], [(8, .row 2 ((setG pless (a ++ b.take k2)).map cPair))]⟩) (fun (k2 : Nat) => b.length - k2) (0) ⟨Nat.zero_le _, trivial⟩ (Le.sub0 U ⟨U, U, U, U, trivial⟩ ⟨U, trivial⟩) ?_
   rintro k2 ⟨hk1, he1⟩
   refine AW.seq ?_
   refine AW.sr ?_
   refine AWl.mv U U U U U ?_
   refine AWl.mv U U U U U ?_
   refine AWl.put ((by first | exact R_lenm U (.no U) U (.tm U) (by first | exact .t | exact .rf U | exact .vw | exact .nil) Tryz.underlying24 | exact R_len U (.no U) U (.tm U) (by first | exact .t | exact .rf U | exact .vw | exact .nil) Tryz.underlying24)) U ?_
   refine AWl.put (R_lt U (.no U) U (.tm U) (.tm U)) U ?_
   refine AWl.nil ?_
   refine AW.cond (.tm U) (fun h24 => ?_) (fun h24 => ?_)
   · skip
     try simp at h24
     obtain ⟨y, hy⟩ : ∃ ξ, b[k2]? = some ξ := ⟨_, List.getElem?_eq_getElem (by omega)⟩
     refine AW.skip ?_
     refine AW.seq ?_
     refine AW.block ?_
     refine AW.region ?_
     refine AWl.mv U U U U U ?_
     refine AWl.mv U U U U U ?_
     refine AWl.mv U U U U U ?_
     refine AWl.put ((by first | exact R_indexAddr U (.no U) U (.tm U) (.tm U) Tryz.underlying24 ty68 (fun _ => ⟨by omega, (by first | exact map_get hx | exact map_get hy)⟩) | exact R_indexAddr_vw U (.no U) U (.tm U) (.tm U) Tryz.underlying24 ty68 (fun _ => ⟨by omega, (by first | exact map_get hx | exact map_get hy)⟩) | exact R_indexAddr_rf U (.no U) U (.tm U) U (.tm U) Tryz.underlying24 ty68 (fun _ => ⟨by omega, (by first | exact map_get hx | exact map_get hy)⟩))) U ?_
     refine AWl.put ((by first | exact R_load U (.no U) U (.tm U) ty68 U U | exact R_load_pp U (.no U) U (.tm U) U ty68 U U | exact R_load_vw U (.no U) U (.tm U) ty68 U U | exact R_load_pr U (.no U) U (.tm U) U (by first | exact map_get hx | exact map_get hy) ty68 U U)) U ?_
     apply AWl.consume
     case ho =>
      apply R_consume (xo := .tmp 27) 8 (specl15Put (setG pless (a ++ b.take k2)) y (Nat.le_trans (setG_len _) (by simp; omega))) rfl rfl rfl (.tm rfl)
      case ha => rfl
      case hargs => exact (ArgC.own (ArgRd.agg (.tm rfl) .nil))
      all_goals rfl
     case hd => rfl
     refine AWl.av U U U U U ?_
     refine AWl.nil ?_
     refine AW.le (σ' := ⟨_, [(1, _), (4, _), (5, _), (7, _)], [(8, _)]⟩) (Le.sub0 U ⟨U, U, U, U, trivial⟩ ⟨U, trivial⟩) ?_
     refine AW.region ?_
     refine AWl.mv U U U U U ?_
     refine AWl.put (R_add U (.no U) U (.tm U) (.const U) (fun _ => by omega)) U ?_
     refine AWl.av U U U U U ?_
     refine AWl.nil ?_
     repeat (with_reducible refine BlockQ.nor ?_)
     refine Round1.next (k2 + 1) ⟨by omega, trivial⟩ (by omega) (Le.sub0 rfl ⟨rfl, rfl, rfl, rfl, trivial⟩ ⟨(by refine congrArg (fun r => some (R.row 2 r)) ?_; first | (simp [take_at hx, setG, List.foldl_append]; done) | (simp [take_at hy, setG, List.foldl_append]; done)), trivial⟩)
   · skip
     try simp at h24
     refine AW.exit ?_
     refine AW.sr ?_
     refine AWl.mv U U U U U ?_
     refine AWl.av U U U U U ?_
     refine AWl.nil (AW.ret ?_)
     refine Res.one U (.tmp U .nil) U ?_
     unfold pmerge; rw [List.take_of_length_le (by omega)]; rfl
theorem specIsDelta (d : TDelta) : FnT Tryz.prog 22 [.agg (cDelta d)] (.a (.one (.v (.bool (isDelta d))))) := by
 refine FnT.walk Tryz.func22 U (by kernel_rfl) Tryz.ntmps22 U fun hlen w0 => ?_
 try simp [cPair, cToken, cExpr, cEdge, cGraph, cStep, cWalk, cChange, cBatch, cHistory, cPositions, cAutomaton, cProductStep, cPathAtom, cConjunction, cView, cDelta, cRegistered, cRegistry] at hlen
 refine AW.sr ?_
 refine AWl.put (R_boxz U U U (.tm U) (ts := _) (by first | rfl | exact cells_t1 _ | exact cells_t2 _)) U ?_
 refine AWl.ac U U U U U ?_
 refine AWl.nil (AW.seq ?_)
 refine AW.sr ?_
 refine AWl.ac U U U U U ?_
 refine AWl.nil (AW.block ?_)
 refine AW.loop1 (fun (k : Nat) => (k ≤ d.Added.length ∧ ∀ j y, j < k → d.Added[j]? = some y → (!decide (y ∈ d.Removed)) = true) ∧ True) (fun (k : Nat) => ⟨_, [(3, (true, .a (.one (.t (.v (.int .i64 (k : Nat))))))), (1, _)], []⟩) (fun (k : Nat) => d.Added.length - k) (0) ⟨⟨Nat.zero_le _, fun j y hj => absurd hj (Nat.not_lt_zero j)⟩, trivial⟩ (Le.sub0 U ⟨U, U, trivial⟩ trivial) ?_
 rintro k ⟨hk, he⟩
 refine AW.seq ?_
 refine AW.sr ?_
 refine AWl.mv U U U U U ?_
 refine AWl.put ((by first | exact R_fieldAddr U (.no U) U (.tm U) fl28_0 | exact R_fieldAddr_pp U (.no U) U (.tm U) fl28_0 | exact R_fieldAddr_vw U (.no U) U (.tm U) fl28_0 | exact R_fieldAddr_pr U (.no U) U (.tm U) fl28_0)) U ?_
 refine AWl.put ((by first | exact R_load U (.no U) U (.tm U) ty24 U U | exact R_load_pp U (.no U) U (.tm U) U ty24 U U | exact R_load_vw U (.no U) U (.tm U) ty24 U U | exact R_load_pr U (.no U) U (.tm U) U (map_get hx) ty24 U U)) U ?_
 refine AWl.put ((by first | exact R_lenm U (.no U) U (.tm U) (by first | exact .t | exact .rf U | exact .vw | exact .nil) Tryz.underlying24 | exact R_len U (.no U) U (.tm U) (by first | exact .t | exact .rf U | exact .vw | exact .nil) Tryz.underlying24)) U ?_
 refine AWl.put (R_lt U (.no U) U (.tm U) (.tm U)) U ?_
 refine AWl.nil ?_
 refine AW.cond (.tm U) (fun h8 => ?_) (fun h8 => ?_)
 · skip
   try simp at h8
   obtain ⟨x, hx⟩ : ∃ ξ, d.Added[k]? = some ξ := ⟨_, List.getElem?_eq_getElem (by omega)⟩
   refine AW.skip ?_
   refine AW.seq ?_
   refine AW.block ?_
   refine AW.seq ?_
   refine AW.drawn 8 (nthB [[], [0], [], [2], [], [2, 3, 4], [2, 3, 4, 5], [0, 1, 2, 3, 4, 5, 6]]) (by kernel_rfl) (by kernel_rfl) (by kernel_rfl) ?_
   refine DrawC.step U U U (Loc.of U fun σ' hs => (by first | exact R_fieldAddr U (.no U) (hd_sup hs U) (.tm (hs.slots _ _ U)) fl28_1 | exact R_fieldAddr_pp U (.no U) (hd_sup hs U) (.tm (hs.slots _ _ U)) fl28_1 | exact R_fieldAddr_vw U (.no U) (hd_sup hs U) (.tm (hs.slots _ _ U)) fl28_1 | exact R_fieldAddr_pr U (.no U) (hd_sup hs U) (.tm (hs.slots _ _ U)) fl28_1)) ?_
   refine DrawC.step U U U (Loc.of U fun σ' hs => (by first | exact R_load U (.no U) (hd_sup hs U) (.tm (hs.slots _ _ U)) ty24 U U | exact R_load_pp U (.no U) (hd_sup hs U) (.tm (hs.slots _ _ U)) (hs.res _ _ U) ty24 U U | exact R_load_vw U (.no U) (hd_sup hs U) (.tm (hs.slots _ _ U)) ty24 U U | exact R_load_pr U (.no U) (hd_sup hs U) (.tm (hs.slots _ _ U)) (hs.res _ _ U) (map_get hx) ty24 U U)) ?_
   refine DrawC.step U U U (Loc.of U fun σ' hs => (by first | exact R_fieldAddr U (.no U) (hd_sup hs U) (.tm (hs.slots _ _ U)) fl28_0 | exact R_fieldAddr_pp U (.no U) (hd_sup hs U) (.tm (hs.slots _ _ U)) fl28_0 | exact R_fieldAddr_vw U (.no U) (hd_sup hs U) (.tm (hs.slots _ _ U)) fl28_0 | exact R_fieldAddr_pr U (.no U) (hd_sup hs U) (.tm (hs.slots _ _ U)) fl28_0)) ?_
   refine DrawC.step U U U (Loc.of U fun σ' hs => (by first | exact R_load U (.no U) (hd_sup hs U) (.tm (hs.slots _ _ U)) ty24 U U | exact R_load_pp U (.no U) (hd_sup hs U) (.tm (hs.slots _ _ U)) (hs.res _ _ U) ty24 U U | exact R_load_vw U (.no U) (hd_sup hs U) (.tm (hs.slots _ _ U)) ty24 U U | exact R_load_pr U (.no U) (hd_sup hs U) (.tm (hs.slots _ _ U)) (hs.res _ _ U) (map_get hx) ty24 U U)) ?_
   refine DrawC.step U U U (Loc.of U fun σ' hs => R_move U (.no U) (hd_sup hs U) (.tm (hs.slots _ _ U))) ?_
   refine DrawC.step U U U (Loc.of U fun σ' hs => (by first | exact R_indexAddr U (.no U) (hd_sup hs U) (.tm (hs.slots _ _ U)) (.tm (hs.slots _ _ U)) Tryz.underlying24 ty68 (fun _ => ⟨by omega, (map_get hx)⟩) | exact R_indexAddr_vw U (.no U) (hd_sup hs U) (.tm (hs.slots _ _ U)) (.tm (hs.slots _ _ U)) Tryz.underlying24 ty68 (fun _ => ⟨by omega, (map_get hx)⟩) | exact R_indexAddr_rf U (.no U) (hd_sup hs U) (.tm (hs.slots _ _ U)) (hs.res _ _ U) (.tm (hs.slots _ _ U)) Tryz.underlying24 ty68 (fun _ => ⟨by omega, (map_get hx)⟩))) ?_
   refine DrawC.step U U U (Loc.of U fun σ' hs => (by first | exact R_load U (.no U) (hd_sup hs U) (.tm (hs.slots _ _ U)) ty68 U U | exact R_load_pp U (.no U) (hd_sup hs U) (.tm (hs.slots _ _ U)) (hs.res _ _ U) ty68 U U | exact R_load_vw U (.no U) (hd_sup hs U) (.tm (hs.slots _ _ U)) ty68 U U | exact R_load_pr U (.no U) (hd_sup hs U) (.tm (hs.slots _ _ U)) (hs.res _ _ U) (map_get hx) ty68 U U)) ?_
   refine DrawC.step U U U (Loc.of U fun σ' hs => R_callz (FnT.fr (specl15Has _ _)) U (.no U) (hd_sup hs U) (.cons (.tm (hs.slots _ _ U)) (readA_sup hs U) (.cons (.tm (hs.slots _ _ U)) (readA_sup hs U) .nil))) ?_
   refine DrawC.fin U U ?_
   refine AWl.nil ?_
   refine AW.cond (.tm U) (fun h18 => ?_) (fun h18 => ?_)
   · skip
     try simp at h18
     refine AW.seq ?_
     refine AW.le (σ' := ⟨_, [(1, _), (3, _)], []⟩) (Le.sub0 U ⟨U, U, trivial⟩ trivial) ?_
     refine AW.region ?_
     refine AWl.ac U U U U U ?_
     refine AWl.nil (AW.ret ?_)
     refine Res.v U U ?_
     have hc : commonP d.Added d.Removed = true := commonP_true.2 ⟨x, List.mem_of_getElem? hx, by simpa using h18⟩; unfold isDelta; rw [hc]; simp
   · skip
     try simp at h18
     refine AW.skip ?_
     refine AW.le (σ' := ⟨_, [(1, _), (3, _)], []⟩) (Le.sub0 U ⟨U, U, trivial⟩ trivial) ?_
     refine AW.region ?_
     refine AWl.mv U U U U U ?_
     refine AWl.put (R_add U (.no U) U (.tm U) (.const U) (fun _ => by omega)) U ?_
     refine AWl.av U U U U U ?_
     refine AWl.nil ?_
     repeat (with_reducible refine BlockQ.nor ?_)
     refine Round1.next (k + 1) ⟨⟨by omega, each_succ hk.2 hx (by simp [h18])⟩, trivial⟩ (by omega) (Le.sub0 rfl ⟨rfl, rfl, trivial⟩ trivial)
 · skip
   try simp at h8
   refine AW.exit ?_
   refine AW.sr ?_
   refine AWl.put ((by first | exact R_fieldAddr U (.no U) U (.tm U) fl28_0 | exact R_fieldAddr_pp U (.no U) U (.tm U) fl28_0 | exact R_fieldAddr_vw U (.no U) U (.tm U) fl28_0 | exact R_fieldAddr_pr U (.no U) U (.tm U) fl28_0)) U ?_
   refine AWl.put ((by first | exact R_load U (.no U) U (.tm U) ty24 U U | exact R_load_pp U (.no U) U (.tm U) U ty24 U U | exact R_load_vw U (.no U) U (.tm U) ty24 U U | exact R_load_pr U (.no U) U (.tm U) U (map_get hx) ty24 U U)) U ?_
   refine AWl.put (R_callz (FnT.fr (specArePairs _)) U (.no U) U (.cons (.tm U) U .nil)) U ?_
   refine AWl.mv U U U U U ?_
   refine AWl.put ((by first | exact R_fieldAddr U (by first | exact .yes1 U U U U | exact .yes U U U U) U (.tmp U (by first | exact fun _ => rfl | exact id | simp)) fl28_1 | exact R_fieldAddr_pp U (by first | exact .yes1 U U U U | exact .yes U U U U) U (.tmp U (by first | exact fun _ => rfl | exact id | simp)) fl28_1 | exact R_fieldAddr_vw U (by first | exact .yes1 U U U U | exact .yes U U U U) U (.tmp U (by first | exact fun _ => rfl | exact id | simp)) fl28_1 | exact R_fieldAddr_pr U (by first | exact .yes1 U U U U | exact .yes U U U U) U (.tmp U (by first | exact fun _ => rfl | exact id | simp)) fl28_1)) U ?_
   refine AWl.put ((by first | exact R_load U (by first | exact .yes1 U U U U | exact .yes U U U U) U (.tmp U (by first | exact fun _ => rfl | exact id | simp)) ty24 U U | exact R_load_pp U (by first | exact .yes1 U U U U | exact .yes U U U U) U (.tmp U (by first | exact fun _ => rfl | exact id | simp)) U ty24 U U | exact R_load_vw U (by first | exact .yes1 U U U U | exact .yes U U U U) U (.tmp U (by first | exact fun _ => rfl | exact id | simp)) ty24 U U | exact R_load_pr U (by first | exact .yes1 U U U U | exact .yes U U U U) U (.tmp U (by first | exact fun _ => rfl | exact id | simp)) U (map_get hx) ty24 U U)) U ?_
   refine AWl.put (R_callz (FnT.fr (specArePairs _)) U (by first | exact .yes1 U U U U | exact .yes U U U U) U (.cons (.tmp U (by first | exact fun _ => rfl | exact id | simp)) U .nil)) U ?_
   refine AWl.put (R_and U (.no U) U (.tm U) (.tmp U (by first | exact fun _ => rfl | exact id | simp))) U ?_
   refine AWl.av U U U U U ?_
   refine AWl.nil (AW.ret ?_)
   refine Res.v U U ?_
   have hc : commonP d.Added d.Removed = false := any_not hk.2 (by omega); unfold isDelta; rw [hc]; simp
theorem implIsDelta (d : TDelta) : FnT Tryz.prog 14 [.agg (cDelta d)] (.a (.one (.v (.bool (isDelta d))))) := by
 refine FnT.walk Tryz.func14 U (by kernel_rfl) Tryz.ntmps14 U fun hlen w0 => ?_
 try simp [cPair, cToken, cExpr, cEdge, cGraph, cStep, cWalk, cChange, cBatch, cHistory, cPositions, cAutomaton, cProductStep, cPathAtom, cConjunction, cView, cDelta, cRegistered, cRegistry] at hlen
 refine AW.sr ?_
 refine AWl.put (R_boxz U U U (.tm U) (ts := _) (by first | rfl | exact cells_t1 _ | exact cells_t2 _)) U ?_
 refine AWl.ac U U U U U ?_
 refine AWl.nil (AW.sr ?_)
 refine AWl.put ((by first | exact R_fieldAddr U (.no U) U (.tm U) fl28_0 | exact R_fieldAddr_pp U (.no U) U (.tm U) fl28_0 | exact R_fieldAddr_vw U (.no U) U (.tm U) fl28_0 | exact R_fieldAddr_pr U (.no U) U (.tm U) fl28_0)) U ?_
 refine AWl.put ((by first | exact R_load U (.no U) U (.tm U) ty24 U U | exact R_load_pp U (.no U) U (.tm U) U ty24 U U | exact R_load_vw U (.no U) U (.tm U) ty24 U U | exact R_load_pr U (.no U) U (.tm U) U (by first | assumption | exact map_get (by assumption)) ty24 U U)) U ?_
 refine AWl.put (R_callz (FnT.fr (implArePairs _)) U (.no U) U (.cons (.tm U) U .nil)) U ?_
 refine AWl.mv U U U U U ?_
 refine AWl.put ((by first | exact R_fieldAddr U (by first | exact .yes1 U U U U | exact .yes U U U U) U (.tmp U (by first | exact fun _ => rfl | exact id | simp)) fl28_1 | exact R_fieldAddr_pp U (by first | exact .yes1 U U U U | exact .yes U U U U) U (.tmp U (by first | exact fun _ => rfl | exact id | simp)) fl28_1 | exact R_fieldAddr_vw U (by first | exact .yes1 U U U U | exact .yes U U U U) U (.tmp U (by first | exact fun _ => rfl | exact id | simp)) fl28_1 | exact R_fieldAddr_pr U (by first | exact .yes1 U U U U | exact .yes U U U U) U (.tmp U (by first | exact fun _ => rfl | exact id | simp)) fl28_1)) U ?_
 refine AWl.put ((by first | exact R_load U (by first | exact .yes1 U U U U | exact .yes U U U U) U (.tmp U (by first | exact fun _ => rfl | exact id | simp)) ty24 U U | exact R_load_pp U (by first | exact .yes1 U U U U | exact .yes U U U U) U (.tmp U (by first | exact fun _ => rfl | exact id | simp)) U ty24 U U | exact R_load_vw U (by first | exact .yes1 U U U U | exact .yes U U U U) U (.tmp U (by first | exact fun _ => rfl | exact id | simp)) ty24 U U | exact R_load_pr U (by first | exact .yes1 U U U U | exact .yes U U U U) U (.tmp U (by first | exact fun _ => rfl | exact id | simp)) U (by first | assumption | exact map_get (by assumption)) ty24 U U)) U ?_
 refine AWl.put (R_callz (FnT.fr (implArePairs _)) U (by first | exact .yes1 U U U U | exact .yes U U U U) U (.cons (.tmp U (by first | exact fun _ => rfl | exact id | simp)) U .nil)) U ?_
 refine AWl.put (R_and U (.no U) U (.tm U) (.tmp U (by first | exact fun _ => rfl | exact id | simp))) U ?_
 refine AWl.mv U U U U U ?_
 refine AWl.put ((by first | exact R_fieldAddr U (by first | exact .yes1 U U U U | exact .yes U U U U) U (.tmp U (by first | exact fun _ => rfl | exact id | simp)) fl28_0 | exact R_fieldAddr_pp U (by first | exact .yes1 U U U U | exact .yes U U U U) U (.tmp U (by first | exact fun _ => rfl | exact id | simp)) fl28_0 | exact R_fieldAddr_vw U (by first | exact .yes1 U U U U | exact .yes U U U U) U (.tmp U (by first | exact fun _ => rfl | exact id | simp)) fl28_0 | exact R_fieldAddr_pr U (by first | exact .yes1 U U U U | exact .yes U U U U) U (.tmp U (by first | exact fun _ => rfl | exact id | simp)) fl28_0)) U ?_
 refine AWl.put ((by first | exact R_load U (by first | exact .yes1 U U U U | exact .yes U U U U) U (.tmp U (by first | exact fun _ => rfl | exact id | simp)) ty24 U U | exact R_load_pp U (by first | exact .yes1 U U U U | exact .yes U U U U) U (.tmp U (by first | exact fun _ => rfl | exact id | simp)) U ty24 U U | exact R_load_vw U (by first | exact .yes1 U U U U | exact .yes U U U U) U (.tmp U (by first | exact fun _ => rfl | exact id | simp)) ty24 U U | exact R_load_pr U (by first | exact .yes1 U U U U | exact .yes U U U U) U (.tmp U (by first | exact fun _ => rfl | exact id | simp)) U (by first | assumption | exact map_get (by assumption)) ty24 U U)) U ?_
 refine AWl.put ((by first | exact R_fieldAddr U (by first | exact .yes1 U U U U | exact .yes U U U U) U (.tmp U (by first | exact fun _ => rfl | exact id | simp)) fl28_1 | exact R_fieldAddr_pp U (by first | exact .yes1 U U U U | exact .yes U U U U) U (.tmp U (by first | exact fun _ => rfl | exact id | simp)) fl28_1 | exact R_fieldAddr_vw U (by first | exact .yes1 U U U U | exact .yes U U U U) U (.tmp U (by first | exact fun _ => rfl | exact id | simp)) fl28_1 | exact R_fieldAddr_pr U (by first | exact .yes1 U U U U | exact .yes U U U U) U (.tmp U (by first | exact fun _ => rfl | exact id | simp)) fl28_1)) U ?_
 refine AWl.put ((by first | exact R_load U (by first | exact .yes1 U U U U | exact .yes U U U U) U (.tmp U (by first | exact fun _ => rfl | exact id | simp)) ty24 U U | exact R_load_pp U (by first | exact .yes1 U U U U | exact .yes U U U U) U (.tmp U (by first | exact fun _ => rfl | exact id | simp)) U ty24 U U | exact R_load_vw U (by first | exact .yes1 U U U U | exact .yes U U U U) U (.tmp U (by first | exact fun _ => rfl | exact id | simp)) ty24 U U | exact R_load_pr U (by first | exact .yes1 U U U U | exact .yes U U U U) U (.tmp U (by first | exact fun _ => rfl | exact id | simp)) U (by first | assumption | exact map_get (by assumption)) ty24 U U)) U ?_
 refine AWl.put (R_callz (FnT.fr (implcommonPair _ _)) U (by first | exact .yes1 U U U U | exact .yes U U U U) U (.cons (.tmp U (by first | exact fun _ => rfl | exact id | simp)) U (.cons (.tmp U (by first | exact fun _ => rfl | exact id | simp)) U .nil))) U ?_
 refine AWl.put (R_not U (by first | exact .yes1 U U U U | exact .yes U U U U) U (.tmp U (by first | exact fun _ => rfl | exact id | simp))) U ?_
 refine AWl.put (R_and U (.no U) U (.tm U) (.tmp U (by first | exact fun _ => rfl | exact id | simp))) U ?_
 refine AWl.av U U U U U ?_
 refine AWl.nil (AW.ret ?_)
 refine Res.v U U ?_
 rfl
theorem specApplyDelta (l : List TPair) (d : TDelta) (hz : l.length ≤ 1048576) (hd1 : d.Added.length ≤ 1048576) (hd2 : d.Removed.length ≤ 1048576) : FnT Tryz.prog 19 [.one (.sl 2 (l.map cPair)), .agg (cDelta d)] (.tup [.one (.sl 2 ((applyD l d).1.map cPair)), .one (.v (.bool (applyD l d).2))]) := by
 refine FnT.walk Tryz.func19 U (by kernel_rfl) Tryz.ntmps19 U fun hlen w0 => ?_
 try simp [cPair, cToken, cExpr, cEdge, cGraph, cStep, cWalk, cChange, cBatch, cHistory, cPositions, cAutomaton, cProductStep, cPathAtom, cConjunction, cView, cDelta, cRegistered, cRegistry] at hlen
 have hpl := psub_len l d.Removed
 have hok : ∀ {k k2 : Nat} {t t1 : Bool}, d.Added.length ≤ k → d.Removed.length ≤ k2 → t = ((isDelta d && arePairs l) && (d.Added.take k).all fun x => !decide (x ∈ l)) → t1 = (t && (d.Removed.take k2).all fun x => decide (x ∈ l)) → t1 = applyOk l d := by intro k k2 t t1 h1 h2 h3 h4; rw [List.take_of_length_le h1, all_no] at h3; rw [List.take_of_length_le h2] at h4; rw [h4, h3]; rfl
 refine AW.sr ?_
 refine AWl.put (R_boxz U U U (.tm U) (ts := _) (by first | rfl | exact cells_t1 _ | exact cells_t2 _)) U ?_
 refine AWl.ac U U U U U ?_
 refine AWl.nilS (i := 4) 20001 2 U U ?_
 refine AWl.ac U U U U U ?_
 refine AWl.nil (AW.sr ?_)
 refine AWl.put ((by first | exact R_load U (.no U) U (.tm U) ty28 U U | exact R_load_pp U (.no U) U (.tm U) U ty28 U U | exact R_load_vw U (.no U) U (.tm U) ty28 U U | exact R_load_pr U (.no U) U (.tm U) U (by first | exact map_get hx | exact map_get hy) ty28 U U)) U ?_
 refine AWl.put (R_callz (FnT.fr (specIsDelta _)) U (.no U) U (.cons (.tm U) U .nil)) U ?_
 refine AWl.mv U U U U U ?_
 refine AWl.put (R_move U (by first | exact .yes1 U U U U | exact .yes U U U U) U (.tmp U (by first | exact fun _ => rfl | exact id | simp))) U ?_
 refine AWl.put (R_callz (FnT.fr (specArePairs _)) U (by first | exact .yes1 U U U U | exact .yes U U U U) U (.cons (.tmp U (by first | exact fun _ => rfl | exact id | simp)) U .nil)) U ?_
 refine AWl.put (R_and U (.no U) U (.tm U) (.tmp U (by first | exact fun _ => rfl | exact id | simp))) U ?_
 refine AWl.av U U U U U ?_
 refine AWl.nil (AW.seq ?_)
 refine AW.seq ?_
 refine AW.le (σ' := ⟨_, [(0, _), (1, _), (3, _), (4, _), (5, _), (6, _)], [(20001, _)]⟩) (Le.sub0 U ⟨U, U, U, U, U, U, trivial⟩ ⟨U, trivial⟩) ?_
 refine AW.region ?_
 refine AWl.ac U U U U U ?_
 refine AWl.nil (AW.block ?_)
 refine AW.loop2 (fun (k : Nat) (t : Bool) => (k ≤ d.Added.length) ∧ t = ((isDelta d && arePairs l) && (d.Added.take k).all fun x => !decide (x ∈ l))) (fun (k : Nat) (t : Bool) => ⟨_, [(7, (true, .a (.one (.t (.v (.int .i64 (k : Nat))))))), (6, (true, .a (.one (.t (.v (.bool t)))))), (0, _), (3, _), (4, _), (5, _)], []⟩) (fun (k : Nat) (t : Bool) => d.Added.length - k) (0) ((isDelta d && arePairs l)) ⟨Nat.zero_le _, by simp⟩ (Le.sub0 U ⟨U, U, U, U, U, U, trivial⟩ trivial) ?_
 rintro k t ⟨hk, he⟩
 refine AW.seq ?_
 refine AW.sr ?_
 refine AWl.mv U U U U U ?_
 refine AWl.put ((by first | exact R_fieldAddr U (.no U) U (.tm U) fl28_0 | exact R_fieldAddr_pp U (.no U) U (.tm U) fl28_0 | exact R_fieldAddr_vw U (.no U) U (.tm U) fl28_0 | exact R_fieldAddr_pr U (.no U) U (.tm U) fl28_0)) U ?_
 refine AWl.put ((by first | exact R_load U (.no U) U (.tm U) ty24 U U | exact R_load_pp U (.no U) U (.tm U) U ty24 U U | exact R_load_vw U (.no U) U (.tm U) ty24 U U | exact R_load_pr U (.no U) U (.tm U) U (by first | exact map_get hx | exact map_get hy) ty24 U U)) U ?_
 refine AWl.put ((by first | exact R_lenm U (.no U) U (.tm U) (by first | exact .t | exact .rf U | exact .vw | exact .nil) Tryz.underlying24 | exact R_len U (.no U) U (.tm U) (by first | exact .t | exact .rf U | exact .vw | exact .nil) Tryz.underlying24)) U ?_
 refine AWl.put (R_lt U (.no U) U (.tm U) (.tm U)) U ?_
 refine AWl.nil ?_
 refine AW.cond (.tm U) (fun h19 => ?_) (fun h19 => ?_)
 · skip
   try simp at h19
   obtain ⟨x, hx⟩ : ∃ ξ, d.Added[k]? = some ξ := ⟨_, List.getElem?_eq_getElem (by omega)⟩
   refine AW.skip ?_
   refine AW.seq ?_
   refine AW.block ?_
   refine AW.region ?_
   refine AWl.mv U U U U U ?_
   refine AWl.mv U U U U U ?_
   refine AWl.put (R_move U (by first | exact .yes1 U U U U | exact .yes U U U U) U (.tmp U (by first | exact fun _ => rfl | exact id | simp))) U ?_
   refine AWl.put ((by first | exact R_fieldAddr U (by first | exact .yes1 U U U U | exact .yes U U U U) U (.tmp U (by first | exact fun _ => rfl | exact id | simp)) fl28_0 | exact R_fieldAddr_pp U (by first | exact .yes1 U U U U | exact .yes U U U U) U (.tmp U (by first | exact fun _ => rfl | exact id | simp)) fl28_0 | exact R_fieldAddr_vw U (by first | exact .yes1 U U U U | exact .yes U U U U) U (.tmp U (by first | exact fun _ => rfl | exact id | simp)) fl28_0 | exact R_fieldAddr_pr U (by first | exact .yes1 U U U U | exact .yes U U U U) U (.tmp U (by first | exact fun _ => rfl | exact id | simp)) fl28_0)) U ?_
   refine AWl.put ((by first | exact R_load U (by first | exact .yes1 U U U U | exact .yes U U U U) U (.tmp U (by first | exact fun _ => rfl | exact id | simp)) ty24 U U | exact R_load_pp U (by first | exact .yes1 U U U U | exact .yes U U U U) U (.tmp U (by first | exact fun _ => rfl | exact id | simp)) U ty24 U U | exact R_load_vw U (by first | exact .yes1 U U U U | exact .yes U U U U) U (.tmp U (by first | exact fun _ => rfl | exact id | simp)) ty24 U U | exact R_load_pr U (by first | exact .yes1 U U U U | exact .yes U U U U) U (.tmp U (by first | exact fun _ => rfl | exact id | simp)) U (by first | exact map_get hx | exact map_get hy) ty24 U U)) U ?_
   refine AWl.put (R_move U (by first | exact .yes1 U U U U | exact .yes U U U U) U (.tmp U (by first | exact fun _ => rfl | exact id | simp))) U ?_
   refine AWl.put ((by first | exact R_indexAddr U (by first | exact .yes1 U U U U | exact .yes U U U U) U (.tmp U (by first | exact fun _ => rfl | exact id | simp)) (.tmp U (by first | exact fun _ => rfl | exact id | simp)) Tryz.underlying24 ty68 (fun hq => by (try simp at hq); exact ⟨by omega, (by first | exact map_get hx | exact map_get hy)⟩) | exact R_indexAddr_vw U (by first | exact .yes1 U U U U | exact .yes U U U U) U (.tmp U (by first | exact fun _ => rfl | exact id | simp)) (.tmp U (by first | exact fun _ => rfl | exact id | simp)) Tryz.underlying24 ty68 (fun hq => by (try simp at hq); exact ⟨by omega, (by first | exact map_get hx | exact map_get hy)⟩) | exact R_indexAddr_rf U (by first | exact .yes1 U U U U | exact .yes U U U U) U (.tmp U (by first | exact fun _ => rfl | exact id | simp)) U (.tmp U (by first | exact fun _ => rfl | exact id | simp)) Tryz.underlying24 ty68 (fun hq => by (try simp at hq); exact ⟨by omega, (by first | exact map_get hx | exact map_get hy)⟩))) U ?_
   refine AWl.put ((by first | exact R_load U (by first | exact .yes1 U U U U | exact .yes U U U U) U (.tmp U (by first | exact fun _ => rfl | exact id | simp)) ty68 U U | exact R_load_pp U (by first | exact .yes1 U U U U | exact .yes U U U U) U (.tmp U (by first | exact fun _ => rfl | exact id | simp)) U ty68 U U | exact R_load_vw U (by first | exact .yes1 U U U U | exact .yes U U U U) U (.tmp U (by first | exact fun _ => rfl | exact id | simp)) ty68 U U | exact R_load_pr U (by first | exact .yes1 U U U U | exact .yes U U U U) U (.tmp U (by first | exact fun _ => rfl | exact id | simp)) U (by first | exact map_get hx | exact map_get hy) ty68 U U)) U ?_
   refine AWl.put (R_callz (FnT.fr (specl15Has _ _)) U (by first | exact .yes1 U U U U | exact .yes U U U U) U (.cons (.tmp U (by first | exact fun _ => rfl | exact id | simp)) U (.cons (.tmp U (by first | exact fun _ => rfl | exact id | simp)) U .nil))) U ?_
   refine AWl.put (R_not U (by first | exact .yes1 U U U U | exact .yes U U U U) U (.tmp U (by first | exact fun _ => rfl | exact id | simp))) U ?_
   refine AWl.put (R_and U (.no U) U (.tm U) (.tmp U (by first | exact fun _ => rfl | exact id | simp))) U ?_
   refine AWl.av U U U U U ?_
   refine AWl.nil ?_
   refine AW.le (σ' := ⟨_, [(0, _), (3, _), (4, _), (5, _), (6, _), (7, _)], []⟩) (Le.sub0 U ⟨U, U, U, U, U, U, trivial⟩ trivial) ?_
   refine AW.region ?_
   refine AWl.mv U U U U U ?_
   refine AWl.put (R_add U (.no U) U (.tm U) (.const U) (fun _ => by omega)) U ?_
   refine AWl.av U U U U U ?_
   refine AWl.nil ?_
   repeat (with_reducible refine BlockQ.nor ?_)
   refine Round2.next (k + 1) ((t && !decide (x ∈ l))) ⟨by omega, by rw [all_take hx, he, Bool.and_assoc]⟩ (by omega) (Le.sub0 rfl ⟨rfl, rfl, rfl, rfl, rfl, rfl, trivial⟩ trivial)
 · skip
   try simp at h19
   refine AW.exit ?_
   refine AW.seq ?_
   refine AW.sr ?_
   refine AWl.ac U U U U U ?_
   refine AWl.nil (AW.block ?_)
   refine AW.loop2 (fun (k2 : Nat) (t1 : Bool) => (k2 ≤ d.Removed.length) ∧ t1 = (t && (d.Removed.take k2).all fun x => decide (x ∈ l))) (fun (k2 : Nat) (t1 : Bool) => ⟨_, [(8, (true, .a (.one (.t (.v (.int .i64 (k2 : Nat))))))), (6, (true, .a (.one (.t (.v (.bool t1)))))), (0, _), (3, _), (4, _), (5, _)], []⟩) (fun (k2 : Nat) (t1 : Bool) => d.Removed.length - k2) (0) (t) ⟨Nat.zero_le _, by simp⟩ (Le.sub0 U ⟨U, U, U, U, U, U, trivial⟩ trivial) ?_
   rintro k2 t1 ⟨hk1, he1⟩
   refine AW.seq ?_
   refine AW.sr ?_
   refine AWl.mv U U U U U ?_
   refine AWl.put ((by first | exact R_fieldAddr U (.no U) U (.tm U) fl28_1 | exact R_fieldAddr_pp U (.no U) U (.tm U) fl28_1 | exact R_fieldAddr_vw U (.no U) U (.tm U) fl28_1 | exact R_fieldAddr_pr U (.no U) U (.tm U) fl28_1)) U ?_
   refine AWl.put ((by first | exact R_load U (.no U) U (.tm U) ty24 U U | exact R_load_pp U (.no U) U (.tm U) U ty24 U U | exact R_load_vw U (.no U) U (.tm U) ty24 U U | exact R_load_pr U (.no U) U (.tm U) U (by first | exact map_get hx | exact map_get hy) ty24 U U)) U ?_
   refine AWl.put ((by first | exact R_lenm U (.no U) U (.tm U) (by first | exact .t | exact .rf U | exact .vw | exact .nil) Tryz.underlying24 | exact R_len U (.no U) U (.tm U) (by first | exact .t | exact .rf U | exact .vw | exact .nil) Tryz.underlying24)) U ?_
   refine AWl.put (R_lt U (.no U) U (.tm U) (.tm U)) U ?_
   refine AWl.nil ?_
   refine AW.cond (.tm U) (fun h37 => ?_) (fun h37 => ?_)
   · skip
     try simp at h37
     obtain ⟨y, hy⟩ : ∃ ξ, d.Removed[k2]? = some ξ := ⟨_, List.getElem?_eq_getElem (by omega)⟩
     refine AW.skip ?_
     refine AW.seq ?_
     refine AW.block ?_
     refine AW.region ?_
     refine AWl.mv U U U U U ?_
     refine AWl.mv U U U U U ?_
     refine AWl.put (R_move U (by first | exact .yes1 U U U U | exact .yes U U U U) U (.tmp U (by first | exact fun _ => rfl | exact id | simp))) U ?_
     refine AWl.put ((by first | exact R_fieldAddr U (by first | exact .yes1 U U U U | exact .yes U U U U) U (.tmp U (by first | exact fun _ => rfl | exact id | simp)) fl28_1 | exact R_fieldAddr_pp U (by first | exact .yes1 U U U U | exact .yes U U U U) U (.tmp U (by first | exact fun _ => rfl | exact id | simp)) fl28_1 | exact R_fieldAddr_vw U (by first | exact .yes1 U U U U | exact .yes U U U U) U (.tmp U (by first | exact fun _ => rfl | exact id | simp)) fl28_1 | exact R_fieldAddr_pr U (by first | exact .yes1 U U U U | exact .yes U U U U) U (.tmp U (by first | exact fun _ => rfl | exact id | simp)) fl28_1)) U ?_
     refine AWl.put ((by first | exact R_load U (by first | exact .yes1 U U U U | exact .yes U U U U) U (.tmp U (by first | exact fun _ => rfl | exact id | simp)) ty24 U U | exact R_load_pp U (by first | exact .yes1 U U U U | exact .yes U U U U) U (.tmp U (by first | exact fun _ => rfl | exact id | simp)) U ty24 U U | exact R_load_vw U (by first | exact .yes1 U U U U | exact .yes U U U U) U (.tmp U (by first | exact fun _ => rfl | exact id | simp)) ty24 U U | exact R_load_pr U (by first | exact .yes1 U U U U | exact .yes U U U U) U (.tmp U (by first | exact fun _ => rfl | exact id | simp)) U (by first | exact map_get hx | exact map_get hy) ty24 U U)) U ?_
     refine AWl.put (R_move U (by first | exact .yes1 U U U U | exact .yes U U U U) U (.tmp U (by first | exact fun _ => rfl | exact id | simp))) U ?_
     refine AWl.put ((by first | exact R_indexAddr U (by first | exact .yes1 U U U U | exact .yes U U U U) U (.tmp U (by first | exact fun _ => rfl | exact id | simp)) (.tmp U (by first | exact fun _ => rfl | exact id | simp)) Tryz.underlying24 ty68 (fun hq => by (try simp at hq); exact ⟨by omega, (by first | exact map_get hx | exact map_get hy)⟩) | exact R_indexAddr_vw U (by first | exact .yes1 U U U U | exact .yes U U U U) U (.tmp U (by first | exact fun _ => rfl | exact id | simp)) (.tmp U (by first | exact fun _ => rfl | exact id | simp)) Tryz.underlying24 ty68 (fun hq => by (try simp at hq); exact ⟨by omega, (by first | exact map_get hx | exact map_get hy)⟩) | exact R_indexAddr_rf U (by first | exact .yes1 U U U U | exact .yes U U U U) U (.tmp U (by first | exact fun _ => rfl | exact id | simp)) U (.tmp U (by first | exact fun _ => rfl | exact id | simp)) Tryz.underlying24 ty68 (fun hq => by (try simp at hq); exact ⟨by omega, (by first | exact map_get hx | exact map_get hy)⟩))) U ?_
     refine AWl.put ((by first | exact R_load U (by first | exact .yes1 U U U U | exact .yes U U U U) U (.tmp U (by first | exact fun _ => rfl | exact id | simp)) ty68 U U | exact R_load_pp U (by first | exact .yes1 U U U U | exact .yes U U U U) U (.tmp U (by first | exact fun _ => rfl | exact id | simp)) U ty68 U U | exact R_load_vw U (by first | exact .yes1 U U U U | exact .yes U U U U) U (.tmp U (by first | exact fun _ => rfl | exact id | simp)) ty68 U U | exact R_load_pr U (by first | exact .yes1 U U U U | exact .yes U U U U) U (.tmp U (by first | exact fun _ => rfl | exact id | simp)) U (by first | exact map_get hx | exact map_get hy) ty68 U U)) U ?_
     refine AWl.put (R_callz (FnT.fr (specl15Has _ _)) U (by first | exact .yes1 U U U U | exact .yes U U U U) U (.cons (.tmp U (by first | exact fun _ => rfl | exact id | simp)) U (.cons (.tmp U (by first | exact fun _ => rfl | exact id | simp)) U .nil))) U ?_
     refine AWl.put (R_and U (.no U) U (.tm U) (.tmp U (by first | exact fun _ => rfl | exact id | simp))) U ?_
     refine AWl.av U U U U U ?_
     refine AWl.nil ?_
     refine AW.le (σ' := ⟨_, [(0, _), (3, _), (4, _), (5, _), (6, _), (8, _)], []⟩) (Le.sub0 U ⟨U, U, U, U, U, U, trivial⟩ trivial) ?_
     refine AW.region ?_
     refine AWl.mv U U U U U ?_
     refine AWl.put (R_add U (.no U) U (.tm U) (.const U) (fun _ => by omega)) U ?_
     refine AWl.av U U U U U ?_
     refine AWl.nil ?_
     repeat (with_reducible refine BlockQ.nor ?_)
     refine Round2.next (k2 + 1) ((t1 && decide (y ∈ l))) ⟨by omega, by rw [all_take hy, he1, Bool.and_assoc]⟩ (by omega) (Le.sub0 rfl ⟨rfl, rfl, rfl, rfl, rfl, rfl, trivial⟩ trivial)
   · skip
     try simp at h37
     refine AW.exit ?_
     refine AW.seq ?_
     refine AW.sr ?_
     refine AWl.mv U U U U U ?_
     refine AWl.put (R_not U (.no U) U (.tm U)) U ?_
     refine AWl.nil ?_
     refine AW.cond (.tm U) (fun h51 => ?_) (fun h51 => ?_)
     · skip
       try simp at h51
       refine AW.seq ?_
       refine AW.le (σ' := ⟨_, [(0, _), (3, _), (4, _), (5, _), (6, _), (8, _)], []⟩) (Le.sub0 U ⟨U, U, U, U, U, U, trivial⟩ trivial) ?_
       refine AW.region ?_
       refine AWl.add (R_empty 52 U U U Tryz.underlying24 ty68 U) U ?_
       refine AWl.mv U U U U U ?_
       refine AWl.chgput (R_append U U U (.tm U) U (.tm U) (by first | exact .t | exact .rf U | exact .vw | exact .nil) (by first | rfl | exact isV_map (fun _ => rfl) _ | exact isV_part (fun _ => rfl) _ _ _) Tryz.underlying24 in68 U (by first | omega | (simp [chunk]; omega) | (simp only [List.length_map, List.length_append, List.length_cons, List.length_nil, chunk]; omega)) (by first | omega | (unfold maxLen; omega) | (unfold maxLen; simp [chunk]; omega) | (unfold maxLen; simp only [List.length_map, List.length_append, List.length_cons, List.length_nil, chunk]; omega))) U ?_
       refine AWl.le (σ' := ⟨_, [(0, _), (3, _), (4, _), (5, _), (6, _), (8, _), (54, _)], [(52, _)]⟩) (Le.sub0 U ⟨U, U, U, U, U, U, U, trivial⟩ ⟨U, trivial⟩) ?_
       refine AWl.av U U U U U ?_
       refine AWl.ac U U U U U ?_
       refine AWl.nil (AW.ret ?_)
       refine Res.many U (.tmp U (.tmp U .nil)) U ?_ (by simp)
       have e := hok (by omega) (by omega) he he1; unfold applyD; rw [← e, if_neg (by simp [h51])]; rfl
     · skip
       try simp at h51
       refine AW.skip ?_
       refine AW.seq ?_
       refine AW.le (σ' := ⟨_, [(0, _), (3, _), (4, _), (5, _), (6, _), (8, _)], []⟩) (Le.sub0 U ⟨U, U, U, U, U, U, trivial⟩ trivial) ?_
       refine AW.drawn 9 (nthB [[], [], [1], [0, 1, 2], [], [4], [0, 1, 2, 3, 4, 5], [0, 1, 2, 3, 4, 5, 6], [0, 1, 2, 3, 4, 5, 6, 7]]) (by kernel_rfl) (by kernel_rfl) (by kernel_rfl) ?_
       refine DrawC.step U U U (Loc.of U fun σ' hs => R_move U (.no U) (hd_sup hs U) (.tm (hs.slots _ _ U))) ?_
       refine DrawC.step U U U (Loc.of U fun σ' hs => (by first | exact R_fieldAddr U (.no U) (hd_sup hs U) (.tm (hs.slots _ _ U)) fl28_1 | exact R_fieldAddr_pp U (.no U) (hd_sup hs U) (.tm (hs.slots _ _ U)) fl28_1 | exact R_fieldAddr_vw U (.no U) (hd_sup hs U) (.tm (hs.slots _ _ U)) fl28_1 | exact R_fieldAddr_pr U (.no U) (hd_sup hs U) (.tm (hs.slots _ _ U)) fl28_1)) ?_
       refine DrawC.step U U U (Loc.of U fun σ' hs => (by first | exact R_load U (.no U) (hd_sup hs U) (.tm (hs.slots _ _ U)) ty24 U U | exact R_load_pp U (.no U) (hd_sup hs U) (.tm (hs.slots _ _ U)) (hs.res _ _ U) ty24 U U | exact R_load_vw U (.no U) (hd_sup hs U) (.tm (hs.slots _ _ U)) ty24 U U | exact R_load_pr U (.no U) (hd_sup hs U) (.tm (hs.slots _ _ U)) (hs.res _ _ U) (by first | exact map_get hx | exact map_get hy) ty24 U U)) ?_
       refine DrawC.step U U U (Loc.of U fun σ' hs => R_callz (FnT.fr (specSubtractPairs _ _ (by omega))) U (.no U) (hd_sup hs U) (.cons (.tm (hs.slots _ _ U)) (readA_sup hs U) (.cons (.tm (hs.slots _ _ U)) (readA_sup hs U) .nil))) ?_
       refine DrawC.step U U U (Loc.of U fun σ' hs => (by first | exact R_fieldAddr U (.no U) (hd_sup hs U) (.tm (hs.slots _ _ U)) fl28_0 | exact R_fieldAddr_pp U (.no U) (hd_sup hs U) (.tm (hs.slots _ _ U)) fl28_0 | exact R_fieldAddr_vw U (.no U) (hd_sup hs U) (.tm (hs.slots _ _ U)) fl28_0 | exact R_fieldAddr_pr U (.no U) (hd_sup hs U) (.tm (hs.slots _ _ U)) fl28_0)) ?_
       refine DrawC.step U U U (Loc.of U fun σ' hs => (by first | exact R_load U (.no U) (hd_sup hs U) (.tm (hs.slots _ _ U)) ty24 U U | exact R_load_pp U (.no U) (hd_sup hs U) (.tm (hs.slots _ _ U)) (hs.res _ _ U) ty24 U U | exact R_load_vw U (.no U) (hd_sup hs U) (.tm (hs.slots _ _ U)) ty24 U U | exact R_load_pr U (.no U) (hd_sup hs U) (.tm (hs.slots _ _ U)) (hs.res _ _ U) (by first | exact map_get hx | exact map_get hy) ty24 U U)) ?_
       refine DrawC.step U U U (Loc.ofs U fun σ' hs hf => R_call 6100 (specMergePairs (psub l d.Removed) d.Added (by omega)) U U (hd_sup hs U) (.cons (.tm (hs.slots _ _ U)) (readA_sup hs U) (.cons (.tm (hs.slots _ _ U)) (readA_sup hs U) .nil)) U (all_fresh hf)) ?_
       refine DrawC.step U U U (Loc.of U fun σ' hs => R_assign U (.no U) (hd_sup hs U) (.tm (hs.slots _ _ U))) ?_
       refine DrawC.step U U U (Loc.of U fun σ' hs => R_assign U (.no U) (hd_sup hs U) (.const U)) ?_
       refine DrawC.fin U U ?_
       refine AWl.nil (AW.ret ?_)
       refine Res.many U (.tmp U (.tmp U .nil)) U ?_ (by simp)
       have e := hok (by omega) (by omega) he he1; unfold applyD; rw [← e, if_pos (by simpa using h51)]; rfl
theorem implcommonPair' (a b : List TPair) : FnT Tryz.prog 44 [.one (.sl 2 (a.map cPair)), .one (.sl 2 (b.map cPair))] (.a (.one (.v (.bool (commonP a b))))) := implcommonPair a b
theorem implApplyDelta (l : List TPair) (d : TDelta) (hz : l.length ≤ 1048576) (hd1 : d.Added.length ≤ 1048576) (hd2 : d.Removed.length ≤ 1048576) : FnT Tryz.prog 11 [.one (.sl 2 (l.map cPair)), .agg (cDelta d)] (.tup [.one (.sl 2 ((applyD l d).1.map cPair)), .one (.v (.bool (applyD l d).2))]) := by
 refine FnT.walk Tryz.func11 U (by kernel_rfl) Tryz.ntmps11 U fun hlen w0 => ?_
 try simp [cPair, cToken, cExpr, cEdge, cGraph, cStep, cWalk, cChange, cBatch, cHistory, cPositions, cAutomaton, cProductStep, cPathAtom, cConjunction, cView, cDelta, cRegistered, cRegistry] at hlen
 have hpl := psub_len l d.Removed
 have hpn := psub_nil d.Removed l
 refine AW.sr ?_
 refine AWl.put (R_boxz U U U (.tm U) (ts := _) (by first | rfl | exact cells_t1 _ | exact cells_t2 _)) U ?_
 refine AWl.ac U U U U U ?_
 refine AWl.nilS (i := 4) 20001 2 U U ?_
 refine AWl.ac U U U U U ?_
 refine AWl.nil (AW.seq ?_)
 refine AW.sr ?_
 refine AWl.put ((by first | exact R_load U (.no U) U (.tm U) ty28 U U | exact R_load_pp U (.no U) U (.tm U) U ty28 U U | exact R_load_vw U (.no U) U (.tm U) ty28 U U | exact R_load_pr U (.no U) U (.tm U) U (by first | assumption | exact map_get (by assumption)) ty28 U U)) U ?_
 refine AWl.put (R_callz (FnT.fr (implIsDelta _)) U (.no U) U (.cons (.tm U) U .nil)) U ?_
 refine AWl.put (R_not U (.no U) U (.tm U)) U ?_
 refine AWl.mv U U U U U ?_
 refine AWl.put (R_move U (by first | exact .not1 U U U U | exact .not U U U U) U (.tmp U (by first | exact fun _ => rfl | exact id | simp))) U ?_
 refine AWl.put (R_callz (FnT.fr (implArePairs _)) U (by first | exact .not1 U U U U | exact .not U U U U) U (.cons (.tmp U (by first | exact fun _ => rfl | exact id | simp)) U .nil)) U ?_
 refine AWl.put (R_not U (by first | exact .not1 U U U U | exact .not U U U U) U (.tmp U (by first | exact fun _ => rfl | exact id | simp))) U ?_
 refine AWl.put (R_or U (.no U) U (.tm U) (.tmp U (by first | exact fun _ => rfl | exact id | simp))) U ?_
 refine AWl.mv U U U U U ?_
 refine AWl.put (R_move U (by first | exact .not1 U U U U | exact .not U U U U) U (.tmp U (by first | exact fun _ => rfl | exact id | simp))) U ?_
 refine AWl.put ((by first | exact R_fieldAddr U (by first | exact .not1 U U U U | exact .not U U U U) U (.tmp U (by first | exact fun _ => rfl | exact id | simp)) fl28_0 | exact R_fieldAddr_pp U (by first | exact .not1 U U U U | exact .not U U U U) U (.tmp U (by first | exact fun _ => rfl | exact id | simp)) fl28_0 | exact R_fieldAddr_vw U (by first | exact .not1 U U U U | exact .not U U U U) U (.tmp U (by first | exact fun _ => rfl | exact id | simp)) fl28_0 | exact R_fieldAddr_pr U (by first | exact .not1 U U U U | exact .not U U U U) U (.tmp U (by first | exact fun _ => rfl | exact id | simp)) fl28_0)) U ?_
 refine AWl.put ((by first | exact R_load U (by first | exact .not1 U U U U | exact .not U U U U) U (.tmp U (by first | exact fun _ => rfl | exact id | simp)) ty24 U U | exact R_load_pp U (by first | exact .not1 U U U U | exact .not U U U U) U (.tmp U (by first | exact fun _ => rfl | exact id | simp)) U ty24 U U | exact R_load_vw U (by first | exact .not1 U U U U | exact .not U U U U) U (.tmp U (by first | exact fun _ => rfl | exact id | simp)) ty24 U U | exact R_load_pr U (by first | exact .not1 U U U U | exact .not U U U U) U (.tmp U (by first | exact fun _ => rfl | exact id | simp)) U (by first | assumption | exact map_get (by assumption)) ty24 U U)) U ?_
 refine AWl.put (R_callz (FnT.fr (implcommonPair' _ _)) U (by first | exact .not1 U U U U | exact .not U U U U) U (.cons (.tmp U (by first | exact fun _ => rfl | exact id | simp)) U (.cons (.tmp U (by first | exact fun _ => rfl | exact id | simp)) U .nil))) U ?_
 refine AWl.put (R_or U (.no U) U (.tm U) (.tmp U (by first | exact fun _ => rfl | exact id | simp))) U ?_
 refine AWl.mv U U U U U ?_
 refine AWl.put ((by first | exact R_fieldAddr U (by first | exact .not1 U U U U | exact .not U U U U) U (.tmp U (by first | exact fun _ => rfl | exact id | simp)) fl28_1 | exact R_fieldAddr_pp U (by first | exact .not1 U U U U | exact .not U U U U) U (.tmp U (by first | exact fun _ => rfl | exact id | simp)) fl28_1 | exact R_fieldAddr_vw U (by first | exact .not1 U U U U | exact .not U U U U) U (.tmp U (by first | exact fun _ => rfl | exact id | simp)) fl28_1 | exact R_fieldAddr_pr U (by first | exact .not1 U U U U | exact .not U U U U) U (.tmp U (by first | exact fun _ => rfl | exact id | simp)) fl28_1)) U ?_
 refine AWl.put ((by first | exact R_load U (by first | exact .not1 U U U U | exact .not U U U U) U (.tmp U (by first | exact fun _ => rfl | exact id | simp)) ty24 U U | exact R_load_pp U (by first | exact .not1 U U U U | exact .not U U U U) U (.tmp U (by first | exact fun _ => rfl | exact id | simp)) U ty24 U U | exact R_load_vw U (by first | exact .not1 U U U U | exact .not U U U U) U (.tmp U (by first | exact fun _ => rfl | exact id | simp)) ty24 U U | exact R_load_pr U (by first | exact .not1 U U U U | exact .not U U U U) U (.tmp U (by first | exact fun _ => rfl | exact id | simp)) U (by first | assumption | exact map_get (by assumption)) ty24 U U)) U ?_
 refine AWl.put (R_move U (by first | exact .not1 U U U U | exact .not U U U U) U (.tmp U (by first | exact fun _ => rfl | exact id | simp))) U ?_
 refine AWl.put (R_callz (FnT.fr (implSubtractPairs _ _ (by omega))) U (by first | exact .not1 U U U U | exact .not U U U U) U (.cons (.tmp U (by first | exact fun _ => rfl | exact id | simp)) U (.cons (.tmp U (by first | exact fun _ => rfl | exact id | simp)) U .nil))) U ?_
 refine AWl.put ((by first | exact R_lenm U (by first | exact .not1 U U U U | exact .not U U U U) U (.tmp U (by first | exact fun _ => rfl | exact id | simp)) (by first | exact .t | exact .rf U | exact .vw | exact .nil) Tryz.underlying24 | exact R_len U (by first | exact .not1 U U U U | exact .not U U U U) U (.tmp U (by first | exact fun _ => rfl | exact id | simp)) (by first | exact .t | exact .rf U | exact .vw | exact .nil) Tryz.underlying24)) U ?_
 refine AWl.put (R_gt U (by first | exact .not1 U U U U | exact .not U U U U) U (.tmp U (by first | exact fun _ => rfl | exact id | simp)) (.const U)) U ?_
 refine AWl.put (R_or U (.no U) U (.tm U) (.tmp U (by first | exact fun _ => rfl | exact id | simp))) U ?_
 refine AWl.nil ?_
 refine AW.cond (.tm U) (fun h27 => ?_) (fun h27 => ?_)
 · skip
   try simp at h27
   refine AW.seq ?_
   refine AW.le (σ' := ⟨_, [(0, _), (1, _), (3, _), (4, _), (5, _)], [(20001, _)]⟩) (Le.sub0 U ⟨U, U, U, U, U, trivial⟩ ⟨U, trivial⟩) ?_
   refine AW.region ?_
   refine AWl.mv U U U U U ?_
   refine AWl.adds (R_call 2900 (implcopyPairs l (by omega)) U U U (.cons (.tm U) U .nil) U U) U ?_
   refine AWl.av U U U U U ?_
   refine AWl.ac U U U U U ?_
   refine AWl.nil (AW.ret ?_)
   refine Res.many U (.tmp U (.tmp U .nil)) U ?_ (by simp)
   have e : applyOk l d = false := (by unfold applyOk; rw [commonP_comm d.Added]; grind); unfold applyD; rw [e]; rfl
 · skip
   try simp at h27
   refine AW.skip ?_
   refine AW.seq ?_
   refine AW.le (σ' := ⟨_, [(0, _), (1, _), (3, _), (4, _), (5, _)], [(20001, _)]⟩) (Le.sub0 U ⟨U, U, U, U, U, trivial⟩ ⟨U, trivial⟩) ?_
   refine AW.drawn 9 (nthB [[], [], [1], [0, 1, 2], [], [4], [0, 1, 2, 3, 4, 5], [0, 1, 2, 3, 4, 5, 6], [0, 1, 2, 3, 4, 5, 6, 7]]) (by kernel_rfl) (by kernel_rfl) (by kernel_rfl) ?_
   refine DrawC.step U U U (Loc.of U fun σ' hs => R_move U (.no U) (hd_sup hs U) (.tm (hs.slots _ _ U))) ?_
   refine DrawC.step U U U (Loc.of U fun σ' hs => (by first | exact R_fieldAddr U (.no U) (hd_sup hs U) (.tm (hs.slots _ _ U)) fl28_1 | exact R_fieldAddr_pp U (.no U) (hd_sup hs U) (.tm (hs.slots _ _ U)) fl28_1 | exact R_fieldAddr_vw U (.no U) (hd_sup hs U) (.tm (hs.slots _ _ U)) fl28_1 | exact R_fieldAddr_pr U (.no U) (hd_sup hs U) (.tm (hs.slots _ _ U)) fl28_1)) ?_
   refine DrawC.step U U U (Loc.of U fun σ' hs => (by first | exact R_load U (.no U) (hd_sup hs U) (.tm (hs.slots _ _ U)) ty24 U U | exact R_load_pp U (.no U) (hd_sup hs U) (.tm (hs.slots _ _ U)) (hs.res _ _ U) ty24 U U | exact R_load_vw U (.no U) (hd_sup hs U) (.tm (hs.slots _ _ U)) ty24 U U | exact R_load_pr U (.no U) (hd_sup hs U) (.tm (hs.slots _ _ U)) (hs.res _ _ U) (by first | assumption | exact map_get (by assumption)) ty24 U U)) ?_
   refine DrawC.step U U U (Loc.of U fun σ' hs => R_callz (FnT.fr (implSubtractPairs _ _ (by omega))) U (.no U) (hd_sup hs U) (.cons (.tm (hs.slots _ _ U)) (readA_sup hs U) (.cons (.tm (hs.slots _ _ U)) (readA_sup hs U) .nil))) ?_
   refine DrawC.step U U U (Loc.of U fun σ' hs => (by first | exact R_fieldAddr U (.no U) (hd_sup hs U) (.tm (hs.slots _ _ U)) fl28_0 | exact R_fieldAddr_pp U (.no U) (hd_sup hs U) (.tm (hs.slots _ _ U)) fl28_0 | exact R_fieldAddr_vw U (.no U) (hd_sup hs U) (.tm (hs.slots _ _ U)) fl28_0 | exact R_fieldAddr_pr U (.no U) (hd_sup hs U) (.tm (hs.slots _ _ U)) fl28_0)) ?_
   refine DrawC.step U U U (Loc.of U fun σ' hs => (by first | exact R_load U (.no U) (hd_sup hs U) (.tm (hs.slots _ _ U)) ty24 U U | exact R_load_pp U (.no U) (hd_sup hs U) (.tm (hs.slots _ _ U)) (hs.res _ _ U) ty24 U U | exact R_load_vw U (.no U) (hd_sup hs U) (.tm (hs.slots _ _ U)) ty24 U U | exact R_load_pr U (.no U) (hd_sup hs U) (.tm (hs.slots _ _ U)) (hs.res _ _ U) (by first | assumption | exact map_get (by assumption)) ty24 U U)) ?_
   refine DrawC.step U U U (Loc.ofs U fun σ' hs hf => R_call 3600 (implMergePairs (psub l d.Removed) d.Added (by omega)) U U (hd_sup hs U) (.cons (.tm (hs.slots _ _ U)) (readA_sup hs U) (.cons (.tm (hs.slots _ _ U)) (readA_sup hs U) .nil)) U (all_fresh hf)) ?_
   refine DrawC.step U U U (Loc.of U fun σ' hs => R_assign U (.no U) (hd_sup hs U) (.tm (hs.slots _ _ U))) ?_
   refine DrawC.step U U U (Loc.of U fun σ' hs => R_assign U (.no U) (hd_sup hs U) (.const U)) ?_
   refine DrawC.fin U U ?_
   refine AWl.nil (AW.ret ?_)
   refine Res.many U (.tmp U (.tmp U .nil)) U ?_ (by simp)
   have e : applyOk l d = true := (by unfold applyOk; rw [commonP_comm d.Added]; grind); unfold applyD; rw [e]; rfl
theorem specComposeDeltas (a b : TDelta) (ha1 : a.Added.length ≤ 1048576) (ha2 : a.Removed.length ≤ 1048576) (hb1 : b.Added.length ≤ 1048576) (hb2 : b.Removed.length ≤ 1048576) : FnT Tryz.prog 17 [.agg (cDelta a), .agg (cDelta b)] (.tup [.agg (cDelta (composeD a b).1), .one (.v (.bool (composeD a b).2))]) := by
 refine FnT.walk Tryz.func17 U (by kernel_rfl) Tryz.ntmps17 U fun hlen w0 => ?_
 try simp [cPair, cToken, cExpr, cEdge, cGraph, cStep, cWalk, cChange, cBatch, cHistory, cPositions, cAutomaton, cProductStep, cPathAtom, cConjunction, cView, cDelta, cRegistered, cRegistry] at hlen
 have hp1 := psub_len a.Added b.Removed
 have hp2 := psub_len b.Added a.Removed
 have hp3 := psub_len a.Removed b.Added
 have hp4 := psub_len b.Removed a.Added
 have hok : ∀ {k k2 : Nat} {t t1 : Bool}, b.Added.length ≤ k → b.Removed.length ≤ k2 → t = ((isDelta a && isDelta b) && (b.Added.take k).all fun x => !decide (x ∈ a.Added)) → t1 = (t && (b.Removed.take k2).all fun x => !decide (x ∈ a.Removed)) → t1 = composeOk a b := by intro k k2 t t1 h1 h2 h3 h4; rw [List.take_of_length_le h1, all_no] at h3; rw [List.take_of_length_le h2, all_no] at h4; rw [h4, h3]; rfl
 refine AW.sr ?_
 refine AWl.put (R_boxz U U U (.tm U) (ts := _) (by first | rfl | exact cells_t1 _ | exact cells_t2 _)) U ?_
 refine AWl.put (R_boxz U U U (.tm U) (ts := _) (by first | rfl | exact cells_t1 _ | exact cells_t2 _)) U ?_
 refine AWl.add (R_alloc 4 U U U in28 U U U) U ?_
 refine AWl.ac U U U U U ?_
 refine AWl.nil (AW.sr ?_)
 refine AWl.put ((by first | exact R_load U (.no U) U (.tm U) ty28 U U | exact R_load_pp U (.no U) U (.tm U) U ty28 U U | exact R_load_vw U (.no U) U (.tm U) ty28 U U | exact R_load_pr U (.no U) U (.tm U) U (by first | exact map_get hx | exact map_get hy) ty28 U U)) U ?_
 refine AWl.put (R_callz (FnT.fr (specIsDelta _)) U (.no U) U (.cons (.tm U) U .nil)) U ?_
 refine AWl.mv U U U U U ?_
 refine AWl.put ((by first | exact R_load U (by first | exact .yes1 U U U U | exact .yes U U U U) U (.tmp U (by first | exact fun _ => rfl | exact id | simp)) ty28 U U | exact R_load_pp U (by first | exact .yes1 U U U U | exact .yes U U U U) U (.tmp U (by first | exact fun _ => rfl | exact id | simp)) U ty28 U U | exact R_load_vw U (by first | exact .yes1 U U U U | exact .yes U U U U) U (.tmp U (by first | exact fun _ => rfl | exact id | simp)) ty28 U U | exact R_load_pr U (by first | exact .yes1 U U U U | exact .yes U U U U) U (.tmp U (by first | exact fun _ => rfl | exact id | simp)) U (by first | exact map_get hx | exact map_get hy) ty28 U U)) U ?_
 refine AWl.put (R_callz (FnT.fr (specIsDelta _)) U (by first | exact .yes1 U U U U | exact .yes U U U U) U (.cons (.tmp U (by first | exact fun _ => rfl | exact id | simp)) U .nil)) U ?_
 refine AWl.put (R_and U (.no U) U (.tm U) (.tmp U (by first | exact fun _ => rfl | exact id | simp))) U ?_
 refine AWl.av U U U U U ?_
 refine AWl.nil (AW.seq ?_)
 refine AW.seq ?_
 refine AW.le (σ' := ⟨_, [(0, _), (1, _), (2, _), (3, _), (4, _), (5, _), (6, _)], [(4, _)]⟩) (Le.sub0 U ⟨U, U, U, U, U, U, U, trivial⟩ ⟨U, trivial⟩) ?_
 refine AW.region ?_
 refine AWl.ac U U U U U ?_
 refine AWl.nil (AW.block ?_)
 refine AW.loop2 (fun (k : Nat) (t : Bool) => (k ≤ b.Added.length) ∧ t = ((isDelta a && isDelta b) && (b.Added.take k).all fun x => !decide (x ∈ a.Added))) (fun (k : Nat) (t : Bool) => ⟨_, [(7, (true, .a (.one (.t (.v (.int .i64 (k : Nat))))))), (6, (true, .a (.one (.t (.v (.bool t)))))), (2, _), (3, _), (4, _), (5, _)], [(4, .box [.t (.v (.slice none 0 0)), .t (.v (.slice none 0 0))])]⟩) (fun (k : Nat) (t : Bool) => b.Added.length - k) (0) ((isDelta a && isDelta b)) ⟨Nat.zero_le _, by simp⟩ (Le.sub0 U ⟨U, U, U, U, U, U, trivial⟩ ⟨U, trivial⟩) ?_
 rintro k t ⟨hk, he⟩
 refine AW.seq ?_
 refine AW.sr ?_
 refine AWl.mv U U U U U ?_
 refine AWl.put ((by first | exact R_fieldAddr U (.no U) U (.tm U) fl28_0 | exact R_fieldAddr_pp U (.no U) U (.tm U) fl28_0 | exact R_fieldAddr_vw U (.no U) U (.tm U) fl28_0 | exact R_fieldAddr_pr U (.no U) U (.tm U) fl28_0)) U ?_
 refine AWl.put ((by first | exact R_load U (.no U) U (.tm U) ty24 U U | exact R_load_pp U (.no U) U (.tm U) U ty24 U U | exact R_load_vw U (.no U) U (.tm U) ty24 U U | exact R_load_pr U (.no U) U (.tm U) U (by first | exact map_get hx | exact map_get hy) ty24 U U)) U ?_
 refine AWl.put ((by first | exact R_lenm U (.no U) U (.tm U) (by first | exact .t | exact .rf U | exact .vw | exact .nil) Tryz.underlying24 | exact R_len U (.no U) U (.tm U) (by first | exact .t | exact .rf U | exact .vw | exact .nil) Tryz.underlying24)) U ?_
 refine AWl.put (R_lt U (.no U) U (.tm U) (.tm U)) U ?_
 refine AWl.nil ?_
 refine AW.cond (.tm U) (fun h20 => ?_) (fun h20 => ?_)
 · skip
   try simp at h20
   obtain ⟨x, hx⟩ : ∃ ξ, b.Added[k]? = some ξ := ⟨_, List.getElem?_eq_getElem (by omega)⟩
   refine AW.skip ?_
   refine AW.seq ?_
   refine AW.block ?_
   refine AW.drawn 12 (nthB [[], [0], [0, 1], [0, 1, 2], [0, 1], [0, 1, 4], [0, 1], [0, 1, 4, 5, 6], [0, 1, 4, 5, 6, 7], [0, 1, 2, 3, 4, 5, 6, 7, 8], [0, 1, 2, 3, 4, 5, 6, 7, 8, 9], [0, 1, 2, 3, 4, 5, 6, 7, 8, 9, 10]]) (by kernel_rfl) (by kernel_rfl) (by kernel_rfl) ?_
   refine DrawC.step U U U (Loc.of U fun σ' hs => R_move U (.no U) (hd_sup hs U) (.tm (hs.slots _ _ U))) ?_
   refine DrawC.step U U U (Loc.of U fun σ' hs => R_move U (.no U) (hd_sup hs U) (.tm (hs.slots _ _ U))) ?_
   refine DrawC.step U U U (Loc.of U fun σ' hs => (by first | exact R_fieldAddr U (by first | exact .yes1 U U (hs.slots _ _ U) (by rw [hs.n]; rfl) | exact .yes U U (hs.slots _ _ U) (by rw [hs.n]; rfl)) (hd_sup hs U) (.tmp (hs.slots _ _ U) (by first | exact fun _ => rfl | exact id | simp)) fl28_0 | exact R_fieldAddr_pp U (by first | exact .yes1 U U (hs.slots _ _ U) (by rw [hs.n]; rfl) | exact .yes U U (hs.slots _ _ U) (by rw [hs.n]; rfl)) (hd_sup hs U) (.tmp (hs.slots _ _ U) (by first | exact fun _ => rfl | exact id | simp)) fl28_0 | exact R_fieldAddr_vw U (by first | exact .yes1 U U (hs.slots _ _ U) (by rw [hs.n]; rfl) | exact .yes U U (hs.slots _ _ U) (by rw [hs.n]; rfl)) (hd_sup hs U) (.tmp (hs.slots _ _ U) (by first | exact fun _ => rfl | exact id | simp)) fl28_0 | exact R_fieldAddr_pr U (by first | exact .yes1 U U (hs.slots _ _ U) (by rw [hs.n]; rfl) | exact .yes U U (hs.slots _ _ U) (by rw [hs.n]; rfl)) (hd_sup hs U) (.tmp (hs.slots _ _ U) (by first | exact fun _ => rfl | exact id | simp)) fl28_0)) ?_
   refine DrawC.step U U U (Loc.of U fun σ' hs => (by first | exact R_load U (by first | exact .yes1 U U (hs.slots _ _ U) (by rw [hs.n]; rfl) | exact .yes U U (hs.slots _ _ U) (by rw [hs.n]; rfl)) (hd_sup hs U) (.tmp (hs.slots _ _ U) (by first | exact fun _ => rfl | exact id | simp)) ty24 U U | exact R_load_pp U (by first | exact .yes1 U U (hs.slots _ _ U) (by rw [hs.n]; rfl) | exact .yes U U (hs.slots _ _ U) (by rw [hs.n]; rfl)) (hd_sup hs U) (.tmp (hs.slots _ _ U) (by first | exact fun _ => rfl | exact id | simp)) (hs.res _ _ U) ty24 U U | exact R_load_vw U (by first | exact .yes1 U U (hs.slots _ _ U) (by rw [hs.n]; rfl) | exact .yes U U (hs.slots _ _ U) (by rw [hs.n]; rfl)) (hd_sup hs U) (.tmp (hs.slots _ _ U) (by first | exact fun _ => rfl | exact id | simp)) ty24 U U | exact R_load_pr U (by first | exact .yes1 U U (hs.slots _ _ U) (by rw [hs.n]; rfl) | exact .yes U U (hs.slots _ _ U) (by rw [hs.n]; rfl)) (hd_sup hs U) (.tmp (hs.slots _ _ U) (by first | exact fun _ => rfl | exact id | simp)) (hs.res _ _ U) (by first | exact map_get hx | exact map_get hy) ty24 U U)) ?_
   refine DrawC.step U U U (Loc.of U fun σ' hs => (by first | exact R_fieldAddr U (by first | exact .yes1 U U (hs.slots _ _ U) (by rw [hs.n]; rfl) | exact .yes U U (hs.slots _ _ U) (by rw [hs.n]; rfl)) (hd_sup hs U) (.tmp (hs.slots _ _ U) (by first | exact fun _ => rfl | exact id | simp)) fl28_0 | exact R_fieldAddr_pp U (by first | exact .yes1 U U (hs.slots _ _ U) (by rw [hs.n]; rfl) | exact .yes U U (hs.slots _ _ U) (by rw [hs.n]; rfl)) (hd_sup hs U) (.tmp (hs.slots _ _ U) (by first | exact fun _ => rfl | exact id | simp)) fl28_0 | exact R_fieldAddr_vw U (by first | exact .yes1 U U (hs.slots _ _ U) (by rw [hs.n]; rfl) | exact .yes U U (hs.slots _ _ U) (by rw [hs.n]; rfl)) (hd_sup hs U) (.tmp (hs.slots _ _ U) (by first | exact fun _ => rfl | exact id | simp)) fl28_0 | exact R_fieldAddr_pr U (by first | exact .yes1 U U (hs.slots _ _ U) (by rw [hs.n]; rfl) | exact .yes U U (hs.slots _ _ U) (by rw [hs.n]; rfl)) (hd_sup hs U) (.tmp (hs.slots _ _ U) (by first | exact fun _ => rfl | exact id | simp)) fl28_0)) ?_
   refine DrawC.step U U U (Loc.of U fun σ' hs => (by first | exact R_load U (by first | exact .yes1 U U (hs.slots _ _ U) (by rw [hs.n]; rfl) | exact .yes U U (hs.slots _ _ U) (by rw [hs.n]; rfl)) (hd_sup hs U) (.tmp (hs.slots _ _ U) (by first | exact fun _ => rfl | exact id | simp)) ty24 U U | exact R_load_pp U (by first | exact .yes1 U U (hs.slots _ _ U) (by rw [hs.n]; rfl) | exact .yes U U (hs.slots _ _ U) (by rw [hs.n]; rfl)) (hd_sup hs U) (.tmp (hs.slots _ _ U) (by first | exact fun _ => rfl | exact id | simp)) (hs.res _ _ U) ty24 U U | exact R_load_vw U (by first | exact .yes1 U U (hs.slots _ _ U) (by rw [hs.n]; rfl) | exact .yes U U (hs.slots _ _ U) (by rw [hs.n]; rfl)) (hd_sup hs U) (.tmp (hs.slots _ _ U) (by first | exact fun _ => rfl | exact id | simp)) ty24 U U | exact R_load_pr U (by first | exact .yes1 U U (hs.slots _ _ U) (by rw [hs.n]; rfl) | exact .yes U U (hs.slots _ _ U) (by rw [hs.n]; rfl)) (hd_sup hs U) (.tmp (hs.slots _ _ U) (by first | exact fun _ => rfl | exact id | simp)) (hs.res _ _ U) (by first | exact map_get hx | exact map_get hy) ty24 U U)) ?_
   refine DrawC.step U U U (Loc.of U fun σ' hs => R_move U (by first | exact .yes1 U U (hs.slots _ _ U) (by rw [hs.n]; rfl) | exact .yes U U (hs.slots _ _ U) (by rw [hs.n]; rfl)) (hd_sup hs U) (.tmp (hs.slots _ _ U) (by first | exact fun _ => rfl | exact id | simp))) ?_
   refine DrawC.step U U U (Loc.of U fun σ' hs => (by first | exact R_indexAddr U (by first | exact .yes1 U U (hs.slots _ _ U) (by rw [hs.n]; rfl) | exact .yes U U (hs.slots _ _ U) (by rw [hs.n]; rfl)) (hd_sup hs U) (.tmp (hs.slots _ _ U) (by first | exact fun _ => rfl | exact id | simp)) (.tmp (hs.slots _ _ U) (by first | exact fun _ => rfl | exact id | simp)) Tryz.underlying24 ty68 (fun hq => by (try simp at hq); exact ⟨by omega, (by first | exact map_get hx | exact map_get hy)⟩) | exact R_indexAddr_vw U (by first | exact .yes1 U U (hs.slots _ _ U) (by rw [hs.n]; rfl) | exact .yes U U (hs.slots _ _ U) (by rw [hs.n]; rfl)) (hd_sup hs U) (.tmp (hs.slots _ _ U) (by first | exact fun _ => rfl | exact id | simp)) (.tmp (hs.slots _ _ U) (by first | exact fun _ => rfl | exact id | simp)) Tryz.underlying24 ty68 (fun hq => by (try simp at hq); exact ⟨by omega, (by first | exact map_get hx | exact map_get hy)⟩) | exact R_indexAddr_rf U (by first | exact .yes1 U U (hs.slots _ _ U) (by rw [hs.n]; rfl) | exact .yes U U (hs.slots _ _ U) (by rw [hs.n]; rfl)) (hd_sup hs U) (.tmp (hs.slots _ _ U) (by first | exact fun _ => rfl | exact id | simp)) (hs.res _ _ U) (.tmp (hs.slots _ _ U) (by first | exact fun _ => rfl | exact id | simp)) Tryz.underlying24 ty68 (fun hq => by (try simp at hq); exact ⟨by omega, (by first | exact map_get hx | exact map_get hy)⟩))) ?_
   refine DrawC.step U U U (Loc.of U fun σ' hs => (by first | exact R_load U (by first | exact .yes1 U U (hs.slots _ _ U) (by rw [hs.n]; rfl) | exact .yes U U (hs.slots _ _ U) (by rw [hs.n]; rfl)) (hd_sup hs U) (.tmp (hs.slots _ _ U) (by first | exact fun _ => rfl | exact id | simp)) ty68 U U | exact R_load_pp U (by first | exact .yes1 U U (hs.slots _ _ U) (by rw [hs.n]; rfl) | exact .yes U U (hs.slots _ _ U) (by rw [hs.n]; rfl)) (hd_sup hs U) (.tmp (hs.slots _ _ U) (by first | exact fun _ => rfl | exact id | simp)) (hs.res _ _ U) ty68 U U | exact R_load_vw U (by first | exact .yes1 U U (hs.slots _ _ U) (by rw [hs.n]; rfl) | exact .yes U U (hs.slots _ _ U) (by rw [hs.n]; rfl)) (hd_sup hs U) (.tmp (hs.slots _ _ U) (by first | exact fun _ => rfl | exact id | simp)) ty68 U U | exact R_load_pr U (by first | exact .yes1 U U (hs.slots _ _ U) (by rw [hs.n]; rfl) | exact .yes U U (hs.slots _ _ U) (by rw [hs.n]; rfl)) (hd_sup hs U) (.tmp (hs.slots _ _ U) (by first | exact fun _ => rfl | exact id | simp)) (hs.res _ _ U) (by first | exact map_get hx | exact map_get hy) ty68 U U)) ?_
   refine DrawC.step U U U (Loc.of U fun σ' hs => R_callz (FnT.fr (specl15Has _ _)) U (by first | exact .yes1 U U (hs.slots _ _ U) (by rw [hs.n]; rfl) | exact .yes U U (hs.slots _ _ U) (by rw [hs.n]; rfl)) (hd_sup hs U) (.cons (.tmp (hs.slots _ _ U) (by first | exact fun _ => rfl | exact id | simp)) (readA_sup hs U) (.cons (.tmp (hs.slots _ _ U) (by first | exact fun _ => rfl | exact id | simp)) (readA_sup hs U) .nil))) ?_
   refine DrawC.step U U U (Loc.of U fun σ' hs => R_not U (by first | exact .yes1 U U (hs.slots _ _ U) (by rw [hs.n]; rfl) | exact .yes U U (hs.slots _ _ U) (by rw [hs.n]; rfl)) (hd_sup hs U) (.tmp (hs.slots _ _ U) (by first | exact fun _ => rfl | exact id | simp))) ?_
   refine DrawC.step U U U (Loc.of U fun σ' hs => R_and U (.no U) (hd_sup hs U) (.tm (hs.slots _ _ U)) (.tmp (hs.slots _ _ U) (by first | exact fun _ => rfl | exact id | simp))) ?_
   refine DrawC.fin U U ?_
   refine AWl.av U U U U U ?_
   refine AWl.nil ?_
   refine AW.le (σ' := ⟨_, [(2, _), (3, _), (4, _), (5, _), (6, _), (7, _)], [(4, _)]⟩) (Le.sub0 U ⟨U, U, U, U, U, U, trivial⟩ ⟨U, trivial⟩) ?_
   refine AW.region ?_
   refine AWl.mv U U U U U ?_
   refine AWl.put (R_add U (.no U) U (.tm U) (.const U) (fun _ => by omega)) U ?_
   refine AWl.av U U U U U ?_
   refine AWl.nil ?_
   repeat (with_reducible refine BlockQ.nor ?_)
   refine Round2.next (k + 1) ((t && !decide (x ∈ a.Added))) ⟨by omega, by rw [all_take hx, he, Bool.and_assoc]⟩ (by omega) (Le.sub0 rfl ⟨rfl, rfl, rfl, rfl, rfl, rfl, trivial⟩ ⟨(by first | rfl | (refine congrArg (fun r => some (R.row _ r)) ?_; simp [chunk, List.map_set, cInt, cBool, cIntS, cPair, cToken, cExpr, cEdge, cGraph, cStep, cWalk, cChange, cBatch, cHistory, cPositions, cAutomaton, cProductStep, cPathAtom, cConjunction, cView, cDelta, cRegistered, cRegistry])), trivial⟩)
 · skip
   try simp at h20
   refine AW.exit ?_
   refine AW.seq ?_
   refine AW.sr ?_
   refine AWl.ac U U U U U ?_
   refine AWl.nil (AW.block ?_)
   refine AW.loop2 (fun (k2 : Nat) (t1 : Bool) => (k2 ≤ b.Removed.length) ∧ t1 = (t && (b.Removed.take k2).all fun x => !decide (x ∈ a.Removed))) (fun (k2 : Nat) (t1 : Bool) => ⟨_, [(8, (true, .a (.one (.t (.v (.int .i64 (k2 : Nat))))))), (6, (true, .a (.one (.t (.v (.bool t1)))))), (2, _), (3, _), (4, _), (5, _)], [(4, .box [.t (.v (.slice none 0 0)), .t (.v (.slice none 0 0))])]⟩) (fun (k2 : Nat) (t1 : Bool) => b.Removed.length - k2) (0) (t) ⟨Nat.zero_le _, by simp⟩ (Le.sub0 U ⟨U, U, U, U, U, U, trivial⟩ ⟨U, trivial⟩) ?_
   rintro k2 t1 ⟨hk1, he1⟩
   refine AW.seq ?_
   refine AW.sr ?_
   refine AWl.mv U U U U U ?_
   refine AWl.put ((by first | exact R_fieldAddr U (.no U) U (.tm U) fl28_1 | exact R_fieldAddr_pp U (.no U) U (.tm U) fl28_1 | exact R_fieldAddr_vw U (.no U) U (.tm U) fl28_1 | exact R_fieldAddr_pr U (.no U) U (.tm U) fl28_1)) U ?_
   refine AWl.put ((by first | exact R_load U (.no U) U (.tm U) ty24 U U | exact R_load_pp U (.no U) U (.tm U) U ty24 U U | exact R_load_vw U (.no U) U (.tm U) ty24 U U | exact R_load_pr U (.no U) U (.tm U) U (by first | exact map_get hx | exact map_get hy) ty24 U U)) U ?_
   refine AWl.put ((by first | exact R_lenm U (.no U) U (.tm U) (by first | exact .t | exact .rf U | exact .vw | exact .nil) Tryz.underlying24 | exact R_len U (.no U) U (.tm U) (by first | exact .t | exact .rf U | exact .vw | exact .nil) Tryz.underlying24)) U ?_
   refine AWl.put (R_lt U (.no U) U (.tm U) (.tm U)) U ?_
   refine AWl.nil ?_
   refine AW.cond (.tm U) (fun h39 => ?_) (fun h39 => ?_)
   · skip
     try simp at h39
     obtain ⟨y, hy⟩ : ∃ ξ, b.Removed[k2]? = some ξ := ⟨_, List.getElem?_eq_getElem (by omega)⟩
     refine AW.skip ?_
     refine AW.seq ?_
     refine AW.block ?_
     refine AW.drawn 12 (nthB [[], [0], [0, 1], [0, 1, 2], [0, 1], [0, 1, 4], [0, 1], [0, 1, 4, 5, 6], [0, 1, 4, 5, 6, 7], [0, 1, 2, 3, 4, 5, 6, 7, 8], [0, 1, 2, 3, 4, 5, 6, 7, 8, 9], [0, 1, 2, 3, 4, 5, 6, 7, 8, 9, 10]]) (by kernel_rfl) (by kernel_rfl) (by kernel_rfl) ?_
     refine DrawC.step U U U (Loc.of U fun σ' hs => R_move U (.no U) (hd_sup hs U) (.tm (hs.slots _ _ U))) ?_
     refine DrawC.step U U U (Loc.of U fun σ' hs => R_move U (.no U) (hd_sup hs U) (.tm (hs.slots _ _ U))) ?_
     refine DrawC.step U U U (Loc.of U fun σ' hs => (by first | exact R_fieldAddr U (by first | exact .yes1 U U (hs.slots _ _ U) (by rw [hs.n]; rfl) | exact .yes U U (hs.slots _ _ U) (by rw [hs.n]; rfl)) (hd_sup hs U) (.tmp (hs.slots _ _ U) (by first | exact fun _ => rfl | exact id | simp)) fl28_1 | exact R_fieldAddr_pp U (by first | exact .yes1 U U (hs.slots _ _ U) (by rw [hs.n]; rfl) | exact .yes U U (hs.slots _ _ U) (by rw [hs.n]; rfl)) (hd_sup hs U) (.tmp (hs.slots _ _ U) (by first | exact fun _ => rfl | exact id | simp)) fl28_1 | exact R_fieldAddr_vw U (by first | exact .yes1 U U (hs.slots _ _ U) (by rw [hs.n]; rfl) | exact .yes U U (hs.slots _ _ U) (by rw [hs.n]; rfl)) (hd_sup hs U) (.tmp (hs.slots _ _ U) (by first | exact fun _ => rfl | exact id | simp)) fl28_1 | exact R_fieldAddr_pr U (by first | exact .yes1 U U (hs.slots _ _ U) (by rw [hs.n]; rfl) | exact .yes U U (hs.slots _ _ U) (by rw [hs.n]; rfl)) (hd_sup hs U) (.tmp (hs.slots _ _ U) (by first | exact fun _ => rfl | exact id | simp)) fl28_1)) ?_
     refine DrawC.step U U U (Loc.of U fun σ' hs => (by first | exact R_load U (by first | exact .yes1 U U (hs.slots _ _ U) (by rw [hs.n]; rfl) | exact .yes U U (hs.slots _ _ U) (by rw [hs.n]; rfl)) (hd_sup hs U) (.tmp (hs.slots _ _ U) (by first | exact fun _ => rfl | exact id | simp)) ty24 U U | exact R_load_pp U (by first | exact .yes1 U U (hs.slots _ _ U) (by rw [hs.n]; rfl) | exact .yes U U (hs.slots _ _ U) (by rw [hs.n]; rfl)) (hd_sup hs U) (.tmp (hs.slots _ _ U) (by first | exact fun _ => rfl | exact id | simp)) (hs.res _ _ U) ty24 U U | exact R_load_vw U (by first | exact .yes1 U U (hs.slots _ _ U) (by rw [hs.n]; rfl) | exact .yes U U (hs.slots _ _ U) (by rw [hs.n]; rfl)) (hd_sup hs U) (.tmp (hs.slots _ _ U) (by first | exact fun _ => rfl | exact id | simp)) ty24 U U | exact R_load_pr U (by first | exact .yes1 U U (hs.slots _ _ U) (by rw [hs.n]; rfl) | exact .yes U U (hs.slots _ _ U) (by rw [hs.n]; rfl)) (hd_sup hs U) (.tmp (hs.slots _ _ U) (by first | exact fun _ => rfl | exact id | simp)) (hs.res _ _ U) (by first | exact map_get hx | exact map_get hy) ty24 U U)) ?_
     refine DrawC.step U U U (Loc.of U fun σ' hs => (by first | exact R_fieldAddr U (by first | exact .yes1 U U (hs.slots _ _ U) (by rw [hs.n]; rfl) | exact .yes U U (hs.slots _ _ U) (by rw [hs.n]; rfl)) (hd_sup hs U) (.tmp (hs.slots _ _ U) (by first | exact fun _ => rfl | exact id | simp)) fl28_1 | exact R_fieldAddr_pp U (by first | exact .yes1 U U (hs.slots _ _ U) (by rw [hs.n]; rfl) | exact .yes U U (hs.slots _ _ U) (by rw [hs.n]; rfl)) (hd_sup hs U) (.tmp (hs.slots _ _ U) (by first | exact fun _ => rfl | exact id | simp)) fl28_1 | exact R_fieldAddr_vw U (by first | exact .yes1 U U (hs.slots _ _ U) (by rw [hs.n]; rfl) | exact .yes U U (hs.slots _ _ U) (by rw [hs.n]; rfl)) (hd_sup hs U) (.tmp (hs.slots _ _ U) (by first | exact fun _ => rfl | exact id | simp)) fl28_1 | exact R_fieldAddr_pr U (by first | exact .yes1 U U (hs.slots _ _ U) (by rw [hs.n]; rfl) | exact .yes U U (hs.slots _ _ U) (by rw [hs.n]; rfl)) (hd_sup hs U) (.tmp (hs.slots _ _ U) (by first | exact fun _ => rfl | exact id | simp)) fl28_1)) ?_
     refine DrawC.step U U U (Loc.of U fun σ' hs => (by first | exact R_load U (by first | exact .yes1 U U (hs.slots _ _ U) (by rw [hs.n]; rfl) | exact .yes U U (hs.slots _ _ U) (by rw [hs.n]; rfl)) (hd_sup hs U) (.tmp (hs.slots _ _ U) (by first | exact fun _ => rfl | exact id | simp)) ty24 U U | exact R_load_pp U (by first | exact .yes1 U U (hs.slots _ _ U) (by rw [hs.n]; rfl) | exact .yes U U (hs.slots _ _ U) (by rw [hs.n]; rfl)) (hd_sup hs U) (.tmp (hs.slots _ _ U) (by first | exact fun _ => rfl | exact id | simp)) (hs.res _ _ U) ty24 U U | exact R_load_vw U (by first | exact .yes1 U U (hs.slots _ _ U) (by rw [hs.n]; rfl) | exact .yes U U (hs.slots _ _ U) (by rw [hs.n]; rfl)) (hd_sup hs U) (.tmp (hs.slots _ _ U) (by first | exact fun _ => rfl | exact id | simp)) ty24 U U | exact R_load_pr U (by first | exact .yes1 U U (hs.slots _ _ U) (by rw [hs.n]; rfl) | exact .yes U U (hs.slots _ _ U) (by rw [hs.n]; rfl)) (hd_sup hs U) (.tmp (hs.slots _ _ U) (by first | exact fun _ => rfl | exact id | simp)) (hs.res _ _ U) (by first | exact map_get hx | exact map_get hy) ty24 U U)) ?_
     refine DrawC.step U U U (Loc.of U fun σ' hs => R_move U (by first | exact .yes1 U U (hs.slots _ _ U) (by rw [hs.n]; rfl) | exact .yes U U (hs.slots _ _ U) (by rw [hs.n]; rfl)) (hd_sup hs U) (.tmp (hs.slots _ _ U) (by first | exact fun _ => rfl | exact id | simp))) ?_
     refine DrawC.step U U U (Loc.of U fun σ' hs => (by first | exact R_indexAddr U (by first | exact .yes1 U U (hs.slots _ _ U) (by rw [hs.n]; rfl) | exact .yes U U (hs.slots _ _ U) (by rw [hs.n]; rfl)) (hd_sup hs U) (.tmp (hs.slots _ _ U) (by first | exact fun _ => rfl | exact id | simp)) (.tmp (hs.slots _ _ U) (by first | exact fun _ => rfl | exact id | simp)) Tryz.underlying24 ty68 (fun hq => by (try simp at hq); exact ⟨by omega, (by first | exact map_get hx | exact map_get hy)⟩) | exact R_indexAddr_vw U (by first | exact .yes1 U U (hs.slots _ _ U) (by rw [hs.n]; rfl) | exact .yes U U (hs.slots _ _ U) (by rw [hs.n]; rfl)) (hd_sup hs U) (.tmp (hs.slots _ _ U) (by first | exact fun _ => rfl | exact id | simp)) (.tmp (hs.slots _ _ U) (by first | exact fun _ => rfl | exact id | simp)) Tryz.underlying24 ty68 (fun hq => by (try simp at hq); exact ⟨by omega, (by first | exact map_get hx | exact map_get hy)⟩) | exact R_indexAddr_rf U (by first | exact .yes1 U U (hs.slots _ _ U) (by rw [hs.n]; rfl) | exact .yes U U (hs.slots _ _ U) (by rw [hs.n]; rfl)) (hd_sup hs U) (.tmp (hs.slots _ _ U) (by first | exact fun _ => rfl | exact id | simp)) (hs.res _ _ U) (.tmp (hs.slots _ _ U) (by first | exact fun _ => rfl | exact id | simp)) Tryz.underlying24 ty68 (fun hq => by (try simp at hq); exact ⟨by omega, (by first | exact map_get hx | exact map_get hy)⟩))) ?_
     refine DrawC.step U U U (Loc.of U fun σ' hs => (by first | exact R_load U (by first | exact .yes1 U U (hs.slots _ _ U) (by rw [hs.n]; rfl) | exact .yes U U (hs.slots _ _ U) (by rw [hs.n]; rfl)) (hd_sup hs U) (.tmp (hs.slots _ _ U) (by first | exact fun _ => rfl | exact id | simp)) ty68 U U | exact R_load_pp U (by first | exact .yes1 U U (hs.slots _ _ U) (by rw [hs.n]; rfl) | exact .yes U U (hs.slots _ _ U) (by rw [hs.n]; rfl)) (hd_sup hs U) (.tmp (hs.slots _ _ U) (by first | exact fun _ => rfl | exact id | simp)) (hs.res _ _ U) ty68 U U | exact R_load_vw U (by first | exact .yes1 U U (hs.slots _ _ U) (by rw [hs.n]; rfl) | exact .yes U U (hs.slots _ _ U) (by rw [hs.n]; rfl)) (hd_sup hs U) (.tmp (hs.slots _ _ U) (by first | exact fun _ => rfl | exact id | simp)) ty68 U U | exact R_load_pr U (by first | exact .yes1 U U (hs.slots _ _ U) (by rw [hs.n]; rfl) | exact .yes U U (hs.slots _ _ U) (by rw [hs.n]; rfl)) (hd_sup hs U) (.tmp (hs.slots _ _ U) (by first | exact fun _ => rfl | exact id | simp)) (hs.res _ _ U) (by first | exact map_get hx | exact map_get hy) ty68 U U)) ?_
     refine DrawC.step U U U (Loc.of U fun σ' hs => R_callz (FnT.fr (specl15Has _ _)) U (by first | exact .yes1 U U (hs.slots _ _ U) (by rw [hs.n]; rfl) | exact .yes U U (hs.slots _ _ U) (by rw [hs.n]; rfl)) (hd_sup hs U) (.cons (.tmp (hs.slots _ _ U) (by first | exact fun _ => rfl | exact id | simp)) (readA_sup hs U) (.cons (.tmp (hs.slots _ _ U) (by first | exact fun _ => rfl | exact id | simp)) (readA_sup hs U) .nil))) ?_
     refine DrawC.step U U U (Loc.of U fun σ' hs => R_not U (by first | exact .yes1 U U (hs.slots _ _ U) (by rw [hs.n]; rfl) | exact .yes U U (hs.slots _ _ U) (by rw [hs.n]; rfl)) (hd_sup hs U) (.tmp (hs.slots _ _ U) (by first | exact fun _ => rfl | exact id | simp))) ?_
     refine DrawC.step U U U (Loc.of U fun σ' hs => R_and U (.no U) (hd_sup hs U) (.tm (hs.slots _ _ U)) (.tmp (hs.slots _ _ U) (by first | exact fun _ => rfl | exact id | simp))) ?_
     refine DrawC.fin U U ?_
     refine AWl.av U U U U U ?_
     refine AWl.nil ?_
     refine AW.le (σ' := ⟨_, [(2, _), (3, _), (4, _), (5, _), (6, _), (8, _)], [(4, _)]⟩) (Le.sub0 U ⟨U, U, U, U, U, U, trivial⟩ ⟨U, trivial⟩) ?_
     refine AW.region ?_
     refine AWl.mv U U U U U ?_
     refine AWl.put (R_add U (.no U) U (.tm U) (.const U) (fun _ => by omega)) U ?_
     refine AWl.av U U U U U ?_
     refine AWl.nil ?_
     repeat (with_reducible refine BlockQ.nor ?_)
     refine Round2.next (k2 + 1) ((t1 && !decide (y ∈ a.Removed))) ⟨by omega, by rw [all_take hy, he1, Bool.and_assoc]⟩ (by omega) (Le.sub0 rfl ⟨rfl, rfl, rfl, rfl, rfl, rfl, trivial⟩ ⟨(by first | rfl | (refine congrArg (fun r => some (R.row _ r)) ?_; simp [chunk, List.map_set, cInt, cBool, cIntS, cPair, cToken, cExpr, cEdge, cGraph, cStep, cWalk, cChange, cBatch, cHistory, cPositions, cAutomaton, cProductStep, cPathAtom, cConjunction, cView, cDelta, cRegistered, cRegistry])), trivial⟩)
   · skip
     try simp at h39
     refine AW.exit ?_
     refine AW.seq ?_
     refine AW.sr ?_
     refine AWl.mv U U U U U ?_
     refine AWl.put (R_not U (.no U) U (.tm U)) U ?_
     refine AWl.nil ?_
     refine AW.cond (.tm U) (fun h55 => ?_) (fun h55 => ?_)
     · skip
       try simp at h55
       refine AW.seq ?_
       refine AW.le (σ' := ⟨_, [(2, _), (3, _), (4, _), (5, _), (6, _), (8, _)], [(4, _)]⟩) (Le.sub0 U ⟨U, U, U, U, U, U, trivial⟩ ⟨U, trivial⟩) ?_
       refine AW.region ?_
       refine AWl.put (R_build (ps := []) U U U in28 U U st28 .nil U) U ?_
       refine AWl.nilA (i := 56) 20001 2 0 U U U ?_
       refine AWl.nilA (i := 56) 20002 2 1 U U U ?_
       refine AWl.chgb (R_store_pb U U U (.tm U) (.tm U) U ty28 U U U (by kernel_rfl) U) ?_
       refine AWl.le (σ' := ⟨_, [(2, _), (3, _), (4, _), (5, _), (6, _), (8, _)], [(4, _), (20001, _), (20002, _)]⟩) (Le.sub0 U ⟨U, U, U, U, U, U, trivial⟩ ⟨U, U, U, trivial⟩) ?_
       refine AWl.ac U U U U U ?_
       refine AWl.nil (AW.ret ?_)
       refine Res.many U (.cell U U ty28 U U (.tmp U .nil)) U ?_ (by simp)
       have e := hok (by omega) (by omega) he he1; unfold composeD; rw [← e, if_neg (by simp [h55])]; rfl
     · skip
       try simp at h55
       refine AW.skip ?_
       refine AW.seq ?_
       refine AW.le (σ' := ⟨_, [(2, _), (3, _), (4, _), (5, _), (6, _), (8, _)], [(4, _)]⟩) (Le.sub0 U ⟨U, U, U, U, U, U, trivial⟩ ⟨U, trivial⟩) ?_
       refine AW.drawn 13 (nthB [[], [0], [], [2], [0, 1, 2, 3], [], [5], [], [7], [0, 1, 2, 3, 4, 5, 6, 7, 8], [0, 1, 2, 3, 4, 5, 6, 7, 8, 9], [0, 1, 2, 3, 4, 5, 6, 7, 8, 9, 10], []]) (by kernel_rfl) (by kernel_rfl) (by kernel_rfl) ?_
       refine DrawC.step U U U (Loc.of U fun σ' hs => (by first | exact R_fieldAddr U (.no U) (hd_sup hs U) (.tm (hs.slots _ _ U)) fl28_0 | exact R_fieldAddr_pp U (.no U) (hd_sup hs U) (.tm (hs.slots _ _ U)) fl28_0 | exact R_fieldAddr_vw U (.no U) (hd_sup hs U) (.tm (hs.slots _ _ U)) fl28_0 | exact R_fieldAddr_pr U (.no U) (hd_sup hs U) (.tm (hs.slots _ _ U)) fl28_0)) ?_
       refine DrawC.step U U U (Loc.of U fun σ' hs => (by first | exact R_load U (.no U) (hd_sup hs U) (.tm (hs.slots _ _ U)) ty24 U U | exact R_load_pp U (.no U) (hd_sup hs U) (.tm (hs.slots _ _ U)) (hs.res _ _ U) ty24 U U | exact R_load_vw U (.no U) (hd_sup hs U) (.tm (hs.slots _ _ U)) ty24 U U | exact R_load_pr U (.no U) (hd_sup hs U) (.tm (hs.slots _ _ U)) (hs.res _ _ U) (by first | exact map_get hx | exact map_get hy) ty24 U U)) ?_
       refine DrawC.step U U U (Loc.of U fun σ' hs => (by first | exact R_fieldAddr U (.no U) (hd_sup hs U) (.tm (hs.slots _ _ U)) fl28_1 | exact R_fieldAddr_pp U (.no U) (hd_sup hs U) (.tm (hs.slots _ _ U)) fl28_1 | exact R_fieldAddr_vw U (.no U) (hd_sup hs U) (.tm (hs.slots _ _ U)) fl28_1 | exact R_fieldAddr_pr U (.no U) (hd_sup hs U) (.tm (hs.slots _ _ U)) fl28_1)) ?_
       refine DrawC.step U U U (Loc.of U fun σ' hs => (by first | exact R_load U (.no U) (hd_sup hs U) (.tm (hs.slots _ _ U)) ty24 U U | exact R_load_pp U (.no U) (hd_sup hs U) (.tm (hs.slots _ _ U)) (hs.res _ _ U) ty24 U U | exact R_load_vw U (.no U) (hd_sup hs U) (.tm (hs.slots _ _ U)) ty24 U U | exact R_load_pr U (.no U) (hd_sup hs U) (.tm (hs.slots _ _ U)) (hs.res _ _ U) (by first | exact map_get hx | exact map_get hy) ty24 U U)) ?_
       refine DrawC.step U U U (Loc.of U fun σ' hs => R_callz (FnT.fr (specSubtractPairs _ _ (by omega))) U (.no U) (hd_sup hs U) (.cons (.tm (hs.slots _ _ U)) (readA_sup hs U) (.cons (.tm (hs.slots _ _ U)) (readA_sup hs U) .nil))) ?_
       refine DrawC.step U U U (Loc.of U fun σ' hs => (by first | exact R_fieldAddr U (.no U) (hd_sup hs U) (.tm (hs.slots _ _ U)) fl28_0 | exact R_fieldAddr_pp U (.no U) (hd_sup hs U) (.tm (hs.slots _ _ U)) fl28_0 | exact R_fieldAddr_vw U (.no U) (hd_sup hs U) (.tm (hs.slots _ _ U)) fl28_0 | exact R_fieldAddr_pr U (.no U) (hd_sup hs U) (.tm (hs.slots _ _ U)) fl28_0)) ?_
       refine DrawC.step U U U (Loc.of U fun σ' hs => (by first | exact R_load U (.no U) (hd_sup hs U) (.tm (hs.slots _ _ U)) ty24 U U | exact R_load_pp U (.no U) (hd_sup hs U) (.tm (hs.slots _ _ U)) (hs.res _ _ U) ty24 U U | exact R_load_vw U (.no U) (hd_sup hs U) (.tm (hs.slots _ _ U)) ty24 U U | exact R_load_pr U (.no U) (hd_sup hs U) (.tm (hs.slots _ _ U)) (hs.res _ _ U) (by first | exact map_get hx | exact map_get hy) ty24 U U)) ?_
       refine DrawC.step U U U (Loc.of U fun σ' hs => (by first | exact R_fieldAddr U (.no U) (hd_sup hs U) (.tm (hs.slots _ _ U)) fl28_1 | exact R_fieldAddr_pp U (.no U) (hd_sup hs U) (.tm (hs.slots _ _ U)) fl28_1 | exact R_fieldAddr_vw U (.no U) (hd_sup hs U) (.tm (hs.slots _ _ U)) fl28_1 | exact R_fieldAddr_pr U (.no U) (hd_sup hs U) (.tm (hs.slots _ _ U)) fl28_1)) ?_
       refine DrawC.step U U U (Loc.of U fun σ' hs => (by first | exact R_load U (.no U) (hd_sup hs U) (.tm (hs.slots _ _ U)) ty24 U U | exact R_load_pp U (.no U) (hd_sup hs U) (.tm (hs.slots _ _ U)) (hs.res _ _ U) ty24 U U | exact R_load_vw U (.no U) (hd_sup hs U) (.tm (hs.slots _ _ U)) ty24 U U | exact R_load_pr U (.no U) (hd_sup hs U) (.tm (hs.slots _ _ U)) (hs.res _ _ U) (by first | exact map_get hx | exact map_get hy) ty24 U U)) ?_
       refine DrawC.step U U U (Loc.of U fun σ' hs => R_callz (FnT.fr (specSubtractPairs _ _ (by omega))) U (.no U) (hd_sup hs U) (.cons (.tm (hs.slots _ _ U)) (readA_sup hs U) (.cons (.tm (hs.slots _ _ U)) (readA_sup hs U) .nil))) ?_
       refine DrawC.step U U U (Loc.ofs U fun σ' hs hf => R_call 6700 (specMergePairs (psub a.Added b.Removed) (psub b.Added a.Removed) (by omega)) U U (hd_sup hs U) (.cons (.tm (hs.slots _ _ U)) (readA_sup hs U) (.cons (.tm (hs.slots _ _ U)) (readA_sup hs U) .nil)) U (all_fresh hf)) ?_
       refine DrawC.step U U U (Loc.of U fun σ' hs => R_build (ps := [(0, .tmp 67)]) U U (hd_sup hs U) in28 U U st28 (.cons (.tm (hs.slots _ _ U)) U U fp28_0 .nil) U) ?_
       refine DrawC.step U U U (Loc.of1 U fun σ' hs hf => R_alloc 9 U U (hd_sup hs U) in28 U U hf) ?_
       refine DrawC.fin U U ?_
       refine AWl.nilA (i := 68) 20003 2 1 U U U ?_
       refine AWl.chgb (R_store_pb U U U (.tm U) (.tm U) U ty28 U U U (by kernel_rfl) U) ?_
       refine AWl.nil (AW.seq ?_)
       refine AW.le (σ' := ⟨_, [(2, _), (3, _), (4, _), (5, _), (6, _), (8, _), (9, _)], [(4, _), (6700, _), (9, _), (20003, _)]⟩) (Le.sub0 U ⟨U, U, U, U, U, U, U, trivial⟩ ⟨U, U, U, U, trivial⟩) ?_
       refine AW.drawn 12 (nthB [[], [0], [], [2], [0, 1, 2, 3], [], [5], [], [7], [0, 1, 2, 3, 4, 5, 6, 7, 8], [0, 1, 2, 3, 4, 5, 6, 7, 8, 9], [0, 1, 2, 3, 4, 5, 6, 7, 8, 9, 10]]) (by kernel_rfl) (by kernel_rfl) (by kernel_rfl) ?_
       refine DrawC.step U U U (Loc.of U fun σ' hs => (by first | exact R_fieldAddr U (.no U) (hd_sup hs U) (.tm (hs.slots _ _ U)) fl28_1 | exact R_fieldAddr_pp U (.no U) (hd_sup hs U) (.tm (hs.slots _ _ U)) fl28_1 | exact R_fieldAddr_vw U (.no U) (hd_sup hs U) (.tm (hs.slots _ _ U)) fl28_1 | exact R_fieldAddr_pr U (.no U) (hd_sup hs U) (.tm (hs.slots _ _ U)) fl28_1)) ?_
       refine DrawC.step U U U (Loc.of U fun σ' hs => (by first | exact R_load U (.no U) (hd_sup hs U) (.tm (hs.slots _ _ U)) ty24 U U | exact R_load_pp U (.no U) (hd_sup hs U) (.tm (hs.slots _ _ U)) (hs.res _ _ U) ty24 U U | exact R_load_vw U (.no U) (hd_sup hs U) (.tm (hs.slots _ _ U)) ty24 U U | exact R_load_pr U (.no U) (hd_sup hs U) (.tm (hs.slots _ _ U)) (hs.res _ _ U) (by first | exact map_get hx | exact map_get hy) ty24 U U)) ?_
       refine DrawC.step U U U (Loc.of U fun σ' hs => (by first | exact R_fieldAddr U (.no U) (hd_sup hs U) (.tm (hs.slots _ _ U)) fl28_0 | exact R_fieldAddr_pp U (.no U) (hd_sup hs U) (.tm (hs.slots _ _ U)) fl28_0 | exact R_fieldAddr_vw U (.no U) (hd_sup hs U) (.tm (hs.slots _ _ U)) fl28_0 | exact R_fieldAddr_pr U (.no U) (hd_sup hs U) (.tm (hs.slots _ _ U)) fl28_0)) ?_
       refine DrawC.step U U U (Loc.of U fun σ' hs => (by first | exact R_load U (.no U) (hd_sup hs U) (.tm (hs.slots _ _ U)) ty24 U U | exact R_load_pp U (.no U) (hd_sup hs U) (.tm (hs.slots _ _ U)) (hs.res _ _ U) ty24 U U | exact R_load_vw U (.no U) (hd_sup hs U) (.tm (hs.slots _ _ U)) ty24 U U | exact R_load_pr U (.no U) (hd_sup hs U) (.tm (hs.slots _ _ U)) (hs.res _ _ U) (by first | exact map_get hx | exact map_get hy) ty24 U U)) ?_
       refine DrawC.step U U U (Loc.of U fun σ' hs => R_callz (FnT.fr (specSubtractPairs _ _ (by omega))) U (.no U) (hd_sup hs U) (.cons (.tm (hs.slots _ _ U)) (readA_sup hs U) (.cons (.tm (hs.slots _ _ U)) (readA_sup hs U) .nil))) ?_
       refine DrawC.step U U U (Loc.of U fun σ' hs => (by first | exact R_fieldAddr U (.no U) (hd_sup hs U) (.tm (hs.slots _ _ U)) fl28_1 | exact R_fieldAddr_pp U (.no U) (hd_sup hs U) (.tm (hs.slots _ _ U)) fl28_1 | exact R_fieldAddr_vw U (.no U) (hd_sup hs U) (.tm (hs.slots _ _ U)) fl28_1 | exact R_fieldAddr_pr U (.no U) (hd_sup hs U) (.tm (hs.slots _ _ U)) fl28_1)) ?_
       refine DrawC.step U U U (Loc.of U fun σ' hs => (by first | exact R_load U (.no U) (hd_sup hs U) (.tm (hs.slots _ _ U)) ty24 U U | exact R_load_pp U (.no U) (hd_sup hs U) (.tm (hs.slots _ _ U)) (hs.res _ _ U) ty24 U U | exact R_load_vw U (.no U) (hd_sup hs U) (.tm (hs.slots _ _ U)) ty24 U U | exact R_load_pr U (.no U) (hd_sup hs U) (.tm (hs.slots _ _ U)) (hs.res _ _ U) (by first | exact map_get hx | exact map_get hy) ty24 U U)) ?_
       refine DrawC.step U U U (Loc.of U fun σ' hs => (by first | exact R_fieldAddr U (.no U) (hd_sup hs U) (.tm (hs.slots _ _ U)) fl28_0 | exact R_fieldAddr_pp U (.no U) (hd_sup hs U) (.tm (hs.slots _ _ U)) fl28_0 | exact R_fieldAddr_vw U (.no U) (hd_sup hs U) (.tm (hs.slots _ _ U)) fl28_0 | exact R_fieldAddr_pr U (.no U) (hd_sup hs U) (.tm (hs.slots _ _ U)) fl28_0)) ?_
       refine DrawC.step U U U (Loc.of U fun σ' hs => (by first | exact R_load U (.no U) (hd_sup hs U) (.tm (hs.slots _ _ U)) ty24 U U | exact R_load_pp U (.no U) (hd_sup hs U) (.tm (hs.slots _ _ U)) (hs.res _ _ U) ty24 U U | exact R_load_vw U (.no U) (hd_sup hs U) (.tm (hs.slots _ _ U)) ty24 U U | exact R_load_pr U (.no U) (hd_sup hs U) (.tm (hs.slots _ _ U)) (hs.res _ _ U) (by first | exact map_get hx | exact map_get hy) ty24 U U)) ?_
       refine DrawC.step U U U (Loc.of U fun σ' hs => R_callz (FnT.fr (specSubtractPairs _ _ (by omega))) U (.no U) (hd_sup hs U) (.cons (.tm (hs.slots _ _ U)) (readA_sup hs U) (.cons (.tm (hs.slots _ _ U)) (readA_sup hs U) .nil))) ?_
       refine DrawC.step U U U (Loc.ofs U fun σ' hs hf => R_call 7900 (specMergePairs (psub a.Removed b.Added) (psub b.Removed a.Added) (by omega)) U U (hd_sup hs U) (.cons (.tm (hs.slots _ _ U)) (readA_sup hs U) (.cons (.tm (hs.slots _ _ U)) (readA_sup hs U) .nil)) U (all_fresh hf)) ?_
       refine DrawC.step U U U (Loc.of U fun σ' hs => (by first | exact R_fieldAddr U (.no U) (hd_sup hs U) (.tm (hs.slots _ _ U)) fl28_1 | exact R_fieldAddr_pp U (.no U) (hd_sup hs U) (.tm (hs.slots _ _ U)) fl28_1 | exact R_fieldAddr_vw U (.no U) (hd_sup hs U) (.tm (hs.slots _ _ U)) fl28_1 | exact R_fieldAddr_pr U (.no U) (hd_sup hs U) (.tm (hs.slots _ _ U)) fl28_1)) ?_
       refine DrawC.fin U U ?_
       refine AWl.chgb (R_store_pb U U U (.tm U) (.tm U) U ty24 U U U (by kernel_rfl) U) ?_
       refine AWl.nil (AW.seq ?_)
       refine AW.le (σ' := ⟨_, [(2, _), (3, _), (4, _), (5, _), (6, _), (8, _), (9, _)], [(4, _), (6700, _), (9, _), (20003, _), (7900, _)]⟩) (Le.sub0 U ⟨U, U, U, U, U, U, U, trivial⟩ ⟨U, U, U, U, U, trivial⟩) ?_
       refine AW.region ?_
       refine AWl.put ((by first | exact R_load U (.no U) U (.tm U) ty28 U U | exact R_load_pp U (.no U) U (.tm U) U ty28 U U | exact R_load_vw U (.no U) U (.tm U) ty28 U U | exact R_load_pr U (.no U) U (.tm U) U (by first | exact map_get hx | exact map_get hy) ty28 U U)) U ?_
       refine AWl.chgb (R_store_pb U U U (.tm U) (.tm U) U ty28 U U U (by kernel_rfl) U) ?_
       refine AWl.le (σ' := ⟨_, [(2, _), (3, _), (4, _), (5, _), (6, _), (8, _), (9, _)], [(4, _), (6700, _), (9, _), (20003, _), (7900, _)]⟩) (Le.sub0 U ⟨U, U, U, U, U, U, U, trivial⟩ ⟨U, U, U, U, U, trivial⟩) ?_
       refine AWl.ac U U U U U ?_
       refine AWl.nil (AW.ret ?_)
       refine Res.many U (.cell U U ty28 U U (.tmp U .nil)) U ?_ (by simp)
       have e := hok (by omega) (by omega) he he1; unfold composeD; rw [← e, if_pos (by simpa using h55)]; rfl
theorem implComposeDeltas (a b : TDelta) (ha1 : a.Added.length ≤ 1048576) (ha2 : a.Removed.length ≤ 1048576) (hb1 : b.Added.length ≤ 1048576) (hb2 : b.Removed.length ≤ 1048576) : FnT Tryz.prog 16 [.agg (cDelta a), .agg (cDelta b)] (.tup [.agg (cDelta (composeD a b).1), .one (.v (.bool (composeD a b).2))]) := by
 refine FnT.walk Tryz.func16 U (by kernel_rfl) Tryz.ntmps16 U fun hlen w0 => ?_
 try simp [cPair, cToken, cExpr, cEdge, cGraph, cStep, cWalk, cChange, cBatch, cHistory, cPositions, cAutomaton, cProductStep, cPathAtom, cConjunction, cView, cDelta, cRegistered, cRegistry] at hlen
 have hp1 := psub_len a.Added b.Removed
 have hp2 := psub_len b.Added a.Removed
 have hp3 := psub_len a.Removed b.Added
 have hp4 := psub_len b.Removed a.Added
 refine AW.sr ?_
 refine AWl.put (R_boxz U U U (.tm U) (ts := _) (by first | rfl | exact cells_t1 _ | exact cells_t2 _)) U ?_
 refine AWl.put (R_boxz U U U (.tm U) (ts := _) (by first | rfl | exact cells_t1 _ | exact cells_t2 _)) U ?_
 refine AWl.add (R_alloc 4 U U U in28 U U U) U ?_
 refine AWl.ac U U U U U ?_
 refine AWl.nil (AW.seq ?_)
 refine AW.sr ?_
 refine AWl.put ((by first | exact R_load U (.no U) U (.tm U) ty28 U U | exact R_load_pp U (.no U) U (.tm U) U ty28 U U | exact R_load_vw U (.no U) U (.tm U) ty28 U U | exact R_load_pr U (.no U) U (.tm U) U (by first | assumption | exact map_get (by assumption)) ty28 U U)) U ?_
 refine AWl.put (R_callz (FnT.fr (implIsDelta _)) U (.no U) U (.cons (.tm U) U .nil)) U ?_
 refine AWl.put (R_not U (.no U) U (.tm U)) U ?_
 refine AWl.mv U U U U U ?_
 refine AWl.put ((by first | exact R_load U (by first | exact .not1 U U U U | exact .not U U U U) U (.tmp U (by first | exact fun _ => rfl | exact id | simp)) ty28 U U | exact R_load_pp U (by first | exact .not1 U U U U | exact .not U U U U) U (.tmp U (by first | exact fun _ => rfl | exact id | simp)) U ty28 U U | exact R_load_vw U (by first | exact .not1 U U U U | exact .not U U U U) U (.tmp U (by first | exact fun _ => rfl | exact id | simp)) ty28 U U | exact R_load_pr U (by first | exact .not1 U U U U | exact .not U U U U) U (.tmp U (by first | exact fun _ => rfl | exact id | simp)) U (by first | assumption | exact map_get (by assumption)) ty28 U U)) U ?_
 refine AWl.put (R_callz (FnT.fr (implIsDelta _)) U (by first | exact .not1 U U U U | exact .not U U U U) U (.cons (.tmp U (by first | exact fun _ => rfl | exact id | simp)) U .nil)) U ?_
 refine AWl.put (R_not U (by first | exact .not1 U U U U | exact .not U U U U) U (.tmp U (by first | exact fun _ => rfl | exact id | simp))) U ?_
 refine AWl.put (R_or U (.no U) U (.tm U) (.tmp U (by first | exact fun _ => rfl | exact id | simp))) U ?_
 refine AWl.mv U U U U U ?_
 refine AWl.put ((by first | exact R_fieldAddr U (by first | exact .not1 U U U U | exact .not U U U U) U (.tmp U (by first | exact fun _ => rfl | exact id | simp)) fl28_0 | exact R_fieldAddr_pp U (by first | exact .not1 U U U U | exact .not U U U U) U (.tmp U (by first | exact fun _ => rfl | exact id | simp)) fl28_0 | exact R_fieldAddr_vw U (by first | exact .not1 U U U U | exact .not U U U U) U (.tmp U (by first | exact fun _ => rfl | exact id | simp)) fl28_0 | exact R_fieldAddr_pr U (by first | exact .not1 U U U U | exact .not U U U U) U (.tmp U (by first | exact fun _ => rfl | exact id | simp)) fl28_0)) U ?_
 refine AWl.put ((by first | exact R_load U (by first | exact .not1 U U U U | exact .not U U U U) U (.tmp U (by first | exact fun _ => rfl | exact id | simp)) ty24 U U | exact R_load_pp U (by first | exact .not1 U U U U | exact .not U U U U) U (.tmp U (by first | exact fun _ => rfl | exact id | simp)) U ty24 U U | exact R_load_vw U (by first | exact .not1 U U U U | exact .not U U U U) U (.tmp U (by first | exact fun _ => rfl | exact id | simp)) ty24 U U | exact R_load_pr U (by first | exact .not1 U U U U | exact .not U U U U) U (.tmp U (by first | exact fun _ => rfl | exact id | simp)) U (by first | assumption | exact map_get (by assumption)) ty24 U U)) U ?_
 refine AWl.put ((by first | exact R_fieldAddr U (by first | exact .not1 U U U U | exact .not U U U U) U (.tmp U (by first | exact fun _ => rfl | exact id | simp)) fl28_0 | exact R_fieldAddr_pp U (by first | exact .not1 U U U U | exact .not U U U U) U (.tmp U (by first | exact fun _ => rfl | exact id | simp)) fl28_0 | exact R_fieldAddr_vw U (by first | exact .not1 U U U U | exact .not U U U U) U (.tmp U (by first | exact fun _ => rfl | exact id | simp)) fl28_0 | exact R_fieldAddr_pr U (by first | exact .not1 U U U U | exact .not U U U U) U (.tmp U (by first | exact fun _ => rfl | exact id | simp)) fl28_0)) U ?_
 refine AWl.put ((by first | exact R_load U (by first | exact .not1 U U U U | exact .not U U U U) U (.tmp U (by first | exact fun _ => rfl | exact id | simp)) ty24 U U | exact R_load_pp U (by first | exact .not1 U U U U | exact .not U U U U) U (.tmp U (by first | exact fun _ => rfl | exact id | simp)) U ty24 U U | exact R_load_vw U (by first | exact .not1 U U U U | exact .not U U U U) U (.tmp U (by first | exact fun _ => rfl | exact id | simp)) ty24 U U | exact R_load_pr U (by first | exact .not1 U U U U | exact .not U U U U) U (.tmp U (by first | exact fun _ => rfl | exact id | simp)) U (by first | assumption | exact map_get (by assumption)) ty24 U U)) U ?_
 refine AWl.put (R_callz (FnT.fr (implcommonPair' _ _)) U (by first | exact .not1 U U U U | exact .not U U U U) U (.cons (.tmp U (by first | exact fun _ => rfl | exact id | simp)) U (.cons (.tmp U (by first | exact fun _ => rfl | exact id | simp)) U .nil))) U ?_
 refine AWl.put (R_or U (.no U) U (.tm U) (.tmp U (by first | exact fun _ => rfl | exact id | simp))) U ?_
 refine AWl.mv U U U U U ?_
 refine AWl.put ((by first | exact R_fieldAddr U (by first | exact .not1 U U U U | exact .not U U U U) U (.tmp U (by first | exact fun _ => rfl | exact id | simp)) fl28_1 | exact R_fieldAddr_pp U (by first | exact .not1 U U U U | exact .not U U U U) U (.tmp U (by first | exact fun _ => rfl | exact id | simp)) fl28_1 | exact R_fieldAddr_vw U (by first | exact .not1 U U U U | exact .not U U U U) U (.tmp U (by first | exact fun _ => rfl | exact id | simp)) fl28_1 | exact R_fieldAddr_pr U (by first | exact .not1 U U U U | exact .not U U U U) U (.tmp U (by first | exact fun _ => rfl | exact id | simp)) fl28_1)) U ?_
 refine AWl.put ((by first | exact R_load U (by first | exact .not1 U U U U | exact .not U U U U) U (.tmp U (by first | exact fun _ => rfl | exact id | simp)) ty24 U U | exact R_load_pp U (by first | exact .not1 U U U U | exact .not U U U U) U (.tmp U (by first | exact fun _ => rfl | exact id | simp)) U ty24 U U | exact R_load_vw U (by first | exact .not1 U U U U | exact .not U U U U) U (.tmp U (by first | exact fun _ => rfl | exact id | simp)) ty24 U U | exact R_load_pr U (by first | exact .not1 U U U U | exact .not U U U U) U (.tmp U (by first | exact fun _ => rfl | exact id | simp)) U (by first | assumption | exact map_get (by assumption)) ty24 U U)) U ?_
 refine AWl.put ((by first | exact R_fieldAddr U (by first | exact .not1 U U U U | exact .not U U U U) U (.tmp U (by first | exact fun _ => rfl | exact id | simp)) fl28_1 | exact R_fieldAddr_pp U (by first | exact .not1 U U U U | exact .not U U U U) U (.tmp U (by first | exact fun _ => rfl | exact id | simp)) fl28_1 | exact R_fieldAddr_vw U (by first | exact .not1 U U U U | exact .not U U U U) U (.tmp U (by first | exact fun _ => rfl | exact id | simp)) fl28_1 | exact R_fieldAddr_pr U (by first | exact .not1 U U U U | exact .not U U U U) U (.tmp U (by first | exact fun _ => rfl | exact id | simp)) fl28_1)) U ?_
 refine AWl.put ((by first | exact R_load U (by first | exact .not1 U U U U | exact .not U U U U) U (.tmp U (by first | exact fun _ => rfl | exact id | simp)) ty24 U U | exact R_load_pp U (by first | exact .not1 U U U U | exact .not U U U U) U (.tmp U (by first | exact fun _ => rfl | exact id | simp)) U ty24 U U | exact R_load_vw U (by first | exact .not1 U U U U | exact .not U U U U) U (.tmp U (by first | exact fun _ => rfl | exact id | simp)) ty24 U U | exact R_load_pr U (by first | exact .not1 U U U U | exact .not U U U U) U (.tmp U (by first | exact fun _ => rfl | exact id | simp)) U (by first | assumption | exact map_get (by assumption)) ty24 U U)) U ?_
 refine AWl.put (R_callz (FnT.fr (implcommonPair' _ _)) U (by first | exact .not1 U U U U | exact .not U U U U) U (.cons (.tmp U (by first | exact fun _ => rfl | exact id | simp)) U (.cons (.tmp U (by first | exact fun _ => rfl | exact id | simp)) U .nil))) U ?_
 refine AWl.put (R_or U (.no U) U (.tm U) (.tmp U (by first | exact fun _ => rfl | exact id | simp))) U ?_
 refine AWl.nil ?_
 refine AW.cond (.tm U) (fun h28 => ?_) (fun h28 => ?_)
 · skip
   try simp at h28
   refine AW.seq ?_
   refine AW.le (σ' := ⟨_, [(0, _), (1, _), (2, _), (3, _), (4, _), (5, _)], [(4, _)]⟩) (Le.sub0 U ⟨U, U, U, U, U, U, trivial⟩ ⟨U, trivial⟩) ?_
   refine AW.region ?_
   refine AWl.put (R_build (ps := []) U U U in28 U U st28 .nil U) U ?_
   refine AWl.nilA (i := 29) 20001 2 0 U U U ?_
   refine AWl.nilA (i := 29) 20002 2 1 U U U ?_
   refine AWl.chgb (R_store_pb U U U (.tm U) (.tm U) U ty28 U U U (by kernel_rfl) U) ?_
   refine AWl.le (σ' := ⟨_, [(0, _), (1, _), (2, _), (3, _), (4, _), (5, _)], [(4, _), (20001, _), (20002, _)]⟩) (Le.sub0 U ⟨U, U, U, U, U, U, trivial⟩ ⟨U, U, U, trivial⟩) ?_
   refine AWl.ac U U U U U ?_
   refine AWl.nil (AW.ret ?_)
   refine Res.many U (.cell U U ty28 U U (.tmp U .nil)) U ?_ (by simp)
   have e : composeOk a b = false := (by unfold composeOk; rw [commonP_comm b.Added, commonP_comm b.Removed]; grind); unfold composeD; rw [e]; rfl
 · skip
   try simp at h28
   refine AW.skip ?_
   refine AW.seq ?_
   refine AW.le (σ' := ⟨_, [(0, _), (1, _), (2, _), (3, _), (4, _), (5, _)], [(4, _)]⟩) (Le.sub0 U ⟨U, U, U, U, U, U, trivial⟩ ⟨U, trivial⟩) ?_
   refine AW.drawn 13 (nthB [[], [0], [], [2], [0, 1, 2, 3], [], [5], [], [7], [0, 1, 2, 3, 4, 5, 6, 7, 8], [0, 1, 2, 3, 4, 5, 6, 7, 8, 9], [0, 1, 2, 3, 4, 5, 6, 7, 8, 9, 10], []]) (by kernel_rfl) (by kernel_rfl) (by kernel_rfl) ?_
   refine DrawC.step U U U (Loc.of U fun σ' hs => (by first | exact R_fieldAddr U (.no U) (hd_sup hs U) (.tm (hs.slots _ _ U)) fl28_0 | exact R_fieldAddr_pp U (.no U) (hd_sup hs U) (.tm (hs.slots _ _ U)) fl28_0 | exact R_fieldAddr_vw U (.no U) (hd_sup hs U) (.tm (hs.slots _ _ U)) fl28_0 | exact R_fieldAddr_pr U (.no U) (hd_sup hs U) (.tm (hs.slots _ _ U)) fl28_0)) ?_
   refine DrawC.step U U U (Loc.of U fun σ' hs => (by first | exact R_load U (.no U) (hd_sup hs U) (.tm (hs.slots _ _ U)) ty24 U U | exact R_load_pp U (.no U) (hd_sup hs U) (.tm (hs.slots _ _ U)) (hs.res _ _ U) ty24 U U | exact R_load_vw U (.no U) (hd_sup hs U) (.tm (hs.slots _ _ U)) ty24 U U | exact R_load_pr U (.no U) (hd_sup hs U) (.tm (hs.slots _ _ U)) (hs.res _ _ U) (by first | assumption | exact map_get (by assumption)) ty24 U U)) ?_
   refine DrawC.step U U U (Loc.of U fun σ' hs => (by first | exact R_fieldAddr U (.no U) (hd_sup hs U) (.tm (hs.slots _ _ U)) fl28_1 | exact R_fieldAddr_pp U (.no U) (hd_sup hs U) (.tm (hs.slots _ _ U)) fl28_1 | exact R_fieldAddr_vw U (.no U) (hd_sup hs U) (.tm (hs.slots _ _ U)) fl28_1 | exact R_fieldAddr_pr U (.no U) (hd_sup hs U) (.tm (hs.slots _ _ U)) fl28_1)) ?_
   refine DrawC.step U U U (Loc.of U fun σ' hs => (by first | exact R_load U (.no U) (hd_sup hs U) (.tm (hs.slots _ _ U)) ty24 U U | exact R_load_pp U (.no U) (hd_sup hs U) (.tm (hs.slots _ _ U)) (hs.res _ _ U) ty24 U U | exact R_load_vw U (.no U) (hd_sup hs U) (.tm (hs.slots _ _ U)) ty24 U U | exact R_load_pr U (.no U) (hd_sup hs U) (.tm (hs.slots _ _ U)) (hs.res _ _ U) (by first | assumption | exact map_get (by assumption)) ty24 U U)) ?_
   refine DrawC.step U U U (Loc.of U fun σ' hs => R_callz (FnT.fr (implSubtractPairs _ _ (by omega))) U (.no U) (hd_sup hs U) (.cons (.tm (hs.slots _ _ U)) (readA_sup hs U) (.cons (.tm (hs.slots _ _ U)) (readA_sup hs U) .nil))) ?_
   refine DrawC.step U U U (Loc.of U fun σ' hs => (by first | exact R_fieldAddr U (.no U) (hd_sup hs U) (.tm (hs.slots _ _ U)) fl28_0 | exact R_fieldAddr_pp U (.no U) (hd_sup hs U) (.tm (hs.slots _ _ U)) fl28_0 | exact R_fieldAddr_vw U (.no U) (hd_sup hs U) (.tm (hs.slots _ _ U)) fl28_0 | exact R_fieldAddr_pr U (.no U) (hd_sup hs U) (.tm (hs.slots _ _ U)) fl28_0)) ?_
   refine DrawC.step U U U (Loc.of U fun σ' hs => (by first | exact R_load U (.no U) (hd_sup hs U) (.tm (hs.slots _ _ U)) ty24 U U | exact R_load_pp U (.no U) (hd_sup hs U) (.tm (hs.slots _ _ U)) (hs.res _ _ U) ty24 U U | exact R_load_vw U (.no U) (hd_sup hs U) (.tm (hs.slots _ _ U)) ty24 U U | exact R_load_pr U (.no U) (hd_sup hs U) (.tm (hs.slots _ _ U)) (hs.res _ _ U) (by first | assumption | exact map_get (by assumption)) ty24 U U)) ?_
   refine DrawC.step U U U (Loc.of U fun σ' hs => (by first | exact R_fieldAddr U (.no U) (hd_sup hs U) (.tm (hs.slots _ _ U)) fl28_1 | exact R_fieldAddr_pp U (.no U) (hd_sup hs U) (.tm (hs.slots _ _ U)) fl28_1 | exact R_fieldAddr_vw U (.no U) (hd_sup hs U) (.tm (hs.slots _ _ U)) fl28_1 | exact R_fieldAddr_pr U (.no U) (hd_sup hs U) (.tm (hs.slots _ _ U)) fl28_1)) ?_
   refine DrawC.step U U U (Loc.of U fun σ' hs => (by first | exact R_load U (.no U) (hd_sup hs U) (.tm (hs.slots _ _ U)) ty24 U U | exact R_load_pp U (.no U) (hd_sup hs U) (.tm (hs.slots _ _ U)) (hs.res _ _ U) ty24 U U | exact R_load_vw U (.no U) (hd_sup hs U) (.tm (hs.slots _ _ U)) ty24 U U | exact R_load_pr U (.no U) (hd_sup hs U) (.tm (hs.slots _ _ U)) (hs.res _ _ U) (by first | assumption | exact map_get (by assumption)) ty24 U U)) ?_
   refine DrawC.step U U U (Loc.of U fun σ' hs => R_callz (FnT.fr (implSubtractPairs _ _ (by omega))) U (.no U) (hd_sup hs U) (.cons (.tm (hs.slots _ _ U)) (readA_sup hs U) (.cons (.tm (hs.slots _ _ U)) (readA_sup hs U) .nil))) ?_
   refine DrawC.step U U U (Loc.ofs U fun σ' hs hf => R_call 4000 (implMergePairs (psub a.Added b.Removed) (psub b.Added a.Removed) (by omega)) U U (hd_sup hs U) (.cons (.tm (hs.slots _ _ U)) (readA_sup hs U) (.cons (.tm (hs.slots _ _ U)) (readA_sup hs U) .nil)) U (all_fresh hf)) ?_
   refine DrawC.step U U U (Loc.of U fun σ' hs => R_build (ps := [(0, .tmp 40)]) U U (hd_sup hs U) in28 U U st28 (.cons (.tm (hs.slots _ _ U)) U U fp28_0 .nil) U) ?_
   refine DrawC.step U U U (Loc.of1 U fun σ' hs hf => R_alloc 6 U U (hd_sup hs U) in28 U U hf) ?_
   refine DrawC.fin U U ?_
   refine AWl.nilA (i := 41) 20003 2 1 U U U ?_
   refine AWl.chgb (R_store_pb U U U (.tm U) (.tm U) U ty28 U U U (by kernel_rfl) U) ?_
   refine AWl.nil (AW.seq ?_)
   refine AW.le (σ' := ⟨_, [(0, _), (1, _), (2, _), (3, _), (4, _), (5, _), (6, _)], [(4, _), (4000, _), (6, _), (20003, _)]⟩) (Le.sub0 U ⟨U, U, U, U, U, U, U, trivial⟩ ⟨U, U, U, U, trivial⟩) ?_
   refine AW.drawn 12 (nthB [[], [0], [], [2], [0, 1, 2, 3], [], [5], [], [7], [0, 1, 2, 3, 4, 5, 6, 7, 8], [0, 1, 2, 3, 4, 5, 6, 7, 8, 9], [0, 1, 2, 3, 4, 5, 6, 7, 8, 9, 10]]) (by kernel_rfl) (by kernel_rfl) (by kernel_rfl) ?_
   refine DrawC.step U U U (Loc.of U fun σ' hs => (by first | exact R_fieldAddr U (.no U) (hd_sup hs U) (.tm (hs.slots _ _ U)) fl28_1 | exact R_fieldAddr_pp U (.no U) (hd_sup hs U) (.tm (hs.slots _ _ U)) fl28_1 | exact R_fieldAddr_vw U (.no U) (hd_sup hs U) (.tm (hs.slots _ _ U)) fl28_1 | exact R_fieldAddr_pr U (.no U) (hd_sup hs U) (.tm (hs.slots _ _ U)) fl28_1)) ?_
   refine DrawC.step U U U (Loc.of U fun σ' hs => (by first | exact R_load U (.no U) (hd_sup hs U) (.tm (hs.slots _ _ U)) ty24 U U | exact R_load_pp U (.no U) (hd_sup hs U) (.tm (hs.slots _ _ U)) (hs.res _ _ U) ty24 U U | exact R_load_vw U (.no U) (hd_sup hs U) (.tm (hs.slots _ _ U)) ty24 U U | exact R_load_pr U (.no U) (hd_sup hs U) (.tm (hs.slots _ _ U)) (hs.res _ _ U) (by first | assumption | exact map_get (by assumption)) ty24 U U)) ?_
   refine DrawC.step U U U (Loc.of U fun σ' hs => (by first | exact R_fieldAddr U (.no U) (hd_sup hs U) (.tm (hs.slots _ _ U)) fl28_0 | exact R_fieldAddr_pp U (.no U) (hd_sup hs U) (.tm (hs.slots _ _ U)) fl28_0 | exact R_fieldAddr_vw U (.no U) (hd_sup hs U) (.tm (hs.slots _ _ U)) fl28_0 | exact R_fieldAddr_pr U (.no U) (hd_sup hs U) (.tm (hs.slots _ _ U)) fl28_0)) ?_
   refine DrawC.step U U U (Loc.of U fun σ' hs => (by first | exact R_load U (.no U) (hd_sup hs U) (.tm (hs.slots _ _ U)) ty24 U U | exact R_load_pp U (.no U) (hd_sup hs U) (.tm (hs.slots _ _ U)) (hs.res _ _ U) ty24 U U | exact R_load_vw U (.no U) (hd_sup hs U) (.tm (hs.slots _ _ U)) ty24 U U | exact R_load_pr U (.no U) (hd_sup hs U) (.tm (hs.slots _ _ U)) (hs.res _ _ U) (by first | assumption | exact map_get (by assumption)) ty24 U U)) ?_
   refine DrawC.step U U U (Loc.of U fun σ' hs => R_callz (FnT.fr (implSubtractPairs _ _ (by omega))) U (.no U) (hd_sup hs U) (.cons (.tm (hs.slots _ _ U)) (readA_sup hs U) (.cons (.tm (hs.slots _ _ U)) (readA_sup hs U) .nil))) ?_
   refine DrawC.step U U U (Loc.of U fun σ' hs => (by first | exact R_fieldAddr U (.no U) (hd_sup hs U) (.tm (hs.slots _ _ U)) fl28_1 | exact R_fieldAddr_pp U (.no U) (hd_sup hs U) (.tm (hs.slots _ _ U)) fl28_1 | exact R_fieldAddr_vw U (.no U) (hd_sup hs U) (.tm (hs.slots _ _ U)) fl28_1 | exact R_fieldAddr_pr U (.no U) (hd_sup hs U) (.tm (hs.slots _ _ U)) fl28_1)) ?_
   refine DrawC.step U U U (Loc.of U fun σ' hs => (by first | exact R_load U (.no U) (hd_sup hs U) (.tm (hs.slots _ _ U)) ty24 U U | exact R_load_pp U (.no U) (hd_sup hs U) (.tm (hs.slots _ _ U)) (hs.res _ _ U) ty24 U U | exact R_load_vw U (.no U) (hd_sup hs U) (.tm (hs.slots _ _ U)) ty24 U U | exact R_load_pr U (.no U) (hd_sup hs U) (.tm (hs.slots _ _ U)) (hs.res _ _ U) (by first | assumption | exact map_get (by assumption)) ty24 U U)) ?_
   refine DrawC.step U U U (Loc.of U fun σ' hs => (by first | exact R_fieldAddr U (.no U) (hd_sup hs U) (.tm (hs.slots _ _ U)) fl28_0 | exact R_fieldAddr_pp U (.no U) (hd_sup hs U) (.tm (hs.slots _ _ U)) fl28_0 | exact R_fieldAddr_vw U (.no U) (hd_sup hs U) (.tm (hs.slots _ _ U)) fl28_0 | exact R_fieldAddr_pr U (.no U) (hd_sup hs U) (.tm (hs.slots _ _ U)) fl28_0)) ?_
   refine DrawC.step U U U (Loc.of U fun σ' hs => (by first | exact R_load U (.no U) (hd_sup hs U) (.tm (hs.slots _ _ U)) ty24 U U | exact R_load_pp U (.no U) (hd_sup hs U) (.tm (hs.slots _ _ U)) (hs.res _ _ U) ty24 U U | exact R_load_vw U (.no U) (hd_sup hs U) (.tm (hs.slots _ _ U)) ty24 U U | exact R_load_pr U (.no U) (hd_sup hs U) (.tm (hs.slots _ _ U)) (hs.res _ _ U) (by first | assumption | exact map_get (by assumption)) ty24 U U)) ?_
   refine DrawC.step U U U (Loc.of U fun σ' hs => R_callz (FnT.fr (implSubtractPairs _ _ (by omega))) U (.no U) (hd_sup hs U) (.cons (.tm (hs.slots _ _ U)) (readA_sup hs U) (.cons (.tm (hs.slots _ _ U)) (readA_sup hs U) .nil))) ?_
   refine DrawC.step U U U (Loc.ofs U fun σ' hs hf => R_call 5200 (implMergePairs (psub a.Removed b.Added) (psub b.Removed a.Added) (by omega)) U U (hd_sup hs U) (.cons (.tm (hs.slots _ _ U)) (readA_sup hs U) (.cons (.tm (hs.slots _ _ U)) (readA_sup hs U) .nil)) U (all_fresh hf)) ?_
   refine DrawC.step U U U (Loc.of U fun σ' hs => (by first | exact R_fieldAddr U (.no U) (hd_sup hs U) (.tm (hs.slots _ _ U)) fl28_1 | exact R_fieldAddr_pp U (.no U) (hd_sup hs U) (.tm (hs.slots _ _ U)) fl28_1 | exact R_fieldAddr_vw U (.no U) (hd_sup hs U) (.tm (hs.slots _ _ U)) fl28_1 | exact R_fieldAddr_pr U (.no U) (hd_sup hs U) (.tm (hs.slots _ _ U)) fl28_1)) ?_
   refine DrawC.fin U U ?_
   refine AWl.chgb (R_store_pb U U U (.tm U) (.tm U) U ty24 U U U (by kernel_rfl) U) ?_
   refine AWl.nil (AW.seq ?_)
   refine AW.le (σ' := ⟨_, [(0, _), (1, _), (2, _), (3, _), (4, _), (5, _), (6, _)], [(4, _), (4000, _), (6, _), (20003, _), (5200, _)]⟩) (Le.sub0 U ⟨U, U, U, U, U, U, U, trivial⟩ ⟨U, U, U, U, U, trivial⟩) ?_
   refine AW.region ?_
   refine AWl.put ((by first | exact R_load U (.no U) U (.tm U) ty28 U U | exact R_load_pp U (.no U) U (.tm U) U ty28 U U | exact R_load_vw U (.no U) U (.tm U) ty28 U U | exact R_load_pr U (.no U) U (.tm U) U (by first | assumption | exact map_get (by assumption)) ty28 U U)) U ?_
   refine AWl.chgb (R_store_pb U U U (.tm U) (.tm U) U ty28 U U U (by kernel_rfl) U) ?_
   refine AWl.le (σ' := ⟨_, [(0, _), (1, _), (2, _), (3, _), (4, _), (5, _), (6, _)], [(4, _), (4000, _), (6, _), (20003, _), (5200, _)]⟩) (Le.sub0 U ⟨U, U, U, U, U, U, U, trivial⟩ ⟨U, U, U, U, U, trivial⟩) ?_
   refine AWl.ac U U U U U ?_
   refine AWl.nil (AW.ret ?_)
   refine Res.many U (.cell U U ty28 U U (.tmp U .nil)) U ?_ (by simp)
   have e : composeOk a b = true := (by unfold composeOk; rw [commonP_comm b.Added, commonP_comm b.Removed]; grind); unfold composeD; rw [e]; rfl
end Go.Proofs.YtbkhopfpejhnlaaGreatDoor
