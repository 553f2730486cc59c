import Derived.Test.YtbkhopfpejhnlaaGreatB16rc
import Derived.Test.YtbkhopfpejhnlaaGreatB34rc
import Derived.Test.YtbkhopfpejhnlaaGreatSortrc
set_option linter.unusedVariables false
set_option linter.unusedSimpArgs false
set_option maxHeartbeats 1000000
set_option maxRecDepth 100000
namespace Go.Q
open Go.D
theorem apAt_eq {l : List TPair} {k : Nat} {x : TPair} (h : l[k]? = some x) : apAt l k = (okP x && !(decide (0 < k) && !(pless (l[k - 1]?.getD default) x))) := by
 unfold apAt; rw [h]
theorem arePairs_all {l : List TPair} {k : Nat} (h : ∀ j, j < k → apAt l j = true) (hk : l.length ≤ k) : arePairs l = true := by
 unfold arePairs
 rw [List.all_eq_true]
 exact fun j hj => h j (by have := List.mem_range.1 hj; omega)
theorem arePairs_not {l : List TPair} {k : Nat} (h : apAt l k = false) (hk : k < l.length) : arePairs l = false := by
 unfold arePairs
 rw [List.all_eq_false]
 exact ⟨k, List.mem_range.2 hk, by rw [h]; simp⟩
end Go.Q
namespace Go.Proofs.YtbkhopfpejhnlaaGreat
open Go.RowKit Go.Q Go.D
theorem implcompareInts (x y : Int) : FnT Tryz.prog 144 [.one (.v (.int .i64 x)), .one (.v (.int .i64 y))] (.a (.one (.v (.int .i64 (cmpI x y))))) := by
 refine FnT.walk Tryz.func144 U (by kernel_rfl) Tryz.ntmps144 U fun hlen w0 => ?_
 try simp [cPair, cToken, cExpr, cEdge, cGraph] at hlen
 refine AW.sr ?_
 refine AWl.ac ?_
 refine AWl.nil (AW.seq ?_)
 refine AW.block ?_
 refine AW.sr ?_
 refine AWl.mv ?_
 refine AWl.mv ?_
 refine AWl.p (R_lt U (.no U) U (.tm U) (.tm U)) U ?_
 refine AWl.av ?_
 refine AWl.nil ?_
 refine AW.cond (.tm U) (fun h5 => ?_) (fun h5 => ?_)
 · skip
   try simp at h5
   refine AW.sr ?_
   refine AWl.ac ?_
   refine AWl.nil (AW.ret ?_)
   refine Res.v U U ?_
   unfold cmpI; rw [if_pos h5]
 · skip
   try simp at h5
   refine AW.sr ?_
   refine AWl.mv ?_
   refine AWl.mv ?_
   refine AWl.p (R_gt U (.no U) U (.tm U) (.tm U)) U ?_
   refine AWl.av ?_
   refine AWl.nil ?_
   refine AW.cond (.tm U) (fun h9 => ?_) (fun h9 => ?_)
   · skip
     try simp at h9
     refine AW.seq ?_
     refine AW.le (σ' := ⟨_, [(0, _), (1, _), (4, _)], []⟩) (Le.sub0 U ⟨U, U, U, Y⟩ trivial) ?_
     refine AW.region ?_
     refine AWl.ac ?_
     refine AWl.nil (AW.ret ?_)
     refine Res.v U U ?_
     unfold cmpI; rw [if_neg (by omega), if_pos h9]
   · skip
     try simp at h9
     refine AW.skip ?_
     refine AW.seq ?_
     refine AW.le (σ' := ⟨_, [(0, _), (1, _), (4, _)], []⟩) (Le.sub0 U ⟨U, U, U, Y⟩ trivial) ?_
     refine AW.region ?_
     refine AWl.ac ?_
     refine AWl.nil (AW.ret ?_)
     refine Res.v U U ?_
     unfold cmpI; rw [if_neg (by omega), if_neg (by omega)]
theorem implcomparePairs (x y : TPair) : FnT Tryz.prog 138 [.agg (cPair x), .agg (cPair y)] (.a (.one (.v (.int .i64 (cmpP x y))))) := by
 refine FnT.walk Tryz.func138 U (by kernel_rfl) Tryz.ntmps138 U fun hlen w0 => ?_
 try simp [cPair, cToken, cExpr, cEdge, cGraph] at hlen
 refine AW.sr ?_
 refine AWl.p (R_boxz U U U (.tm U) (ts := _) (by rfl)) U ?_
 refine AWl.p (R_boxz U U U (.tm U) (ts := _) (by rfl)) U ?_
 refine AWl.ac ?_
 refine AWl.nil (AW.seq ?_)
 refine AW.sr ?_
 refine AWl.p (by exact R_fieldAddr U (.no U) U (.tm U) fl63_0) U ?_
 refine AWl.p (by exact R_load U (.no U) U (.tm U) ty3 U U) U ?_
 refine AWl.p (by exact R_fieldAddr U (.no U) U (.tm U) fl63_0) U ?_
 refine AWl.p (by exact R_load U (.no U) U (.tm U) ty3 U U) U ?_
 refine AWl.p (R_ne U (.no U) U (.tm U) (.tm U)) U ?_
 refine AWl.nil ?_
 refine AW.cond (.tm U) (fun h9 => ?_) (fun h9 => ?_)
 · skip
   try simp at h9
   refine AW.sr ?_
   refine AWl.p (by exact R_fieldAddr U (.no U) U (.tm U) fl63_0) U ?_
   refine AWl.p (by exact R_load U (.no U) U (.tm U) ty3 U U) U ?_
   refine AWl.p (by exact R_fieldAddr U (.no U) U (.tm U) fl63_0) U ?_
   refine AWl.p (by exact R_load U (.no U) U (.tm U) ty3 U U) U ?_
   refine AWl.p (R_callz (FnT.fr (implcompareInts _ _)) U (.no U) U (.cons (.tm U) U (.cons (.tm U) U .nil))) U ?_
   refine AWl.av ?_
   refine AWl.nil (AW.ret ?_)
   refine Res.v U U ?_
   unfold cmpP; rw [if_pos h9]
 · skip
   try simp at h9
   refine AW.skip ?_
   refine AW.sr ?_
   refine AWl.p (by exact R_fieldAddr U (.no U) U (.tm U) fl63_1) U ?_
   refine AWl.p (by exact R_load U (.no U) U (.tm U) ty3 U U) U ?_
   refine AWl.p (by exact R_fieldAddr U (.no U) U (.tm U) fl63_1) U ?_
   refine AWl.p (by exact R_load U (.no U) U (.tm U) ty3 U U) U ?_
   refine AWl.p (R_callz (FnT.fr (implcompareInts _ _)) U (.no U) U (.cons (.tm U) U (.cons (.tm U) U .nil))) U ?_
   refine AWl.av ?_
   refine AWl.nil (AW.ret ?_)
   refine Res.v U U ?_
   unfold cmpP; rw [if_neg (by simp [h9])]
theorem specArePairs (l : List TPair) : FnT Tryz.prog 116 [.one (.sl 2 (l.map cPair))] (.a (.one (.v (.bool (arePairs l))))) := by
 refine FnT.walk Tryz.func116 U (by kernel_rfl) Tryz.ntmps116 U fun hlen w0 => ?_
 try simp [cPair, cToken, cExpr, cEdge, cGraph] at hlen
 refine AW.sr ?_
 refine AWl.ac ?_
 refine AWl.nil (AW.seq ?_)
 refine AW.sr ?_
 refine AWl.ac ?_
 refine AWl.nil (AW.block ?_)
 refine AW.loop1 (fun (k : Nat) => (k ≤ l.length ∧ ∀ j, j < k → apAt l j = true) ∧ True) (fun (k : Nat) => ⟨_, [(3, (true, .a (.one (.t (.v (.int .i64 (k : Nat))))))), (0, _)], []⟩) (fun (k : Nat) => l.length - k) (0) ⟨⟨Nat.zero_le _, fun j hj => absurd hj (Nat.not_lt_zero j)⟩, Y⟩ (Le.sub0 U ⟨U, U, Y⟩ trivial) ?_
 rintro k ⟨hk, he⟩
 refine AW.seq ?_
 refine AW.sr ?_
 refine AWl.mv ?_
 refine AWl.mv ?_
 refine AWl.p (by exact R_lenm U (.no U) U (.tm U) (by exact .t) Tryz.underlying58) U ?_
 refine AWl.p (R_lt U (.no U) U (.tm U) (.tm U)) U ?_
 refine AWl.nil ?_
 refine AW.cond (.tm U) (fun h7 => ?_) (fun h7 => ?_)
 · skip
   try simp at h7
   obtain ⟨x, hx⟩ : ∃ ξ, l[k]? = some ξ := ⟨_, List.getElem?_eq_getElem (by omega)⟩
   refine AW.skip ?_
   refine AW.seq ?_
   refine AW.block ?_
   refine AW.seq ?_
   refine AW.drawn 33 (nthB [[], [], [0, 1], [0, 1, 2], [0, 1, 2, 3], [0, 1, 2, 3, 4], [0, 1, 2, 3, 4, 5], [0, 1, 2, 3, 4, 5, 6], [0, 1, 2, 3, 4, 5, 6, 7], [0, 1, 2, 3, 4, 5, 6, 7], [0, 1, 2, 3, 4, 5, 6, 7, 8, 9], [0, 1, 2, 3, 4, 5, 6, 7, 8, 9, 10], [0, 1, 2, 3, 4, 5, 6, 7, 8, 9, 10, 11], [0, 1, 2, 3, 4, 5, 6, 7, 8, 9, 10, 11, 12], [0, 1, 2, 3, 4, 5, 6, 7, 8, 9, 10, 11, 12, 13], [0, 1, 2, 3, 4, 5, 6, 7, 8, 9, 10, 11, 12, 13, 14], [0, 1, 2, 3, 4, 5, 6, 7, 8, 9, 10, 11, 12, 13, 14, 15], [0, 1, 2, 3, 4, 5, 6, 7, 8, 9, 10, 11, 12, 13, 14, 15, 16], [0, 1, 2, 3, 4, 5, 6, 7, 8, 9, 10, 11, 12, 13, 14, 15, 16, 17], [0, 1, 2, 3, 4, 5, 6, 7, 8, 9, 10, 11, 12, 13, 14, 15, 16, 17, 18], [0, 1, 2, 3, 4, 5, 6, 7, 8, 9, 10, 11, 12, 13, 14, 15, 16, 17, 18, 19], [0, 1, 2, 3, 4, 5, 6, 7, 8, 9, 10, 11, 12, 13, 14, 15, 16, 17, 18, 19], [0, 1, 2, 3, 4, 5, 6, 7, 8, 9, 10, 11, 12, 13, 14, 15, 16, 17, 18, 19, 21], [0, 1, 2, 3, 4, 5, 6, 7, 8, 9, 10, 11, 12, 13, 14, 15, 16, 17, 18, 19, 20, 21, 22], [0, 1, 2, 3, 4, 5, 6, 7, 8, 9, 10, 11, 12, 13, 14, 15, 16, 17, 18, 19, 20, 21, 22, 23], [0, 1, 2, 3, 4, 5, 6, 7, 8, 9, 10, 11, 12, 13, 14, 15, 16, 17, 18, 19], [0, 1, 2, 3, 4, 5, 6, 7, 8, 9, 10, 11, 12, 13, 14, 15, 16, 17, 18, 19], [0, 1, 2, 3, 4, 5, 6, 7, 8, 9, 10, 11, 12, 13, 14, 15, 16, 17, 18, 19, 25, 26], [0, 1, 2, 3, 4, 5, 6, 7, 8, 9, 10, 11, 12, 13, 14, 15, 16, 17, 18, 19, 25, 26, 27], [0, 1, 2, 3, 4, 5, 6, 7, 8, 9, 10, 11, 12, 13, 14, 15, 16, 17, 18, 19, 20, 21, 22, 23, 24, 25, 26, 27, 28], [0, 1, 2, 3, 4, 5, 6, 7, 8, 9, 10, 11, 12, 13, 14, 15, 16, 17, 18, 19, 20, 21, 22, 23, 24, 25, 26, 27, 28, 29], [0, 1, 2, 3, 4, 5, 6, 7, 8, 9, 10, 11, 12, 13, 14, 15, 16, 17, 18, 19, 20, 21, 22, 23, 24, 25, 26, 27, 28, 29, 30], [0, 1, 2, 3, 4, 5, 6, 7, 8, 9, 10, 11, 12, 13, 14, 15, 16, 17, 18, 19, 20, 21, 22, 23, 24, 25, 26, 27, 28, 29, 30, 31]]) (by kernel_rfl) (by kernel_rfl) (by kernel_rfl) ?_
   refine DrawC.step U U U (Loc.of U fun σ' hs => R_move U (.no U) (hd_sup hs U) (.tm (hs.slots _ _ U))) ?_
   refine DrawC.step U U U (Loc.of U fun σ' hs => R_move U (.no U) (hd_sup hs U) (.tm (hs.slots _ _ U))) ?_
   refine DrawC.step U U U (Loc.of U fun σ' hs => (by exact R_indexAddr U (.no U) (hd_sup hs U) (.tm (hs.slots _ _ U)) (.tm (hs.slots _ _ U)) Tryz.underlying58 ty63 (fun _ => ⟨by omega, (map_get hx)⟩))) ?_
   refine DrawC.step U U U (Loc.of U fun σ' hs => (by exact R_fieldAddr U (.no U) (hd_sup hs U) (.tm (hs.slots _ _ U)) fl63_0)) ?_
   refine DrawC.step U U U (Loc.of U fun σ' hs => (by exact R_load U (.no U) (hd_sup hs U) (.tm (hs.slots _ _ U)) ty3 U U)) ?_
   refine DrawC.step U U U (Loc.of U fun σ' hs => R_callz (FnT.fr (specl1In _ _ _)) U (.no U) (hd_sup hs U) (.cons (.tm (hs.slots _ _ U)) (readA_sup hs U) (.cons (.const U) (readA_sup hs U) (.cons (.const U) (readA_sup hs U) .nil)))) ?_
   refine DrawC.step U U U (Loc.of U fun σ' hs => R_not U (.no U) (hd_sup hs U) (.tm (hs.slots _ _ U))) ?_
   refine DrawC.step U U U (Loc.of U fun σ' hs => R_move U (.no U) (hd_sup hs U) (.tm (hs.slots _ _ U))) ?_
   refine DrawC.step U U U (Loc.of U fun σ' hs => R_move U (by exact .not1 U U (hs.slots _ _ U) (by rw [hs.n]; rfl)) (hd_sup hs U) (.tmp (hs.slots _ _ U) (by exact fun _ => rfl))) ?_
   refine DrawC.step U U U (Loc.of U fun σ' hs => R_move U (by exact .not1 U U (hs.slots _ _ U) (by rw [hs.n]; rfl)) (hd_sup hs U) (.tmp (hs.slots _ _ U) (by exact fun _ => rfl))) ?_
   refine DrawC.step U U U (Loc.of U fun σ' hs => (by exact R_indexAddr U (by exact .not1 U U (hs.slots _ _ U) (by rw [hs.n]; rfl)) (hd_sup hs U) (.tmp (hs.slots _ _ U) (by exact id)) (.tmp (hs.slots _ _ U) (by exact id)) Tryz.underlying58 ty63 (fun hq => by (try simp at hq); exact ⟨by omega, (map_get hx)⟩))) ?_
   refine DrawC.step U U U (Loc.of U fun σ' hs => (by exact R_fieldAddr U (by exact .not1 U U (hs.slots _ _ U) (by rw [hs.n]; rfl)) (hd_sup hs U) (.tmp (hs.slots _ _ U) (by exact id)) fl63_1)) ?_
   refine DrawC.step U U U (Loc.of U fun σ' hs => (by exact R_load U (by exact .not1 U U (hs.slots _ _ U) (by rw [hs.n]; rfl)) (hd_sup hs U) (.tmp (hs.slots _ _ U) (by exact id)) ty3 U U)) ?_
   refine DrawC.step U U U (Loc.of U fun σ' hs => R_callz (FnT.fr (specl1In _ _ _)) U (by exact .not1 U U (hs.slots _ _ U) (by rw [hs.n]; rfl)) (hd_sup hs U) (.cons (.tmp (hs.slots _ _ U) (by exact id)) (readA_sup hs U) (.cons (.const U) (readA_sup hs U) (.cons (.const U) (readA_sup hs U) .nil)))) ?_
   refine DrawC.step U U U (Loc.of U fun σ' hs => R_not U (by exact .not1 U U (hs.slots _ _ U) (by rw [hs.n]; rfl)) (hd_sup hs U) (.tmp (hs.slots _ _ U) (by exact id))) ?_
   refine DrawC.step U U U (Loc.of U fun σ' hs => R_or U (.no U) (hd_sup hs U) (.tm (hs.slots _ _ U)) (.tmp (hs.slots _ _ U) (by exact id))) ?_
   refine DrawC.step U U U (Loc.of U fun σ' hs => R_move U (.no U) (hd_sup hs U) (.tm (hs.slots _ _ U))) ?_
   refine DrawC.step U U U (Loc.of U fun σ' hs => R_move U (by exact .not1 U U (hs.slots _ _ U) (by rw [hs.n]; rfl)) (hd_sup hs U) (.tmp (hs.slots _ _ U) (by exact fun _ => rfl))) ?_
   refine DrawC.step U U U (Loc.of U fun σ' hs => R_gt U (by exact .not1 U U (hs.slots _ _ U) (by rw [hs.n]; rfl)) (hd_sup hs U) (.tmp (hs.slots _ _ U) (by exact id)) (.const U)) ?_
   refine DrawC.step U U U (Loc.of U fun σ' hs => R_move U (by exact .not1 U U (hs.slots _ _ U) (by rw [hs.n]; rfl)) (hd_sup hs U) (.tmp (hs.slots _ _ U) (by exact id))) ?_
   refine DrawC.step U U U (Loc.of U fun σ' hs => R_move U (by exact .yes U U (hs.slots _ _ U) (by rw [hs.n]; rfl)) (hd_sup hs U) (.tmp (hs.slots _ _ U) (by exact fun _ => rfl))) ?_
   refine DrawC.step U U U (Loc.of U fun σ' hs => R_move U (by exact .yes U U (hs.slots _ _ U) (by rw [hs.n]; rfl)) (hd_sup hs U) (.tmp (hs.slots _ _ U) (by exact fun _ => rfl))) ?_
   refine DrawC.step U U U (Loc.of U fun σ' hs => R_sub U (by exact .yes U U (hs.slots _ _ U) (by rw [hs.n]; rfl)) (hd_sup hs U) (.tmp (hs.slots _ _ U) (by exact id)) (.const U) (fun hq => by first | omega | (simp at hq; omega))) ?_
   refine DrawC.step U U U (Loc.of U fun σ' hs => (by exact R_indexAddr U (by exact .yes U U (hs.slots _ _ U) (by rw [hs.n]; rfl)) (hd_sup hs U) (.tmp (hs.slots _ _ U) (by exact id)) (.tmp (hs.slots _ _ U) (by exact id)) Tryz.underlying58 ty63 (fun hq => by simp at hq; exact ⟨by omega, map_get (l := l) (x := l[((k : Int) - 1).toNat]?.getD default) (getD_at (by omega))⟩))) ?_
   refine DrawC.step U U U (Loc.of U fun σ' hs => (by exact R_load U (by exact .yes U U (hs.slots _ _ U) (by rw [hs.n]; rfl)) (hd_sup hs U) (.tmp (hs.slots _ _ U) (by exact id)) ty63 U U)) ?_
   refine DrawC.step U U U (Loc.of U fun σ' hs => R_move U (by exact .yes U U (hs.slots _ _ U) (by rw [hs.n]; rfl)) (hd_sup hs U) (.tmp (hs.slots _ _ U) (by exact fun _ => rfl))) ?_
   refine DrawC.step U U U (Loc.of U fun σ' hs => R_move U (by exact .yes U U (hs.slots _ _ U) (by rw [hs.n]; rfl)) (hd_sup hs U) (.tmp (hs.slots _ _ U) (by exact fun _ => rfl))) ?_
   refine DrawC.step U U U (Loc.of U fun σ' hs => (by exact R_indexAddr U (by exact .yes U U (hs.slots _ _ U) (by rw [hs.n]; rfl)) (hd_sup hs U) (.tmp (hs.slots _ _ U) (by exact id)) (.tmp (hs.slots _ _ U) (by exact id)) Tryz.underlying58 ty63 (fun hq => by (try simp at hq); exact ⟨by omega, (map_get hx)⟩))) ?_
   refine DrawC.step U U U (Loc.of U fun σ' hs => (by exact R_load U (by exact .yes U U (hs.slots _ _ U) (by rw [hs.n]; rfl)) (hd_sup hs U) (.tmp (hs.slots _ _ U) (by exact id)) ty63 U U)) ?_
   refine DrawC.step U U U (Loc.of U fun σ' hs => R_callq U (by exact .yes U U (hs.slots _ _ U) (by rw [hs.n]; rfl)) (hd_sup hs U) (.cons (.tmp (hs.slots _ _ U) (by exact id)) (readA_sup hs U) (.cons (.tmp (hs.slots _ _ U) (by exact id)) (readA_sup hs U) .nil)) fun hq => FnT.fr (specl15Less (l[((k : Int) - 1).toNat]?.getD default) x)) ?_
   refine DrawC.step U U U (Loc.of U fun σ' hs => R_not U (by exact .yes U U (hs.slots _ _ U) (by rw [hs.n]; rfl)) (hd_sup hs U) (.tmp (hs.slots _ _ U) (by exact id))) ?_
   refine DrawC.step U U U (Loc.of U fun σ' hs => R_and U (by exact .not1 U U (hs.slots _ _ U) (by rw [hs.n]; rfl)) (hd_sup hs U) (.tmp (hs.slots _ _ U) (by exact id)) (.tmp (hs.slots _ _ U) (by exact id))) ?_
   refine DrawC.step U U U (Loc.of U fun σ' hs => R_or U (.no U) (hd_sup hs U) (.tm (hs.slots _ _ U)) (.tmp (hs.slots _ _ U) (by exact id))) ?_
   refine DrawC.fin U U ?_
   refine AWl.nil ?_
   refine AW.cond (.tm U) (fun h42 => ?_) (fun h42 => ?_)
   · skip
     try simp at h42
     refine AW.seq ?_
     refine AW.le (σ' := ⟨_, [(0, _), (3, _)], []⟩) (Le.sub0 U ⟨U, U, Y⟩ trivial) ?_
     refine AW.region ?_
     refine AWl.ac ?_
     refine AWl.nil (AW.ret ?_)
     refine Res.v U U ?_
     rw [arePairs_not (k := k) (by rw [apAt_eq hx]; unfold okP; rw [show k - 1 = ((k : Int) - 1).toNat by omega]; simp at h42 ⊢; grind) (by omega)]
   · skip
     try simp at h42
     refine AW.skip ?_
     refine AW.le (σ' := ⟨_, [(0, _), (3, _)], []⟩) (Le.sub0 U ⟨U, U, Y⟩ trivial) ?_
     refine AW.region ?_
     refine AWl.mv ?_
     refine AWl.p (R_add U (.no U) U (.tm U) (.const U) (fun _ => by omega)) U ?_
     refine AWl.av ?_
     refine AWl.nil ?_
     repeat (with_reducible refine BlockQ.nor ?_)
     refine Round1.next (k + 1) ⟨⟨by omega, fun j hj => by rcases Nat.lt_or_eq_of_le (Nat.le_of_lt_succ hj) with h | h; exact hk.2 j h; (subst h; rw [apAt_eq hx]; unfold okP; rw [show j - 1 = ((j : Int) - 1).toNat by omega]; simp at h42 ⊢; grind)⟩, Y⟩ (by omega) (Le.sub0 rfl ⟨rfl, rfl, Y⟩ trivial)
 · skip
   try simp at h7
   refine AW.exit ?_
   refine AW.sr ?_
   refine AWl.ac ?_
   refine AWl.nil (AW.ret ?_)
   refine Res.v U U ?_
   rw [arePairs_all hk.2 (by omega)]
theorem implArePairs (l : List TPair) : FnT Tryz.prog 128 [.one (.sl 2 (l.map cPair))] (.a (.one (.v (.bool (arePairs l))))) := by
 refine FnT.walk Tryz.func128 U (by kernel_rfl) Tryz.ntmps128 U fun hlen w0 => ?_
 try simp [cPair, cToken, cExpr, cEdge, cGraph] at hlen
 refine AW.sr ?_
 refine AWl.ac ?_
 refine AWl.nil (AW.seq ?_)
 refine AW.sr ?_
 refine AWl.mv ?_
 refine AWl.p (by exact R_lenm U (.no U) U (.tm U) (by exact .t) Tryz.underlying58) U ?_
 refine AWl.p (R_move U (.no U) U (.const U)) U ?_
 refine AWl.nil (AW.block ?_)
 refine AW.loop1 (fun (k : Nat) => (k ≤ l.length ∧ ∀ j, j < k → apAt l j = true) ∧ True) (fun (k : Nat) => ⟨_, [(7, (true, .a (.one (.t (.v (.int .i64 (k : Nat))))))), (0, _), (5, _), (6, _)], []⟩) (fun (k : Nat) => l.length - k) (0) ⟨⟨Nat.zero_le _, fun j hj => absurd hj (Nat.not_lt_zero j)⟩, Y⟩ (Le.sub0 U ⟨U, U, U, U, Y⟩ trivial) ?_
 rintro k ⟨hk, he⟩
 refine AW.sr ?_
 refine AWl.p (R_lt U (.no U) U (.tm U) (.tm U)) U ?_
 refine AWl.nil (AW.seq ?_)
 refine AW.cond (.tm U) (fun h8 => ?_) (fun h8 => ?_)
 · skip
   try simp at h8
   obtain ⟨x, hx⟩ : ∃ ξ, l[k]? = some ξ := ⟨_, List.getElem?_eq_getElem (by omega)⟩
   refine AW.skip ?_
   refine AW.seq ?_
   refine AW.block ?_
   refine AW.sr ?_
   refine AWl.mv ?_
   refine AWl.p (by exact R_indexAddr U (.no U) U (.tm U) (.tm U) Tryz.underlying58 ty63 (fun _ => ⟨by omega, (map_get hx)⟩)) U ?_
   refine AWl.p (by exact R_load U (.no U) U (.tm U) ty63 U U) U ?_
   refine AWl.add (R_alloc 4 U U U in63 U U U) U ?_
   refine AWl.av ?_
   refine AWl.chgb (R_store_pb U U U (.tm U) (.tm U) U ty63 U U U (by kernel_rfl) U) ?_
   refine AWl.nil (AW.seq ?_)
   refine AW.drawn 24 (nthB [[], [0], [0, 1], [0, 1, 2], [0, 1, 2, 3], [0, 1, 2, 3, 4], [0, 1, 2, 3, 4, 5], [0, 1, 2, 3, 4, 5, 6], [0, 1, 2, 3, 4, 5, 6, 7], [0, 1, 2, 3, 4, 5, 6, 7, 8], [0, 1, 2, 3, 4, 5, 6, 7, 8, 9], [0, 1, 2, 3, 4, 5, 6, 7, 8, 9, 10], [0, 1, 2, 3, 4, 5, 6, 7, 8, 9, 10, 11], [0, 1, 2, 3, 4, 5, 6, 7, 8, 9, 10, 11, 12], [0, 1, 2, 3, 4, 5, 6, 7, 8, 9, 10, 11, 12, 13], [0, 1, 2, 3, 4, 5, 6, 7, 8, 9, 10, 11, 12, 13], [0, 1, 2, 3, 4, 5, 6, 7, 8, 9, 10, 11, 12, 13, 15], [0, 1, 2, 3, 4, 5, 6, 7, 8, 9, 10, 11, 12, 13, 14, 15, 16], [0, 1, 2, 3, 4, 5, 6, 7, 8, 9, 10, 11, 12, 13, 14, 15, 16, 17], [0, 1, 2, 3, 4, 5, 6, 7, 8, 9, 10, 11, 12, 13], [0, 1, 2, 3, 4, 5, 6, 7, 8, 9, 10, 11, 12, 13, 14, 15, 16, 17, 18, 19], [0, 1, 2, 3, 4, 5, 6, 7, 8, 9, 10, 11, 12, 13, 14, 15, 16, 17, 18, 19, 20], [0, 1, 2, 3, 4, 5, 6, 7, 8, 9, 10, 11, 12, 13, 14, 15, 16, 17, 18, 19, 20, 21], [0, 1, 2, 3, 4, 5, 6, 7, 8, 9, 10, 11, 12, 13, 14, 15, 16, 17, 18, 19, 20, 21, 22]]) (by kernel_rfl) (by kernel_rfl) (by kernel_rfl) ?_
   refine DrawC.step U U U (Loc.of U fun σ' hs => (by exact R_fieldAddr_pp U (.no U) (hd_sup hs U) (.tm (hs.slots _ _ U)) fl63_0)) ?_
   refine DrawC.step U U U (Loc.of U fun σ' hs => (by exact R_load_pp U (.no U) (hd_sup hs U) (.tm (hs.slots _ _ U)) (hs.res _ _ U) ty3 U U)) ?_
   refine DrawC.step U U U (Loc.of U fun σ' hs => R_callz (FnT.fr (implwithin _ _ _)) U (.no U) (hd_sup hs U) (.cons (.tm (hs.slots _ _ U)) (readA_sup hs U) (.cons (.const U) (readA_sup hs U) (.cons (.const U) (readA_sup hs U) .nil)))) ?_
   refine DrawC.step U U U (Loc.of U fun σ' hs => R_not U (.no U) (hd_sup hs U) (.tm (hs.slots _ _ U))) ?_
   refine DrawC.step U U U (Loc.of U fun σ' hs => R_move U (.no U) (hd_sup hs U) (.tm (hs.slots _ _ U))) ?_
   refine DrawC.step U U U (Loc.of U fun σ' hs => (by exact R_fieldAddr_pp U (by exact .not1 U U (hs.slots _ _ U) (by rw [hs.n]; rfl)) (hd_sup hs U) (.tmp (hs.slots _ _ U) (by exact fun _ => rfl)) fl63_1)) ?_
   refine DrawC.step U U U (Loc.of U fun σ' hs => (by exact R_load_pp U (by exact .not1 U U (hs.slots _ _ U) (by rw [hs.n]; rfl)) (hd_sup hs U) (.tmp (hs.slots _ _ U) (by exact id)) (hs.res _ _ U) ty3 U U)) ?_
   refine DrawC.step U U U (Loc.of U fun σ' hs => R_callz (FnT.fr (implwithin _ _ _)) U (by exact .not1 U U (hs.slots _ _ U) (by rw [hs.n]; rfl)) (hd_sup hs U) (.cons (.tmp (hs.slots _ _ U) (by exact id)) (readA_sup hs U) (.cons (.const U) (readA_sup hs U) (.cons (.const U) (readA_sup hs U) .nil)))) ?_
   refine DrawC.step U U U (Loc.of U fun σ' hs => R_not U (by exact .not1 U U (hs.slots _ _ U) (by rw [hs.n]; rfl)) (hd_sup hs U) (.tmp (hs.slots _ _ U) (by exact id))) ?_
   refine DrawC.step U U U (Loc.of U fun σ' hs => R_or U (.no U) (hd_sup hs U) (.tm (hs.slots _ _ U)) (.tmp (hs.slots _ _ U) (by exact id))) ?_
   refine DrawC.step U U U (Loc.of U fun σ' hs => R_move U (.no U) (hd_sup hs U) (.tm (hs.slots _ _ U))) ?_
   refine DrawC.step U U U (Loc.of U fun σ' hs => R_move U (by exact .not1 U U (hs.slots _ _ U) (by rw [hs.n]; rfl)) (hd_sup hs U) (.tmp (hs.slots _ _ U) (by exact fun _ => rfl))) ?_
   refine DrawC.step U U U (Loc.of U fun σ' hs => R_gt U (by exact .not1 U U (hs.slots _ _ U) (by rw [hs.n]; rfl)) (hd_sup hs U) (.tmp (hs.slots _ _ U) (by exact id)) (.const U)) ?_
   refine DrawC.step U U U (Loc.of U fun σ' hs => R_move U (by exact .not1 U U (hs.slots _ _ U) (by rw [hs.n]; rfl)) (hd_sup hs U) (.tmp (hs.slots _ _ U) (by exact id))) ?_
   refine DrawC.step U U U (Loc.of U fun σ' hs => R_move U (by exact .yes U U (hs.slots _ _ U) (by rw [hs.n]; rfl)) (hd_sup hs U) (.tmp (hs.slots _ _ U) (by exact fun _ => rfl))) ?_
   refine DrawC.step U U U (Loc.of U fun σ' hs => R_move U (by exact .yes U U (hs.slots _ _ U) (by rw [hs.n]; rfl)) (hd_sup hs U) (.tmp (hs.slots _ _ U) (by exact fun _ => rfl))) ?_
   refine DrawC.step U U U (Loc.of U fun σ' hs => R_sub U (by exact .yes U U (hs.slots _ _ U) (by rw [hs.n]; rfl)) (hd_sup hs U) (.tmp (hs.slots _ _ U) (by exact id)) (.const U) (fun hq => by first | omega | (simp at hq; omega))) ?_
   refine DrawC.step U U U (Loc.of U fun σ' hs => (by exact R_indexAddr U (by exact .yes U U (hs.slots _ _ U) (by rw [hs.n]; rfl)) (hd_sup hs U) (.tmp (hs.slots _ _ U) (by exact id)) (.tmp (hs.slots _ _ U) (by exact id)) Tryz.underlying58 ty63 (fun hq => by simp at hq; exact ⟨by omega, map_get (l := l) (x := l[((k : Int) - 1).toNat]?.getD default) (getD_at (by omega))⟩))) ?_
   refine DrawC.step U U U (Loc.of U fun σ' hs => (by exact R_load U (by exact .yes U U (hs.slots _ _ U) (by rw [hs.n]; rfl)) (hd_sup hs U) (.tmp (hs.slots _ _ U) (by exact id)) ty63 U U)) ?_
   refine DrawC.step U U U (Loc.of U fun σ' hs => (by exact R_load_pp U (by exact .yes U U (hs.slots _ _ U) (by rw [hs.n]; rfl)) (hd_sup hs U) (.tmp (hs.slots _ _ U) (by exact fun _ => rfl)) (hs.res _ _ U) ty63 U U)) ?_
   refine DrawC.step U U U (Loc.of U fun σ' hs => R_callq U (by exact .yes U U (hs.slots _ _ U) (by rw [hs.n]; rfl)) (hd_sup hs U) (.cons (.tmp (hs.slots _ _ U) (by exact id)) (readA_sup hs U) (.cons (.tmp (hs.slots _ _ U) (by exact id)) (readA_sup hs U) .nil)) fun hq => FnT.fr (implcomparePairs (l[((k : Int) - 1).toNat]?.getD default) x)) ?_
   refine DrawC.step U U U (Loc.of U fun σ' hs => R_ge U (by exact .yes U U (hs.slots _ _ U) (by rw [hs.n]; rfl)) (hd_sup hs U) (.tmp (hs.slots _ _ U) (by exact id)) (.const U)) ?_
   refine DrawC.step U U U (Loc.of U fun σ' hs => R_and U (by exact .not1 U U (hs.slots _ _ U) (by rw [hs.n]; rfl)) (hd_sup hs U) (.tmp (hs.slots _ _ U) (by exact id)) (.tmp (hs.slots _ _ U) (by exact id))) ?_
   refine DrawC.step U U U (Loc.of U fun σ' hs => R_or U (.no U) (hd_sup hs U) (.tm (hs.slots _ _ U)) (.tmp (hs.slots _ _ U) (by exact id))) ?_
   refine DrawC.fin U U ?_
   refine AWl.nil ?_
   refine AW.cond (.tm U) (fun h35 => ?_) (fun h35 => ?_)
   · skip
     try simp at h35
     refine AW.seq ?_
     refine AW.le (σ' := ⟨_, [(0, _), (3, _), (4, _), (5, _), (6, _), (7, _)], [(4, _)]⟩) (Le.sub0 U ⟨U, U, U, U, U, U, Y⟩ ⟨U, Y⟩) ?_
     refine AW.region ?_
     refine AWl.ac ?_
     refine AWl.nil (AW.ret ?_)
     refine Res.v U U ?_
     rw [arePairs_not (k := k) (by rw [apAt_eq hx, ← cmpP_ge]; unfold okP; rw [show k - 1 = ((k : Int) - 1).toNat by omega]; simp at h35 ⊢; grind) (by omega)]
   · skip
     try simp at h35
     refine AW.skip ?_
     refine AW.le (σ' := ⟨_, [(0, _), (3, _), (4, _), (5, _), (6, _), (7, _)], [(4, _)]⟩) (Le.sub0 U ⟨U, U, U, U, U, U, Y⟩ ⟨U, Y⟩) ?_
     refine AW.region ?_
     refine AWl.p (R_add U (.no U) U (.tm U) (.const U) (fun _ => by omega)) U ?_
     refine AWl.mv ?_
     refine AWl.nil ?_
     repeat (with_reducible refine BlockQ.nor ?_)
     refine Round1.next (k + 1) ⟨⟨by omega, fun j hj => by rcases Nat.lt_or_eq_of_le (Nat.le_of_lt_succ hj) with h | h; exact hk.2 j h; (subst h; rw [apAt_eq hx, ← cmpP_ge]; unfold okP; rw [show j - 1 = ((j : Int) - 1).toNat by omega]; simp at h35 ⊢; grind)⟩, Y⟩ (by omega) (Le.sub0 rfl ⟨rfl, rfl, rfl, rfl, Y⟩ trivial)
 · skip
   try simp at h8
   refine AW.exit ?_
   refine AW.sr ?_
   refine AWl.ac ?_
   refine AWl.nil (AW.ret ?_)
   refine Res.v U U ?_
   rw [arePairs_all hk.2 (by omega)]
end Go.Proofs.YtbkhopfpejhnlaaGreat
