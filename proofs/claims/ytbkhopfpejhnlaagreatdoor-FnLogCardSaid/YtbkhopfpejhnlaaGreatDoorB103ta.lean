import Derived.Test.YtbkhopfpejhnlaaGreatDoorB102ta
set_option linter.unusedVariables false
set_option linter.unusedSimpArgs false
set_option maxHeartbeats 1000000
set_option maxRecDepth 100000
namespace Go.Q
open Go.D
theorem insG_no {g : TGraph} {e : TEdge} (h : insOk g e = false) : insG g e = (g, false) := by unfold insG; rw [if_neg (by rw [h]; decide)]
theorem insG_yes {g : TGraph} {e : TEdge} {k : Nat} (h : insOk g e = true) (hk : insAt g.Edges e = k) : insG g e = (⟨g.Values, g.Edges.take k ++ e :: g.Edges.drop k⟩, true) := by
 unfold insG
 rw [if_pos h]
 unfold insL
 rw [hk]
theorem ins_more {l : List TEdge} {e x : TEdge} {k : Nat} (h : ∀ j x, j < k → l[j]? = some x → x.ID < e.ID) (hx : l[k]? = some x) (h2 : x.ID < e.ID) : ∀ j x, j < k + 1 → l[j]? = some x → x.ID < e.ID := fun j y hj hy => by
 by_cases e1 : j = k
 · subst e1; rw [hx] at hy; cases hy; exact h2
 · exact h j y (by omega) hy
theorem ins_stop {l : List TEdge} {e : TEdge} {k : Nat} (h : k < l.length → e.ID ≤ (l[k]?.getD dE).ID) : ∀ x, l[k]? = some x → ¬ x.ID < e.ID := fun x hx => by
 have := h (List.getElem?_eq_some_iff.1 hx).1
 rw [hx, Option.getD_some] at this
 omega
end Go.Q
namespace Go.Proofs.YtbkhopfpejhnlaaGreatDoor
open Go.RowKit Go.Q Go.D
theorem specInsertEdge (g : TGraph) (e : TEdge) (hz1 : g.Values.length ≤ 1073741824) (hz2 : g.Edges.length ≤ 1048576) : FnT Tryz.prog 115 [.agg (cGraph g), .agg (cEdge e)] (.tup [.agg (cGraph (insG g e).1), .one (.v (.bool (insG g e).2))]) := by
 refine FnT.walk Tryz.func115 U (by kernel_rfl) Tryz.ntmps115 U fun hlen w0 => ?_
 try simp [cEdge, cGraph, cChange, cBatch, cHistory] at hlen
 refine AW.sr ?_
 refine AWl.p (R_boxz U U U (.tm U) (ts := _) (by rfl)) U ?_
 refine AWl.p (R_boxz U U U (.tm U) (ts := _) (by rfl)) U ?_
 refine AWl.add (R_alloc 4 U U U in83 U U U) U ?_
 refine AWl.ac ?_
 refine AWl.nil (AW.seq ?_)
 refine AW.sr ?_
 refine AWl.p (by exact R_load U (.no U) U (.tm U) ty83 U U) U ?_
 refine AWl.p (R_callz (FnT.fr (specIsValidGraph g)) U (.no U) U (.cons (.tm U) U .nil)) U ?_
 refine AWl.p (R_not U (.no U) U (.tm U)) U ?_
 refine AWl.mv ?_
 refine AWl.p (by exact R_load U (by exact .not1 U U U U) U (.tmp U (by exact fun _ => rfl)) ty83 U U) U ?_
 refine AWl.p (by exact R_load U (by exact .not1 U U U U) U (.tmp U (by exact fun _ => rfl)) ty95 U U) U ?_
 refine AWl.p (R_callz (FnT.fr (specl3Edge g e)) U (by exact .not1 U U U U) U (.cons (.tmp U (by exact id)) U (.cons (.tmp U (by exact id)) U .nil))) U ?_
 refine AWl.p (R_not U (by exact .not1 U U U U) U (.tmp U (by exact id))) U ?_
 refine AWl.p (R_or U (.no U) U (.tm U) (.tmp U (by exact id))) U ?_
 refine AWl.mv ?_
 refine AWl.p (by exact R_load U (by exact .not1 U U U U) U (.tmp U (by exact fun _ => rfl)) ty83 U U) U ?_
 refine AWl.p (by exact R_fieldAddr U (by exact .not1 U U U U) U (.tmp U (by exact fun _ => rfl)) fl95_0) U ?_
 refine AWl.p (by exact R_load U (by exact .not1 U U U U) U (.tmp U (by exact id)) ty3 U U) U ?_
 refine AWl.p (R_callz (FnT.fr (specEdgeIndex g e.ID)) U (by exact .not1 U U U U) U (.cons (.tmp U (by exact id)) U (.cons (.tmp U (by exact id)) U .nil))) U ?_
 refine AWl.p (R_ge U (by exact .not1 U U U U) U (.tmp U (by exact id)) (.const U)) U ?_
 refine AWl.p (R_or U (.no U) U (.tm U) (.tmp U (by exact id))) U ?_
 refine AWl.mv ?_
 refine AWl.p (by exact R_fieldAddr U (by exact .not1 U U U U) U (.tmp U (by exact fun _ => rfl)) fl83_1) U ?_
 refine AWl.p (by exact R_load U (by exact .not1 U U U U) U (.tmp U (by exact id)) ty81 U U) U ?_
 refine AWl.p (by exact R_lenm U (by exact .not1 U U U U) U (.tmp U (by exact id)) (by exact .t) Tryz.underlying81) U ?_
 refine AWl.p (R_eq U (by exact .not1 U U U U) U (.tmp U (by exact id)) (.const U)) U ?_
 refine AWl.p (R_or U (.no U) U (.tm U) (.tmp U (by exact id))) U ?_
 refine AWl.nil ?_
 refine AW.cond (.tm U) (fun h29 => ?_) (fun h29 => ?_)
 · skip
   try simp at h29
   refine AW.seq ?_
   refine AW.le (σ' := ⟨_, [(0, _), (1, _), (2, _), (3, _), (4, _), (5, _)], [(4, _)]⟩) (Le.sub0 U ⟨U, U, U, U, U, U, Y⟩ ⟨U, Y⟩) ?_
   refine AW.region ?_
   refine AWl.p (by exact R_load U (.no U) U (.tm U) ty83 U U) U ?_
   refine AWl.adds (R_call 3100 (specl3Copy g hz1 (by omega)) U U U (.cons (.tm U) U .nil) U U) U ?_
   refine AWl.chgb (R_store_pb U U U (.tm U) (.tm U) U ty83 U U U (by kernel_rfl) U) ?_
   refine AWl.le (σ' := ⟨_, [(0, _), (1, _), (2, _), (3, _), (4, _), (5, _)], [(4, _), (3100, _), (3101, _)]⟩) (Le.sub0 U ⟨U, U, U, U, U, U, Y⟩ ⟨U, U, U, Y⟩) ?_
   refine AWl.ac ?_
   refine AWl.nil (AW.ret ?_)
   refine Res.many U (.cell U U ty83 U U (.tmp U .nil)) U ?_ (by simp)
   rw [insG_no (by unfold insOk; grind)]; rfl
 · skip
   try simp at h29
   refine AW.skip ?_
   refine AW.seq ?_
   refine AW.le (σ' := ⟨_, [(0, _), (1, _), (2, _), (3, _), (4, _), (5, _)], [(4, _)]⟩) (Le.sub0 U ⟨U, U, U, U, U, U, Y⟩ ⟨U, Y⟩) ?_
   refine AW.region ?_
   refine AWl.ac ?_
   refine AWl.nil (AW.seq ?_)
   refine AW.block ?_
   refine AW.loop1 (fun (k : Nat) => (k ≤ g.Edges.length ∧ ∀ j x, j < k → g.Edges[j]? = some x → x.ID < e.ID) ∧ True) (fun (k : Nat) => ⟨_, [(6, (true, .a (.one (.t (.v (.int .i64 (k : Nat))))))), (2, _), (3, _), (4, _), (5, _)], [(4, .box [.t (.v (.slice none 0 0)), .t (.v (.slice none 0 0))])]⟩) (fun (k : Nat) => g.Edges.length - k) (0) ⟨⟨Nat.zero_le _, fun j x hj => by omega⟩, Y⟩ (Le.sub0 U ⟨U, U, U, U, U, Y⟩ ⟨U, Y⟩) ?_
   rintro k ⟨hk, he⟩
   refine AW.seq ?_
   refine AW.seq ?_
   refine AW.drawn 16 (nthB [[], [], [1], [1, 2], [0, 1, 2, 3], [0, 1, 2, 3, 4], [0, 1, 2, 3, 4, 5], [0, 1, 2, 3, 4, 5, 6], [0, 1, 2, 3, 4, 5], [0, 1, 2, 3, 4, 5, 6, 7, 8], [0, 1, 2, 3, 4, 5, 6, 7, 8, 9], [0, 1, 2, 3, 4, 5, 6, 7, 8, 9, 10], [0, 1, 2, 3, 4, 5], [0, 1, 2, 3, 4, 5, 12], [0, 1, 2, 3, 4, 5, 6, 7, 8, 9, 10, 11, 12, 13], [0, 1, 2, 3, 4, 5, 6, 7, 8, 9, 10, 11, 12, 13, 14]]) (by kernel_rfl) (by kernel_rfl) (by kernel_rfl) ?_
   refine DrawC.step U U U (Loc.of U fun σ' hs => R_move U (.no U) (hd_sup hs U) (.tm (hs.slots _ _ U))) ?_
   refine DrawC.step U U U (Loc.of U fun σ' hs => (by exact R_fieldAddr U (.no U) (hd_sup hs U) (.tm (hs.slots _ _ U)) fl83_1)) ?_
   refine DrawC.step U U U (Loc.of U fun σ' hs => (by exact R_load U (.no U) (hd_sup hs U) (.tm (hs.slots _ _ U)) ty81 U U)) ?_
   refine DrawC.step U U U (Loc.of U fun σ' hs => (by exact R_lenm U (.no U) (hd_sup hs U) (.tm (hs.slots _ _ U)) (by exact .t) Tryz.underlying81)) ?_
   refine DrawC.step U U U (Loc.of U fun σ' hs => R_lt U (.no U) (hd_sup hs U) (.tm (hs.slots _ _ U)) (.tm (hs.slots _ _ U))) ?_
   refine DrawC.step U U U (Loc.of U fun σ' hs => R_move U (.no U) (hd_sup hs U) (.tm (hs.slots _ _ U))) ?_
   refine DrawC.step U U U (Loc.of U fun σ' hs => (by exact R_fieldAddr U (by exact .yes1 U U (hs.slots _ _ U) (by rw [hs.n]; rfl)) (hd_sup hs U) (.tmp (hs.slots _ _ U) (by exact fun _ => rfl)) fl83_1)) ?_
   refine DrawC.step U U U (Loc.of U fun σ' hs => (by exact R_load U (by exact .yes1 U U (hs.slots _ _ U) (by rw [hs.n]; rfl)) (hd_sup hs U) (.tmp (hs.slots _ _ U) (by exact id)) ty81 U U)) ?_
   refine DrawC.step U U U (Loc.of U fun σ' hs => R_move U (by exact .yes1 U U (hs.slots _ _ U) (by rw [hs.n]; rfl)) (hd_sup hs U) (.tmp (hs.slots _ _ U) (by exact fun _ => rfl))) ?_
   refine DrawC.step U U U (Loc.of U fun σ' hs => (by exact R_indexAddr U (by exact .yes1 U U (hs.slots _ _ U) (by rw [hs.n]; rfl)) (hd_sup hs U) (.tmp (hs.slots _ _ U) (by exact id)) (.tmp (hs.slots _ _ U) (by exact id)) Tryz.underlying81 ty95 (fun hq => ⟨by omega, map_get (getD_at (d := dE) (by simp at hq; omega))⟩))) ?_
   refine DrawC.step U U U (Loc.of U fun σ' hs => (by exact R_fieldAddr U (by exact .yes1 U U (hs.slots _ _ U) (by rw [hs.n]; rfl)) (hd_sup hs U) (.tmp (hs.slots _ _ U) (by exact id)) fl95_0)) ?_
   refine DrawC.step U U U (Loc.of U fun σ' hs => (by exact R_load U (by exact .yes1 U U (hs.slots _ _ U) (by rw [hs.n]; rfl)) (hd_sup hs U) (.tmp (hs.slots _ _ U) (by exact id)) ty3 U U)) ?_
   refine DrawC.step U U U (Loc.of U fun σ' hs => (by exact R_fieldAddr U (by exact .yes1 U U (hs.slots _ _ U) (by rw [hs.n]; rfl)) (hd_sup hs U) (.tmp (hs.slots _ _ U) (by exact fun _ => rfl)) fl95_0)) ?_
   refine DrawC.step U U U (Loc.of U fun σ' hs => (by exact R_load U (by exact .yes1 U U (hs.slots _ _ U) (by rw [hs.n]; rfl)) (hd_sup hs U) (.tmp (hs.slots _ _ U) (by exact id)) ty3 U U)) ?_
   refine DrawC.step U U U (Loc.of U fun σ' hs => R_lt U (by exact .yes1 U U (hs.slots _ _ U) (by rw [hs.n]; rfl)) (hd_sup hs U) (.tmp (hs.slots _ _ U) (by exact id)) (.tmp (hs.slots _ _ U) (by exact id))) ?_
   refine DrawC.step U U U (Loc.of U fun σ' hs => R_and U (.no U) (hd_sup hs U) (.tm (hs.slots _ _ U)) (.tmp (hs.slots _ _ U) (by exact id))) ?_
   refine DrawC.fin U U ?_
   refine AWl.nil ?_
   refine AW.cond (.tm U) (fun h47 => ?_) (fun h47 => ?_)
   · skip
     try simp at h47
     have hx := getD_at (d := dE) (l := g.Edges) (k := k) (by omega)
     refine AW.skip ?_
     refine AW.block ?_
     refine AW.le (σ' := ⟨_, [(2, _), (3, _), (4, _), (5, _), (6, _)], [(4, _)]⟩) (Le.sub0 U ⟨U, U, U, U, U, Y⟩ ⟨U, Y⟩) ?_
     refine AW.region ?_
     refine AWl.mv ?_
     refine AWl.p (R_add U (.no U) U (.tm U) (.const U) (fun _ => by omega)) U ?_
     refine AWl.av ?_
     refine AWl.nil ?_
     repeat (with_reducible refine BlockQ.nor ?_)
     refine Round1.next (k + 1) ⟨⟨by omega, ins_more hk.2 hx h47.2⟩, Y⟩ (by omega) (Le.sub0 rfl ⟨rfl, rfl, rfl, rfl, rfl, Y⟩ ⟨(by rfl), Y⟩)
   · skip
     try simp at h47
     have hat := insAt_eq (e := e) hk.1 hk.2 (ins_stop h47)
     refine AW.exit ?_
     refine AW.seq ?_
     refine AW.le (σ' := ⟨_, [(2, _), (3, _), (4, _), (5, _), (6, _)], [(4, _)]⟩) (Le.sub0 U ⟨U, U, U, U, U, Y⟩ ⟨U, Y⟩) ?_
     refine AW.region ?_
     refine AWl.add (R_empty 50 U U U Tryz.underlying55 ty3 U) U ?_
     refine AWl.p (by exact R_fieldAddr U (.no U) U (.tm U) fl83_0) U ?_
     refine AWl.p (by exact R_load U (.no U) U (.tm U) ty55 U U) U ?_
     refine AWl.chgput (R_append U U U (.tm U) U (.tm U) (by exact .t) (by exact isV_map (fun _ => rfl) _) Tryz.underlying55 in3 U (by (simp [chunk]; omega)) (by (unfold maxLen; simp [chunk]; omega))) U ?_
     refine AWl.le (σ' := ⟨_, [(2, _), (3, _), (4, _), (5, _), (6, _), (53, _)], [(4, _), (50, _)]⟩) (Le.sub0 U ⟨U, U, U, U, U, U, Y⟩ ⟨U, U, Y⟩) ?_
     refine AWl.p (R_build (ps := [(0, .tmp 53)]) U U U in83 U U st83 (.cons (.tm U) U U fp83_0 .nil) U) U ?_
     refine AWl.nilA (i := 54) 20001 4 1 U U U ?_
     refine AWl.add (R_alloc 7 U U U in83 U U U) U ?_
     refine AWl.chgb (R_store_pb U U U (.tm U) (.tm U) U ty83 U U U (by kernel_rfl) U) ?_
     refine AWl.nil (AW.seq ?_)
     refine AW.le (σ' := ⟨_, [(2, _), (3, _), (4, _), (5, _), (6, _), (7, _), (53, _), (54, _)], [(4, _), (50, _), (20001, _), (7, _)]⟩) (Le.sub0 U ⟨U, U, U, U, U, U, U, U, Y⟩ ⟨U, U, U, U, Y⟩) ?_
     refine AW.drawK 15 (nthB [[], [], [1], [], [1, 2, 3], [0, 1, 2, 3, 4], [], [6], [0, 1, 2, 3, 4, 5, 6, 7], [], [9], [], [9, 10, 11], [0, 1, 2, 3, 4, 5, 6, 7, 8, 9, 10, 11, 12], [0, 1, 2, 3, 4, 5, 6, 7, 8, 9, 10, 11, 12, 13]]) [(5, 55), (8, 55), (13, 55)] (by kernel_rfl) (by kernel_rfl) (by kernel_rfl) ?_
     refine DrawK.step (LocK.of1 U fun σ' hs hf => R_empty 55 U U (hd_sup hs U) Tryz.underlying81 ty95 hf) ?_
     refine DrawK.step (LocK.of U fun σ' hs => (by exact R_fieldAddr U (.no U) (hd_sup hs U) (.tm (hs.slots _ _ U)) fl83_1)) ?_
     refine DrawK.step (LocK.of U fun σ' hs => (by exact R_load U (.no U) (hd_sup hs U) (.tm (hs.slots _ _ U)) ty81 U U)) ?_
     refine DrawK.step (LocK.of U fun σ' hs => R_move U (.no U) (hd_sup hs U) (.tm (hs.slots _ _ U))) ?_
     refine DrawK.step (LocK.of U fun σ' hs => R_slice (m := k) U (.no U) (hd_sup hs U) (.tm (hs.slots _ _ U)) .no (.yes (.tm (hs.slots _ _ U)) (fun _ => by first | omega | (simp <;> omega))) Tryz.underlying81 ty95 (fun _ => ⟨by omega, by first | omega | (simp; omega)⟩)) ?_
     refine DrawK.step (LocK.ofc U U fun σ' hs => R_append (id := 55) U U (hd_sup hs U) (.tm (hs.slots _ _ U)) (hs.res _ _ U) (.tm (hs.slots _ _ U)) (by exact .t) (by exact isV_part (fun _ => rfl) _ _ _) Tryz.underlying81 in95 U (by (simp [chunk]; omega)) (by (unfold maxLen; simp [chunk]; omega))) ?_
     refine DrawK.step (LocK.of U fun σ' hs => (by exact R_load U (.no U) (hd_sup hs U) (.tm (hs.slots _ _ U)) ty95 U U)) ?_
     refine DrawK.step (LocK.of1 U fun σ' hs hf => R_list (xs := [.tmp 61]) 62 U U (hd_sup hs U) (.cons (.tm (hs.slots _ _ U)) U U .nil) Tryz.underlying81 in95 U U U hf) ?_
     refine DrawK.step (LocK.ofc U U fun σ' hs => R_append (id := 55) U U (hd_sup hs U) (.tm (hs.slots _ _ U)) (hs.res _ _ U) (.tm (hs.slots _ _ U)) (by exact .rf (hs.res _ _ U)) (by rfl) Tryz.underlying81 in95 U (by (simp [chunk]; omega)) (by (unfold maxLen; simp [chunk]; omega))) ?_
     refine DrawK.step (LocK.of U fun σ' hs => (by exact R_fieldAddr U (.no U) (hd_sup hs U) (.tm (hs.slots _ _ U)) fl83_1)) ?_
     refine DrawK.step (LocK.of U fun σ' hs => (by exact R_load U (.no U) (hd_sup hs U) (.tm (hs.slots _ _ U)) ty81 U U)) ?_
     refine DrawK.step (LocK.of U fun σ' hs => R_move U (.no U) (hd_sup hs U) (.tm (hs.slots _ _ U))) ?_
     refine DrawK.step (LocK.of U fun σ' hs => R_slice (n := k) U (.no U) (hd_sup hs U) (.tm (hs.slots _ _ U)) (.yes (.tm (hs.slots _ _ U)) (fun _ => by first | omega | (simp <;> omega))) .no Tryz.underlying81 ty95 (fun _ => ⟨by simp; omega, by simp⟩)) ?_
     refine DrawK.step (LocK.ofc U U fun σ' hs => R_append (id := 55) U U (hd_sup hs U) (.tm (hs.slots _ _ U)) (hs.res _ _ U) (.tm (hs.slots _ _ U)) (by exact .t) (by exact isV_part (fun _ => rfl) _ _ _) Tryz.underlying81 in95 U (by (simp [chunk]; omega)) (by (unfold maxLen; simp [chunk]; omega))) ?_
     refine DrawK.step (LocK.of U fun σ' hs => (by exact R_fieldAddr_pp U (.no U) (hd_sup hs U) (.tm (hs.slots _ _ U)) fl83_1)) ?_
     refine DrawK.fin U U U ?_
     refine AWl.le (σ' := ⟨_, [(2, _), (3, _), (4, _), (5, _), (6, _), (7, _), (68, _), (69, _)], [(4, _), (50, _), (20001, _), (7, _), (55, _), (62, _)]⟩) (Le.sub0 U ⟨U, U, U, U, U, U, U, U, Y⟩ ⟨U, U, U, U, U, U, Y⟩) ?_
     refine AWl.chgb (R_store_pb U U U (.tm U) (.tm U) U ty81 U U U (by kernel_rfl) U) ?_
     refine AWl.nil (AW.sr ?_)
     refine AWl.p (by exact R_load_pp U (.no U) U (.tm U) U ty83 U U) U ?_
     refine AWl.chgb (R_store_pb U U U (.tm U) (.tm U) U ty83 U U U (by kernel_rfl) U) ?_
     refine AWl.le (σ' := ⟨_, [(2, _), (3, _), (4, _), (5, _), (6, _), (7, _)], [(4, _), (50, _), (20001, _), (7, _), (55, _), (62, _)]⟩) (Le.sub0 U ⟨U, U, U, U, U, U, Y⟩ ⟨U, U, U, U, U, U, Y⟩) ?_
     refine AWl.ac ?_
     refine AWl.nil (AW.ret ?_)
     refine Res.many U (.cell U U ty83 U U (.tmp U .nil)) U ?_ (by simp)
     rw [insG_yes (by unfold insOk; grind) hat]; refine congrArg (fun r => [V0.agg [T.sl 1 (g.Values.map cInt), T.sl 4 r], V0.one (T.v (Value.bool true))]) ?_; simp [List.map_take, List.map_drop]; rw [List.take_of_length_le (by simp)]; rfl
end Go.Proofs.YtbkhopfpejhnlaaGreatDoor
