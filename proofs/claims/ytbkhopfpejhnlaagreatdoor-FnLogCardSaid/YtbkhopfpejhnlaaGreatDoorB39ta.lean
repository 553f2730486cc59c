import Derived.Test.YtbkhopfpejhnlaaGreatDoorB34ta
set_option linter.unusedVariables false
set_option linter.unusedSimpArgs false
set_option maxHeartbeats 1000000
set_option maxRecDepth 100000
namespace Go.Q
open Go.D
theorem rise_all {l : List TEdge} (h : ∀ k x y, l[k]? = some x → l[k + 1]? = some y → x.ID < y.ID) : ∀ (d k : Nat) (x y : TEdge), l[k]? = some x → l[k + d + 1]? = some y → x.ID < y.ID
 | 0, k, x, y, hx, hy => h k x y hx hy
 | d + 1, k, x, y, hx, hy => by
  have hl := (List.getElem?_eq_some_iff.1 hy).1
  have hz : l[k + d + 1]? = some (l[k + d + 1]'(by omega)) := List.getElem?_eq_getElem _
  have h1 := rise_all h d k x _ hx hz
  have h2 := h (k + d + 1) _ y hz (by rw [show k + d + 1 + 1 = k + (d + 1) + 1 by omega]; exact hy)
  omega
theorem del_get {α : Type} {l : List α} {i k : Nat} (hi : i < l.length) : (l.take i ++ l.drop (i + 1))[k]? = if k < i then l[k]? else l[k + 1]? := by
 by_cases h : k < i
 · rw [if_pos h, List.getElem?_append_left (by rw [List.length_take]; omega), List.getElem?_take, if_pos h]
 · rw [if_neg h, List.getElem?_append_right (by rw [List.length_take]; omega), List.getElem?_drop, List.length_take]
   congr 1; omega
def delG (g : TGraph) (id : Int) : TGraph × Bool := if validG g && decide (0 ≤ edgeIndex g id) then (⟨g.Values, g.Edges.take (edgeIndex g id).toNat ++ g.Edges.drop ((edgeIndex g id).toNat + 1)⟩, true) else (g, false)
theorem validG_rise {g : TGraph} (hg : validG g = true) : ∀ k x y, g.Edges[k]? = some x → g.Edges[k + 1]? = some y → x.ID < y.ID := by
 intro k x y hx hy
 unfold validG at hg
 simp only [Bool.and_eq_true] at hg
 have hl := (List.getElem?_eq_some_iff.1 hy).1
 have := List.all_eq_true.1 hg.1.2 (k + 1) (List.mem_range.2 hl)
 unfold edgeAt at this
 rw [hy] at this
 simp only [Nat.add_sub_cancel, hx, Option.getD_some, Bool.and_eq_true, Bool.not_eq_true', Bool.and_eq_false_iff, decide_eq_false_iff_not] at this
 rcases this.2 with h | h <;> omega
theorem delG_valid {g : TGraph} {id : Int} (h : (delG g id).2 = true) : validG (delG g id).1 = true ∧ (delG g id).1.Values = g.Values ∧ validG g = true := by
 unfold delG at *
 split at h
 · rename_i hc
   rw [if_pos hc]
   simp only [Bool.and_eq_true, decide_eq_true_eq] at hc
   obtain ⟨hg, h0⟩ := hc
   refine ⟨?_, rfl, hg⟩
   obtain ⟨i, xi, hi, hix⟩ := edgeIndex_get h0
   rw [hix, Int.toNat_natCast]
   have hil := (List.getElem?_eq_some_iff.1 hi).1
   have hri := rise_all (validG_rise hg)
   have hg' := hg
   unfold validG at hg' ⊢
   simp only [Bool.and_eq_true, decide_eq_true_eq] at hg' ⊢
   refine ⟨⟨hg'.1.1, List.all_eq_true.2 fun k hk => ?_⟩, hg'.2.1, ?_⟩
   · have hk := List.mem_range.1 hk
     rw [List.length_append, List.length_take, List.length_drop] at hk
     unfold edgeAt
     rw [del_get hil]
     have hlook : ∀ q y, g.Edges[q]? = some y → edgeOk y (g.Values.length : Int) = true := fun q y hy => by
      have := List.all_eq_true.1 hg'.1.2 q (List.mem_range.2 (List.getElem?_eq_some_iff.1 hy).1)
      unfold edgeAt at this
      rw [hy] at this
      simp only [Bool.and_eq_true] at this
      exact this.1
     by_cases hki : k < i
     · rw [if_pos hki]
       have hy : g.Edges[k]? = some (g.Edges[k]'(by omega)) := List.getElem?_eq_getElem _
       rw [hy]
       simp only [Bool.and_eq_true, Bool.not_eq_true', Bool.and_eq_false_iff, decide_eq_false_iff_not]
       refine ⟨hlook k _ hy, ?_⟩
       by_cases hk0 : k = 0
       · exact .inl (by omega)
       · refine .inr ?_
         have hx : g.Edges[k - 1]? = some (g.Edges[k - 1]'(by omega)) := List.getElem?_eq_getElem _
         rw [del_get hil, if_pos (by omega), hx, Option.getD_some]
         have := hri 0 (k - 1) _ _ hx (by rw [show k - 1 + 0 + 1 = k by omega]; exact hy)
         omega
     · rw [if_neg hki]
       have hy : g.Edges[k + 1]? = some (g.Edges[k + 1]'(by omega)) := List.getElem?_eq_getElem _
       rw [hy]
       simp only [Bool.and_eq_true, Bool.not_eq_true', Bool.and_eq_false_iff, decide_eq_false_iff_not]
       refine ⟨hlook (k + 1) _ hy, ?_⟩
       by_cases hk0 : k = 0
       · exact .inl (by omega)
       · refine .inr ?_
         rw [del_get hil]
         by_cases hk1 : k - 1 < i
         · have hx : g.Edges[k - 1]? = some (g.Edges[k - 1]'(by omega)) := List.getElem?_eq_getElem _
           rw [if_pos hk1, hx, Option.getD_some]
           have := hri 1 (k - 1) _ _ hx (by rw [show k - 1 + 1 + 1 = k + 1 by omega]; exact hy)
           omega
         · have hx : g.Edges[k - 1 + 1]? = some (g.Edges[k - 1 + 1]'(by omega)) := List.getElem?_eq_getElem _
           rw [if_neg hk1, hx, Option.getD_some]
           have := hri 0 (k - 1 + 1) _ _ hx (by rw [show k - 1 + 1 + 0 + 1 = k + 1 by omega]; exact hy)
           omega
   · have := hg'.2.2
     rw [List.length_append, List.length_take, List.length_drop]; omega
 · cases h
end Go.Q
namespace Go.Proofs.YtbkhopfpejhnlaaGreatDoor
open Go.RowKit Go.Q Go.D
theorem specl3Copy (g : TGraph) (hz1 : g.Values.length ≤ 1073741824) (hz2 : g.Edges.length ≤ 1073741824) : FnT Tryz.prog 87 [.agg (cGraph g)] (.a (.agg (cGraph g))) := by
 refine FnT.walk Tryz.func87 U (by kernel_rfl) Tryz.ntmps87 U fun hlen w0 => ?_
 try simp [cEdge, cGraph, cChange, cBatch, cHistory] at hlen
 refine AW.sr ?_
 refine AWl.p (R_boxz U U U (.tm U) (ts := _) (by rfl)) U ?_
 refine AWl.add (R_alloc 2 U U U in83 U U U) U ?_
 refine AWl.nil (AW.seq ?_)
 refine AW.le (σ' := ⟨_, [(0, _), (1, _), (2, _)], [(2, _)]⟩) (Le.sub0 U ⟨U, U, U, Y⟩ ⟨U, Y⟩) ?_
 refine AW.drawK 9 (nthB [[], [], [1], [0, 1, 2], [], [], [5], [0, 1, 2, 3, 4, 5, 6], [0, 1, 2, 3, 4, 5, 6, 7]]) [(3, 3), (7, 7)] (by kernel_rfl) (by kernel_rfl) (by kernel_rfl) ?_
 refine DrawK.step (LocK.of1 U fun σ' hs hf => R_empty 3 U U (hd_sup hs U) Tryz.underlying55 ty3 hf) ?_
 refine DrawK.step (LocK.of U fun σ' hs => (by exact R_fieldAddr U (.no U) (hd_sup hs U) (.tm (hs.slots _ _ U)) fl83_0)) ?_
 refine DrawK.step (LocK.of U fun σ' hs => (by exact R_load U (.no U) (hd_sup hs U) (.tm (hs.slots _ _ U)) ty55 U U)) ?_
 refine DrawK.step (LocK.ofc U U fun σ' hs => R_append (id := 3) U U (hd_sup hs U) (.tm (hs.slots _ _ U)) (hs.res _ _ U) (.tm (hs.slots _ _ U)) (by exact .t) (by exact isV_map (fun _ => rfl) _) Tryz.underlying55 in3 U (by (simp [chunk]; omega)) (by (unfold maxLen; simp [chunk]; omega))) ?_
 refine DrawK.step (LocK.of1 U fun σ' hs hf => R_empty 7 U U (hd_sup hs U) Tryz.underlying81 ty95 hf) ?_
 refine DrawK.step (LocK.of U fun σ' hs => (by exact R_fieldAddr U (.no U) (hd_sup hs U) (.tm (hs.slots _ _ U)) fl83_1)) ?_
 refine DrawK.step (LocK.of U fun σ' hs => (by exact R_load U (.no U) (hd_sup hs U) (.tm (hs.slots _ _ U)) ty81 U U)) ?_
 refine DrawK.step (LocK.ofc U U fun σ' hs => R_append (id := 7) U U (hd_sup hs U) (.tm (hs.slots _ _ U)) (hs.res _ _ U) (.tm (hs.slots _ _ U)) (by exact .t) (by exact isV_map (fun _ => rfl) _) Tryz.underlying81 in95 U (by (simp [chunk]; omega)) (by (unfold maxLen; simp [chunk]; omega))) ?_
 refine DrawK.step (LocK.of U fun σ' hs => R_build (ps := [(0, .tmp 6), (1, .tmp 10)]) U U (hd_sup hs U) in83 U U st83 (.cons (.tm (hs.slots _ _ U)) U U fp83_0 (.cons (.tm (hs.slots _ _ U)) U U fp83_1 .nil)) U) ?_
 refine DrawK.fin U U U ?_
 refine AWl.le (σ' := ⟨_, [(0, _), (1, _), (2, _), (11, _)], [(2, _), (3, _), (7, _)]⟩) (Le.sub0 U ⟨U, U, U, U, Y⟩ ⟨U, U, U, Y⟩) ?_
 refine AWl.chgb (R_store_pb U U U (.tm U) (.tm U) U ty83 U U U (by kernel_rfl) U) ?_
 refine AWl.nil (AW.ret ?_)
 refine Res.one U (.cell U U ty83 U U .nil) U ?_
 rfl
theorem specDeleteEdge (g : TGraph) (id : Int) (hz1 : g.Values.length ≤ 1073741824) (hz2 : g.Edges.length ≤ 1073741824) : FnT Tryz.prog 117 [.agg (cGraph g), .one (.v (.int .i64 id))] (.tup [.agg (cGraph (delG g id).1), .one (.v (.bool (delG g id).2))]) := by
 refine FnT.walk Tryz.func117 U (by kernel_rfl) Tryz.ntmps117 U fun hlen w0 => ?_
 try simp [cEdge, cGraph, cChange, cBatch, cHistory] at hlen
 refine AW.sr ?_
 refine AWl.p (R_boxz U U U (.tm U) (ts := _) (by rfl)) U ?_
 refine AWl.add (R_alloc 4 U U U in83 U U U) U ?_
 refine AWl.ac ?_
 refine AWl.nil (AW.sr ?_)
 refine AWl.p (by exact R_load U (.no U) U (.tm U) ty83 U U) U ?_
 refine AWl.mv ?_
 refine AWl.p (R_callz (FnT.fr (specEdgeIndex g id)) U (.no U) U (.cons (.tm U) U (.cons (.tm U) U .nil))) U ?_
 refine AWl.av ?_
 refine AWl.nil (AW.seq ?_)
 refine AW.sr ?_
 refine AWl.p (by exact R_load U (.no U) U (.tm U) ty83 U U) U ?_
 refine AWl.p (R_callz (FnT.fr (specIsValidGraph g)) U (.no U) U (.cons (.tm U) U .nil)) U ?_
 refine AWl.p (R_not U (.no U) U (.tm U)) U ?_
 refine AWl.mv ?_
 refine AWl.p (R_move U (by exact .not1 U U U U) U (.tmp U (by exact fun _ => rfl))) U ?_
 refine AWl.p (R_lt U (by exact .not1 U U U U) U (.tmp U (by simp)) (.const U)) U ?_
 refine AWl.p (R_or U (.no U) U (.tm U) (.tmp U (by simp))) U ?_
 refine AWl.nil ?_
 refine AW.cond (.tm U) (fun h17 => ?_) (fun h17 => ?_)
 · skip
   try simp at h17
   have hc : (validG g && decide (0 ≤ edgeIndex g id)) = false := by (rcases h17 with h | h; (rw [h]; rfl); (rw [decide_eq_false (by omega), Bool.and_false]))
   refine AW.seq ?_
   refine AW.le (σ' := ⟨_, [(0, _), (1, _), (2, _), (4, _), (5, _), (6, _)], [(4, _)]⟩) (Le.sub0 U ⟨U, U, U, U, U, U, Y⟩ ⟨U, Y⟩) ?_
   refine AW.region ?_
   refine AWl.p (by exact R_load U (.no U) U (.tm U) ty83 U U) U ?_
   refine AWl.adds (R_call 1900 (specl3Copy g hz1 hz2) U U U (.cons (.tm U) U .nil) U U) U ?_
   refine AWl.chgb (R_store_pb U U U (.tm U) (.tm U) U ty83 U U U (by kernel_rfl) U) ?_
   refine AWl.le (σ' := ⟨_, [(0, _), (1, _), (2, _), (4, _), (5, _), (6, _)], [(4, _), (1900, _), (1901, _)]⟩) (Le.sub0 U ⟨U, U, U, U, U, U, Y⟩ ⟨U, U, U, Y⟩) ?_
   refine AWl.ac ?_
   refine AWl.nil (AW.ret ?_)
   refine Res.many U (.cell U U ty83 U U (.tmp U .nil)) U ?_ (by simp)
   unfold delG; rw [hc]; rfl
 · skip
   try simp at h17
   have hc : (validG g && decide (0 ≤ edgeIndex g id)) = true := by (rw [h17.1, decide_eq_true (by omega)]; rfl)
   obtain ⟨i, xi, hgi, hix⟩ := edgeIndex_get (g := g) (id := id) (by omega)
   have hil := (List.getElem?_eq_some_iff.1 hgi).1
   refine AW.skip ?_
   refine AW.seq ?_
   refine AW.le (σ' := ⟨_, [(0, _), (1, _), (2, _), (4, _), (5, _), (6, _)], [(4, _)]⟩) (Le.sub0 U ⟨U, U, U, U, U, U, Y⟩ ⟨U, Y⟩) ?_
   refine AW.region ?_
   refine AWl.add (R_empty 20 U U U Tryz.underlying55 ty3 U) U ?_
   refine AWl.p (by exact R_fieldAddr U (.no U) U (.tm U) fl83_0) U ?_
   refine AWl.p (by exact R_load U (.no U) U (.tm U) ty55 U U) U ?_
   refine AWl.chgput (R_append U U U (.tm U) U (.tm U) (by exact .t) (by exact isV_map (fun _ => rfl) _) Tryz.underlying55 in3 U (by (simp [chunk]; omega)) (by (unfold maxLen; simp [chunk]; omega))) U ?_
   refine AWl.le (σ' := ⟨_, [(0, _), (1, _), (2, _), (4, _), (5, _), (6, _), (23, _)], [(4, _), (20, _)]⟩) (Le.sub0 U ⟨U, U, U, U, U, U, U, Y⟩ ⟨U, U, Y⟩) ?_
   refine AWl.p (R_build (ps := [(0, .tmp 23)]) U U U in83 U U st83 (.cons (.tm U) U U fp83_0 .nil) U) U ?_
   refine AWl.nilA (i := 24) 20001 4 1 U U U ?_
   refine AWl.add (R_alloc 7 U U U in83 U U U) U ?_
   refine AWl.chgb (R_store_pb U U U (.tm U) (.tm U) U ty83 U U U (by kernel_rfl) U) ?_
   refine AWl.nil (AW.seq ?_)
   refine AW.le (σ' := ⟨_, [(0, _), (1, _), (2, _), (4, _), (5, _), (6, _), (7, _), (23, _), (24, _)], [(4, _), (20, _), (20001, _), (7, _)]⟩) (Le.sub0 U ⟨U, U, U, U, U, U, U, U, U, Y⟩ ⟨U, U, U, U, Y⟩) ?_
   refine AW.drawK 13 (nthB [[], [], [1], [], [1, 2, 3], [0, 1, 2, 3, 4], [], [6], [], [8], [6, 7, 8, 9], [0, 1, 2, 3, 4, 5, 6, 7, 8, 9, 10], [0, 1, 2, 3, 4, 5, 6, 7, 8, 9, 10, 11]]) [(5, 25), (11, 25)] (by kernel_rfl) (by kernel_rfl) (by kernel_rfl) ?_
   refine DrawK.step (LocK.of1 U fun σ' hs hf => R_empty 25 U U (hd_sup hs U) Tryz.underlying81 ty95 hf) ?_
   refine DrawK.step (LocK.of U fun σ' hs => (by exact R_fieldAddr U (.no U) (hd_sup hs U) (.tm (hs.slots _ _ U)) fl83_1)) ?_
   refine DrawK.step (LocK.of U fun σ' hs => (by exact R_load U (.no U) (hd_sup hs U) (.tm (hs.slots _ _ U)) ty81 U U)) ?_
   refine DrawK.step (LocK.of U fun σ' hs => R_move U (.no U) (hd_sup hs U) (.tm (hs.slots _ _ U))) ?_
   refine DrawK.step (LocK.of U fun σ' hs => R_slice (m := (edgeIndex g id).toNat) U (.no U) (hd_sup hs U) (.tm (hs.slots _ _ U)) .no (.yes (.tm (hs.slots _ _ U)) (fun _ => by first | omega | (simp <;> omega))) Tryz.underlying81 ty95 (fun _ => ⟨by omega, by first | omega | (simp; omega)⟩)) ?_
   refine DrawK.step (LocK.ofc U U fun σ' hs => R_append (id := 25) U U (hd_sup hs U) (.tm (hs.slots _ _ U)) (hs.res _ _ U) (.tm (hs.slots _ _ U)) (by exact .t) (by exact isV_part (fun _ => rfl) _ _ _) Tryz.underlying81 in95 U (by (simp [chunk]; omega)) (by (unfold maxLen; simp [chunk]; omega))) ?_
   refine DrawK.step (LocK.of U fun σ' hs => (by exact R_fieldAddr U (.no U) (hd_sup hs U) (.tm (hs.slots _ _ U)) fl83_1)) ?_
   refine DrawK.step (LocK.of U fun σ' hs => (by exact R_load U (.no U) (hd_sup hs U) (.tm (hs.slots _ _ U)) ty81 U U)) ?_
   refine DrawK.step (LocK.of U fun σ' hs => R_move U (.no U) (hd_sup hs U) (.tm (hs.slots _ _ U))) ?_
   refine DrawK.step (LocK.of U fun σ' hs => R_add U (.no U) (hd_sup hs U) (.tm (hs.slots _ _ U)) (.const U) (fun _ => by omega)) ?_
   refine DrawK.step (LocK.of U fun σ' hs => R_slice (n := ((edgeIndex g id).toNat + 1)) U (.no U) (hd_sup hs U) (.tm (hs.slots _ _ U)) (.yes (.tm (hs.slots _ _ U)) (fun _ => by first | omega | (simp <;> omega))) .no Tryz.underlying81 ty95 (fun _ => ⟨by simp; omega, by simp⟩)) ?_
   refine DrawK.step (LocK.ofc U U fun σ' hs => R_append (id := 25) U U (hd_sup hs U) (.tm (hs.slots _ _ U)) (hs.res _ _ U) (.tm (hs.slots _ _ U)) (by exact .t) (by exact isV_part (fun _ => rfl) _ _ _) Tryz.underlying81 in95 U (by (simp [chunk]; omega)) (by (unfold maxLen; simp [chunk]; omega))) ?_
   refine DrawK.step (LocK.of U fun σ' hs => (by exact R_fieldAddr_pp U (.no U) (hd_sup hs U) (.tm (hs.slots _ _ U)) fl83_1)) ?_
   refine DrawK.fin U U U ?_
   refine AWl.le (σ' := ⟨_, [(0, _), (1, _), (2, _), (4, _), (5, _), (6, _), (7, _), (36, _), (37, _)], [(4, _), (20, _), (20001, _), (7, _), (25, _)]⟩) (Le.sub0 U ⟨U, U, U, U, U, U, U, U, U, Y⟩ ⟨U, U, U, U, U, Y⟩) ?_
   refine AWl.chgb (R_store_pb U U U (.tm U) (.tm U) U ty81 U U U (by kernel_rfl) U) ?_
   refine AWl.nil (AW.sr ?_)
   refine AWl.p (by exact R_load_pp U (.no U) U (.tm U) U ty83 U U) U ?_
   refine AWl.chgb (R_store_pb U U U (.tm U) (.tm U) U ty83 U U U (by kernel_rfl) U) ?_
   refine AWl.le (σ' := ⟨_, [(0, _), (1, _), (2, _), (4, _), (5, _), (6, _), (7, _)], [(4, _), (20, _), (20001, _), (7, _), (25, _)]⟩) (Le.sub0 U ⟨U, U, U, U, U, U, U, Y⟩ ⟨U, U, U, U, U, Y⟩) ?_
   refine AWl.ac ?_
   refine AWl.nil (AW.ret ?_)
   refine Res.many U (.cell U U ty83 U U (.tmp U .nil)) U ?_ (by simp)
   unfold delG; rw [hc]; refine congrArg (fun r => [V0.agg [T.sl 1 (g.Values.map cInt), T.sl 4 r], V0.one (T.v (.bool true))]) ?_; simp [List.map_take, List.map_drop]; rw [List.take_of_length_le (by simp)]
end Go.Proofs.YtbkhopfpejhnlaaGreatDoor
