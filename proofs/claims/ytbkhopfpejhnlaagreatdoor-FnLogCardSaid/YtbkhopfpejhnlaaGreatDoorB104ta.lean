import Derived.Test.YtbkhopfpejhnlaaGreatDoorB103ta
set_option linter.unusedVariables false
set_option linter.unusedSimpArgs false
set_option maxHeartbeats 1000000
set_option maxRecDepth 100000
namespace Go.Q
open Go.D
theorem chg_ins {g : TGraph} {c : TChange} (h : c.Insert = true) : chgG g c = insG g c.Edge := by unfold chgG; rw [if_pos h]
theorem chg_del {g : TGraph} {c : TChange} (h : c.Insert = false) (hm : c.Edge ∈ g.Edges) : chgG g c = delG g c.Edge.ID := by unfold chgG; rw [if_neg (by rw [h]; decide), if_pos hm]
theorem chg_non {g : TGraph} {c : TChange} (h : c.Insert = false) (hm : c.Edge ∉ g.Edges) : chgG g c = (g, false) := by unfold chgG; rw [if_neg (by rw [h]; decide), if_neg hm]
theorem edges_12 {g : TGraph} (h : validG g = true) : g.Edges.length ≤ 12 ∧ g.Values.length ≤ 5 := by
 unfold validG inB at h
 simp only [Bool.and_eq_true, decide_eq_true_eq] at h
 omega
theorem applyB_bad {g G : TGraph} {b : TBatch} {k : Nat} {x : TChange} (he : runL g b.Changes = runL G (b.Changes.drop k)) (hx : b.Changes[k]? = some x) (h : (chgG G x).2 = false) : applyB g b = (g, false) :=
 applyB_no (.inr (.inr (by rw [he]; exact runL_bad hx h)))
theorem applyB_end {g G : TGraph} {b : TBatch} {k : Nat} (hg : validG g = true) (h6 : b.Changes.length ≤ 6) (he : runL g b.Changes = runL G (b.Changes.drop k)) (hk : b.Changes.length ≤ k) : applyB g b = (G, true) := by
 rw [List.drop_of_length_le hk] at he
 unfold applyB
 rw [he]
 unfold runL
 rw [if_pos ⟨hg, h6, rfl⟩]
theorem idx_row {g : TGraph} {id : Int} (h : 0 ≤ edgeIndex g id) : g.Edges[(edgeIndex g id).toNat]? = some (g.Edges[(edgeIndex g id).toNat]?.getD dE) := by
 obtain ⟨k, x, h1, h2⟩ := edgeIndex_get h
 rw [h2, Int.toNat_natCast, h1]; rfl
theorem idx_in {g : TGraph} (hg : validG g = true) {e : TEdge} (h : 0 ≤ edgeIndex g e.ID) (h2 : g.Edges[(edgeIndex g e.ID).toNat]?.getD dE = e) : e ∈ g.Edges := by
 have := idx_row h
 rw [h2] at this
 exact List.mem_of_getElem? this
theorem idx_out {g : TGraph} (hg : validG g = true) {e : TEdge} (h : edgeIndex g e.ID < 0 ∨ g.Edges[(edgeIndex g e.ID).toNat]?.getD dE ≠ e) : e ∉ g.Edges := fun hm => by
 obtain ⟨k, h1, h2⟩ := (mem_index hg).1 hm
 rcases h with h | h
 · omega
 · rw [h1, Int.toNat_natCast, h2] at h; exact h rfl
theorem edge_same {x y : TEdge} (h : ((x.ID = y.ID ∧ x.From = y.From) ∧ x.To = y.To) ∧ x.Label = y.Label) : x = y := by
 cases x; cases y; simp_all
theorem edge_diff {x y : TEdge} (h : ((¬ x.ID = y.ID ∨ ¬ x.From = y.From) ∨ ¬ x.To = y.To) ∨ ¬ x.Label = y.Label) : x ≠ y := by
 rintro rfl; simp at h
end Go.Q
namespace Go.Proofs.YtbkhopfpejhnlaaGreatDoor
open Go.RowKit Go.Q Go.D
theorem specl6Apply (g : TGraph) (b : TBatch) (hg : validG g = true) (h6 : b.Changes.length ≤ 6) (hz1 : g.Values.length ≤ 1073741824) (hz2 : g.Edges.length ≤ 1048576) : FnT Tryz.prog 89 [.agg (cGraph g), .agg (cBatch b)] (.tup [.agg (cGraph (applyB g b).1), .one (.v (.bool (applyB g b).2))]) := by
 refine FnT.walk Tryz.func89 U (by kernel_rfl) Tryz.ntmps89 U fun hlen w0 => ?_
 try simp [cEdge, cGraph, cChange, cBatch, cHistory] at hlen
 refine AW.sr ?_
 refine AWl.p (R_boxz U U U (.tm U) (ts := _) (by rfl)) U ?_
 refine AWl.p (R_boxz U U U (.tm U) (ts := _) (by rfl)) U ?_
 refine AWl.add (R_alloc 4 U U U in83 U U U) U ?_
 refine AWl.ac ?_
 refine AWl.nil (AW.sr ?_)
 refine AWl.p (by exact R_load U (.no U) U (.tm U) ty83 U U) U ?_
 refine AWl.adds (R_call 1500 (specl3Copy g hz1 (by omega)) U U U (.cons (.tm U) U .nil) U U) U ?_
 refine AWl.add (R_alloc 6 U U U in83 U U U) U ?_
 refine AWl.chgb (R_store_pb U U U (.tm U) (.tm U) U ty83 U U U (by kernel_rfl) U) ?_
 refine AWl.nil (AW.seq ?_)
 refine AW.sr ?_
 refine AWl.ac ?_
 refine AWl.nil (AW.block ?_)
 refine AW.loop2 (fun (k : Nat) (G : TGraph) => (k ≤ b.Changes.length ∧ validG G = true) ∧ runL g b.Changes = runL G (b.Changes.drop k)) (fun (k : Nat) (G : TGraph) => ⟨_, [(7, (true, .a (.one (.t (.v (.int .i64 (k : Nat))))))), (2, _), (3, _), (4, _), (6, _)], [(4, .box [.t (.v (.slice none 0 0)), .t (.v (.slice none 0 0))]), (6, .box [.rf 1500, .rf 1501]), (1500, .row 1 (G.Values.map cInt)), (1501, .row 4 (G.Edges.map cEdge))]⟩) (fun (k : Nat) (G : TGraph) => b.Changes.length - k) (0) (g) ⟨⟨Nat.zero_le _, hg⟩, U⟩ (Le.sub0 U ⟨U, U, U, U, U, Y⟩ ⟨U, U, U, U, Y⟩) ?_
 rintro k G ⟨hk, he⟩
 refine AW.seq ?_
 refine AW.sr ?_
 refine AWl.mv ?_
 refine AWl.p (by exact R_fieldAddr U (.no U) U (.tm U) fl47_0) U ?_
 refine AWl.p (by exact R_load U (.no U) U (.tm U) ty45 U U) U ?_
 refine AWl.p (by exact R_lenm U (.no U) U (.tm U) (by exact .t) Tryz.underlying45) U ?_
 refine AWl.p (R_lt U (.no U) U (.tm U) (.tm U)) U ?_
 refine AWl.mv ?_
 refine AWl.p (R_move U (by exact .yes1 U U U U) U (.tmp U (by exact fun _ => rfl))) U ?_
 refine AWl.p (R_le U (by exact .yes1 U U U U) U (.tmp U (by exact id)) (.const U)) U ?_
 refine AWl.p (R_and U (.no U) U (.tm U) (.tmp U (by exact id))) U ?_
 refine AWl.nil ?_
 refine AW.cond (.tm U) (fun h24 => ?_) (fun h24 => ?_)
 · skip
   try simp at h24
   obtain ⟨c, hc⟩ : ∃ ξ, b.Changes[k]? = some ξ := ⟨_, List.getElem?_eq_getElem (by omega)⟩
   have h12 := edges_12 hk.2
   refine AW.skip ?_
   refine AW.seq ?_
   refine AW.block ?_
   refine AW.seq ?_
   refine AW.le (σ' := ⟨_, [(2, _), (3, _), (4, _), (6, _), (7, _)], [(4, _), (6, _), (1500, _), (1501, _)]⟩) (Le.sub0 U ⟨U, U, U, U, U, Y⟩ ⟨U, U, U, U, Y⟩) ?_
   refine AW.region ?_
   refine AWl.p (by exact R_fieldAddr U (.no U) U (.tm U) fl47_0) U ?_
   refine AWl.p (by exact R_load U (.no U) U (.tm U) ty45 U U) U ?_
   refine AWl.mv ?_
   refine AWl.p (by exact R_indexAddr U (.no U) U (.tm U) (.tm U) Tryz.underlying45 ty97 (fun _ => ⟨by omega, (map_get hc)⟩)) U ?_
   refine AWl.p (by exact R_fieldAddr U (.no U) U (.tm U) fl97_1) U ?_
   refine AWl.p (by exact R_load U (.no U) U (.tm U) ty95 U U) U ?_
   refine AWl.add (R_alloc 8 U U U in95 U U U) U ?_
   refine AWl.chgb (R_store_pb U U U (.tm U) (.tm U) U ty95 U U U (by kernel_rfl) U) ?_
   refine AWl.nil (AW.seq ?_)
   refine AW.seq ?_
   refine AW.le (σ' := ⟨_, [(2, _), (3, _), (4, _), (6, _), (7, _), (8, _)], [(4, _), (6, _), (1500, _), (1501, _), (8, _)]⟩) (Le.sub0 U ⟨U, U, U, U, U, U, Y⟩ ⟨U, U, U, U, U, Y⟩) ?_
   refine AW.region ?_
   refine AWl.p (by exact R_fieldAddr U (.no U) U (.tm U) fl47_0) U ?_
   refine AWl.p (by exact R_load U (.no U) U (.tm U) ty45 U U) U ?_
   refine AWl.mv ?_
   refine AWl.p (by exact R_indexAddr U (.no U) U (.tm U) (.tm U) Tryz.underlying45 ty97 (fun _ => ⟨by omega, (map_get hc)⟩)) U ?_
   refine AWl.p (by exact R_fieldAddr U (.no U) U (.tm U) fl97_0) U ?_
   refine AWl.p (by exact R_load U (.no U) U (.tm U) ty4 U U) U ?_
   refine AWl.nil ?_
   refine AW.cond (.tm U) (fun h38 => ?_) (fun h38 => ?_)
   · skip
     try simp at h38
     refine AW.seq ?_
     refine AW.le (σ' := ⟨_, [(2, _), (3, _), (4, _), (6, _), (7, _), (8, _)], [(4, _), (6, _), (1500, _), (1501, _), (8, _)]⟩) (Le.sub0 U ⟨U, U, U, U, U, U, Y⟩ ⟨U, U, U, U, U, Y⟩) ?_
     refine AW.region ?_
     refine AWl.p (by exact R_load_pp U (.no U) U (.tm U) U ty83 U U) U ?_
     refine AWl.p (by exact R_load_pp U (.no U) U (.tm U) U ty95 U U) U ?_
     refine AWl.adds (R_call 4200 (specInsertEdge G c.Edge (by omega) (by omega)) U U U (.cons (.tm U) U (.cons (.tm U) U .nil)) U U) U ?_
     refine AWl.p (R_movet U (.no U) U U fun _ => rfl) U ?_
     refine AWl.p (R_extract U (.no U) U U (fun _ => rfl) U) U ?_
     refine AWl.p (R_extract U (.no U) U U (fun _ => rfl) U) U ?_
     refine AWl.add (R_alloc 9 U U U in83 U U U) U ?_
     refine AWl.chgb (R_store_pb U U U (.tm U) (.tm U) U ty83 U U U (by kernel_rfl) U) ?_
     refine AWl.le (σ' := ⟨_, [(2, _), (3, _), (4, _), (6, _), (7, _), (8, _), (9, _), (44, _)], [(4, _), (6, _), (1500, _), (1501, _), (8, _), (4200, _), (4201, _), (9, _)]⟩) (Le.sub0 U ⟨U, U, U, U, U, U, U, U, Y⟩ ⟨U, U, U, U, U, U, U, U, Y⟩) ?_
     refine AWl.av ?_
     refine AWl.nil (AW.seq ?_)
     refine AW.sr ?_
     refine AWl.mv ?_
     refine AWl.p (R_not U (.no U) U (.tm U)) U ?_
     refine AWl.nil ?_
     refine AW.cond (.tm U) (fun h46 => ?_) (fun h46 => ?_)
     · skip
       try simp at h46
       refine AW.sr ?_
       refine AWl.p (by exact R_load U (.no U) U (.tm U) ty83 U U) U ?_
       refine AWl.adds (R_call 4800 (specl3Copy g hz1 (by omega)) U U U (.cons (.tm U) U .nil) U U) U ?_
       refine AWl.chgb (R_store_pb U U U (.tm U) (.tm U) U ty83 U U U (by kernel_rfl) U) ?_
       refine AWl.le (σ' := ⟨_, [(2, _), (3, _), (4, _), (6, _), (7, _), (8, _), (9, _), (10, _), (46, _)], [(4, _), (6, _), (1500, _), (1501, _), (8, _), (4200, _), (4201, _), (9, _), (4800, _), (4801, _)]⟩) (Le.sub0 U ⟨U, U, U, U, U, U, U, U, U, Y⟩ ⟨U, U, U, U, U, U, U, U, U, U, Y⟩) ?_
       refine AWl.ac ?_
       refine AWl.nil (AW.ret ?_)
       refine Res.many U (.cell U U ty83 U U (.tmp U .nil)) U ?_ (by simp)
       rw [applyB_bad he hc (by rw [chg_ins h38]; simpa using h46)]; rfl
     · skip
       try simp at h46
       refine AW.skip ?_
       refine AW.sr ?_
       refine AWl.p (by exact R_load_pp U (.no U) U (.tm U) U ty83 U U) U ?_
       refine AWl.chgb (R_store_pb U U U (.tm U) (.tm U) U ty83 U U U (by kernel_rfl) U) ?_
       refine AWl.nil ?_
       refine AW.exit ?_
       refine AW.le (Le.sw 1500 4200 _) ?_
       refine AW.le (Le.sw 1501 4201 _) ?_
       refine AW.region ?_
       refine AWl.mv ?_
       refine AWl.p (R_add U (.no U) U (.tm U) (.const U) (fun _ => by omega)) U ?_
       refine AWl.av ?_
       refine AWl.nil ?_
       repeat (with_reducible refine BlockQ.nor ?_)
       refine Round2.next (k + 1) ((insG G c.Edge).1) ⟨⟨by omega, (insG_valid (by simpa using h46)).1⟩, (by rw [he, runL_at hc (by rw [chg_ins h38]; simpa using h46), chg_ins h38])⟩ (by omega) (Le.sub0 rfl ⟨rfl, rfl, rfl, rfl, rfl, Y⟩ ⟨(by rfl), (by rfl), (by rfl), (by rfl), Y⟩)
   · skip
     try simp at h38
     refine AW.skip ?_
     refine AW.seq ?_
     refine AW.le (σ' := ⟨_, [(2, _), (3, _), (4, _), (6, _), (7, _), (8, _)], [(4, _), (6, _), (1500, _), (1501, _), (8, _)]⟩) (Le.sub0 U ⟨U, U, U, U, U, U, Y⟩ ⟨U, U, U, U, U, Y⟩) ?_
     refine AW.region ?_
     refine AWl.p (by exact R_load_pp U (.no U) U (.tm U) U ty83 U U) U ?_
     refine AWl.p (by exact R_fieldAddr_pp U (.no U) U (.tm U) fl95_0) U ?_
     refine AWl.p (by exact R_load_pp U (.no U) U (.tm U) U ty3 U U) U ?_
     refine AWl.p (R_callz (FnT.fr (specEdgeIndex G c.Edge.ID)) U (.no U) U (.cons (.tm U) U (.cons (.tm U) U .nil))) U ?_
     refine AWl.av ?_
     refine AWl.nil (AW.seq ?_)
     refine AW.seq ?_
     refine AW.drawn 11 (nthB [[], [0], [0, 1], [0, 1, 2], [0, 1, 2, 3], [0, 1, 2], [0, 1, 2, 3, 4, 5], [0, 1, 2, 3, 4, 5, 6], [0, 1, 2], [0, 1, 2, 3, 4, 5, 6, 7, 8], [0, 1, 2, 3, 4, 5, 6, 7, 8, 9]]) (by kernel_rfl) (by kernel_rfl) (by kernel_rfl) ?_
     refine DrawC.step U U U (Loc.of U fun σ' hs => R_move U (.no U) (hd_sup hs U) (.tm (hs.slots _ _ U))) ?_
     refine DrawC.step U U U (Loc.of U fun σ' hs => R_lt U (.no U) (hd_sup hs U) (.tm (hs.slots _ _ U)) (.const U)) ?_
     refine DrawC.step U U U (Loc.of U fun σ' hs => R_move U (.no U) (hd_sup hs U) (.tm (hs.slots _ _ U))) ?_
     refine DrawC.step U U U (Loc.of U fun σ' hs => (by exact R_fieldAddr_pp U (by exact .not1 U U (hs.slots _ _ U) (by rw [hs.n]; rfl)) (hd_sup hs U) (.tmp (hs.slots _ _ U) (by exact fun _ => rfl)) fl83_1)) ?_
     refine DrawC.step U U U (Loc.of U fun σ' hs => (by exact R_load_pp U (by exact .not1 U U (hs.slots _ _ U) (by rw [hs.n]; rfl)) (hd_sup hs U) (.tmp (hs.slots _ _ U) (by exact id)) (hs.res _ _ U) ty81 U U)) ?_
     refine DrawC.step U U U (Loc.of U fun σ' hs => R_move U (by exact .not1 U U (hs.slots _ _ U) (by rw [hs.n]; rfl)) (hd_sup hs U) (.tmp (hs.slots _ _ U) (by exact fun _ => rfl))) ?_
     refine DrawC.step U U U (Loc.of U fun σ' hs => (by exact R_indexAddr_rf U (by exact .not1 U U (hs.slots _ _ U) (by rw [hs.n]; rfl)) (hd_sup hs U) (.tmp (hs.slots _ _ U) (by exact id)) (hs.res _ _ U) (.tmp (hs.slots _ _ U) (by exact id)) Tryz.underlying81 ty95 (fun hq => ⟨by simp at hq; omega, map_get (idx_row (by simp at hq; omega))⟩))) ?_
     refine DrawC.step U U U (Loc.of U fun σ' hs => (by exact R_load_prq U (by exact .not1 U U (hs.slots _ _ U) (by rw [hs.n]; rfl)) (hd_sup hs U) (.tmp (hs.slots _ _ U) (by exact id)) (hs.res _ _ U) (fun hq => map_get (idx_row (by simp at hq; omega))) ty95 U U)) ?_
     refine DrawC.step U U U (Loc.of U fun σ' hs => (by exact R_load_pp U (by exact .not1 U U (hs.slots _ _ U) (by rw [hs.n]; rfl)) (hd_sup hs U) (.tmp (hs.slots _ _ U) (by exact fun _ => rfl)) (hs.res _ _ U) ty95 U U)) ?_
     refine DrawC.step U U U (Loc.of U fun σ' hs => R_eqs U (by exact .not1 U U (hs.slots _ _ U) (by rw [hs.n]; rfl)) (hd_sup hs U) (.tmp (hs.slots _ _ U) (by exact id)) (.tmp (hs.slots _ _ U) (by exact id)) U U (by kernel_rfl) (neS95 _ _ _ _ _ _ _ _)) ?_
     refine DrawC.step U U U (Loc.of U fun σ' hs => R_or U (.no U) (hd_sup hs U) (.tm (hs.slots _ _ U)) (.tmp (hs.slots _ _ U) (by exact id))) ?_
     refine DrawC.fin U U ?_
     refine AWl.nil ?_
     refine AW.cond (.tm U) (fun h64 => ?_) (fun h64 => ?_)
     · skip
       try simp at h64
       have hout : c.Edge ∉ G.Edges := idx_out hk.2 (h64.imp id edge_diff)
       refine AW.seq ?_
       refine AW.le (σ' := ⟨_, [(2, _), (3, _), (4, _), (6, _), (7, _), (8, _), (11, _)], [(4, _), (6, _), (1500, _), (1501, _), (8, _)]⟩) (Le.sub0 U ⟨U, U, U, U, U, U, U, Y⟩ ⟨U, U, U, U, U, Y⟩) ?_
       refine AW.region ?_
       refine AWl.p (by exact R_load U (.no U) U (.tm U) ty83 U U) U ?_
       refine AWl.adds (R_call 6600 (specl3Copy g hz1 (by omega)) U U U (.cons (.tm U) U .nil) U U) U ?_
       refine AWl.chgb (R_store_pb U U U (.tm U) (.tm U) U ty83 U U U (by kernel_rfl) U) ?_
       refine AWl.le (σ' := ⟨_, [(2, _), (3, _), (4, _), (6, _), (7, _), (8, _), (11, _)], [(4, _), (6, _), (1500, _), (1501, _), (8, _), (6600, _), (6601, _)]⟩) (Le.sub0 U ⟨U, U, U, U, U, U, U, Y⟩ ⟨U, U, U, U, U, U, U, Y⟩) ?_
       refine AWl.ac ?_
       refine AWl.nil (AW.ret ?_)
       refine Res.many U (.cell U U ty83 U U (.tmp U .nil)) U ?_ (by simp)
       rw [applyB_bad he hc (by rw [chg_non h38 hout])]; rfl
     · skip
       try simp at h64
       have hin : c.Edge ∈ G.Edges := idx_in hk.2 h64.1 (edge_same h64.2)
       refine AW.skip ?_
       refine AW.seq ?_
       refine AW.le (σ' := ⟨_, [(2, _), (3, _), (4, _), (6, _), (7, _), (8, _), (11, _)], [(4, _), (6, _), (1500, _), (1501, _), (8, _)]⟩) (Le.sub0 U ⟨U, U, U, U, U, U, U, Y⟩ ⟨U, U, U, U, U, Y⟩) ?_
       refine AW.region ?_
       refine AWl.p (by exact R_load_pp U (.no U) U (.tm U) U ty83 U U) U ?_
       refine AWl.p (by exact R_fieldAddr_pp U (.no U) U (.tm U) fl95_0) U ?_
       refine AWl.p (by exact R_load_pp U (.no U) U (.tm U) U ty3 U U) U ?_
       refine AWl.adds (R_call 7100 (specDeleteEdge G c.Edge.ID (by omega) (by omega)) U U U (.cons (.tm U) U (.cons (.tm U) U .nil)) U U) U ?_
       refine AWl.p (R_movet U (.no U) U U fun _ => rfl) U ?_
       refine AWl.p (R_extract U (.no U) U U (fun _ => rfl) U) U ?_
       refine AWl.p (R_extract U (.no U) U U (fun _ => rfl) U) U ?_
       refine AWl.add (R_alloc 12 U U U in83 U U U) U ?_
       refine AWl.chgb (R_store_pb U U U (.tm U) (.tm U) U ty83 U U U (by kernel_rfl) U) ?_
       refine AWl.le (σ' := ⟨_, [(2, _), (3, _), (4, _), (6, _), (7, _), (8, _), (11, _), (12, _), (73, _)], [(4, _), (6, _), (1500, _), (1501, _), (8, _), (7100, _), (7101, _), (12, _)]⟩) (Le.sub0 U ⟨U, U, U, U, U, U, U, U, U, Y⟩ ⟨U, U, U, U, U, U, U, U, Y⟩) ?_
       refine AWl.av ?_
       refine AWl.nil (AW.seq ?_)
       refine AW.sr ?_
       refine AWl.mv ?_
       refine AWl.p (R_not U (.no U) U (.tm U)) U ?_
       refine AWl.nil ?_
       refine AW.cond (.tm U) (fun h75 => ?_) (fun h75 => ?_)
       · skip
         try simp at h75
         refine AW.sr ?_
         refine AWl.p (by exact R_load U (.no U) U (.tm U) ty83 U U) U ?_
         refine AWl.adds (R_call 7700 (specl3Copy g hz1 (by omega)) U U U (.cons (.tm U) U .nil) U U) U ?_
         refine AWl.chgb (R_store_pb U U U (.tm U) (.tm U) U ty83 U U U (by kernel_rfl) U) ?_
         refine AWl.le (σ' := ⟨_, [(2, _), (3, _), (4, _), (6, _), (7, _), (8, _), (11, _), (12, _), (13, _), (75, _)], [(4, _), (6, _), (1500, _), (1501, _), (8, _), (7100, _), (7101, _), (12, _), (7700, _), (7701, _)]⟩) (Le.sub0 U ⟨U, U, U, U, U, U, U, U, U, U, Y⟩ ⟨U, U, U, U, U, U, U, U, U, U, Y⟩) ?_
         refine AWl.ac ?_
         refine AWl.nil (AW.ret ?_)
         refine Res.many U (.cell U U ty83 U U (.tmp U .nil)) U ?_ (by simp)
         rw [applyB_bad he hc (by rw [chg_del h38 hin]; simpa using h75)]; rfl
       · skip
         try simp at h75
         refine AW.skip ?_
         refine AW.region ?_
         refine AWl.p (by exact R_load_pp U (.no U) U (.tm U) U ty83 U U) U ?_
         refine AWl.chgb (R_store_pb U U U (.tm U) (.tm U) U ty83 U U U (by kernel_rfl) U) ?_
         refine AWl.nil ?_
         refine AW.le (Le.sw 1500 7100 _) ?_
         refine AW.le (Le.sw 1501 7101 _) ?_
         refine AW.region ?_
         refine AWl.mv ?_
         refine AWl.p (R_add U (.no U) U (.tm U) (.const U) (fun _ => by omega)) U ?_
         refine AWl.av ?_
         refine AWl.nil ?_
         repeat (with_reducible refine BlockQ.nor ?_)
         refine Round2.next (k + 1) ((delG G c.Edge.ID).1) ⟨⟨by omega, (delG_valid (by simpa using h75)).1⟩, (by rw [he, runL_at hc (by rw [chg_del h38 hin]; simpa using h75), chg_del h38 hin])⟩ (by omega) (Le.sub0 rfl ⟨rfl, rfl, rfl, rfl, rfl, Y⟩ ⟨(by rfl), (by rfl), (by rfl), (by rfl), Y⟩)
 · skip
   try simp at h24
   refine AW.exit ?_
   refine AW.seq ?_
   refine AW.le (σ' := ⟨_, [(2, _), (3, _), (4, _), (6, _), (7, _)], [(4, _), (6, _), (1500, _), (1501, _)]⟩) (Le.sub0 U ⟨U, U, U, U, U, Y⟩ ⟨U, U, U, U, Y⟩) ?_
   refine AW.region ?_
   refine AWl.p (by exact R_load_pp U (.no U) U (.tm U) U ty83 U U) U ?_
   refine AWl.chgb (R_store_pb U U U (.tm U) (.tm U) U ty83 U U U (by kernel_rfl) U) ?_
   refine AWl.le (σ' := ⟨_, [(2, _), (3, _), (4, _), (6, _), (7, _)], [(4, _), (6, _), (1500, _), (1501, _)]⟩) (Le.sub0 U ⟨U, U, U, U, U, Y⟩ ⟨U, U, U, U, Y⟩) ?_
   refine AWl.ac ?_
   refine AWl.nil (AW.ret ?_)
   refine Res.many U (.cell U U ty83 U U (.tmp U .nil)) U ?_ (by simp)
   rw [applyB_end hg h6 he (by omega)]; rfl
theorem specApplyBatch (g : TGraph) (b : TBatch) (hz1 : g.Values.length ≤ 1073741824) (hz2 : g.Edges.length ≤ 1048576) : FnT Tryz.prog 129 [.agg (cGraph g), .agg (cBatch b)] (.tup [.agg (cGraph (applyB g b).1), .one (.v (.bool (applyB g b).2))]) := by
 refine FnT.walk Tryz.func129 U (by kernel_rfl) Tryz.ntmps129 U fun hlen w0 => ?_
 try simp [cEdge, cGraph, cChange, cBatch, cHistory] at hlen
 refine AW.sr ?_
 refine AWl.p (R_boxz U U U (.tm U) (ts := _) (by rfl)) U ?_
 refine AWl.p (R_boxz U U U (.tm U) (ts := _) (by rfl)) U ?_
 refine AWl.add (R_alloc 4 U U U in83 U U U) U ?_
 refine AWl.ac ?_
 refine AWl.nil (AW.seq ?_)
 refine AW.sr ?_
 refine AWl.p (by exact R_load U (.no U) U (.tm U) ty83 U U) U ?_
 refine AWl.p (R_callz (FnT.fr (specIsValidGraph g)) U (.no U) U (.cons (.tm U) U .nil)) U ?_
 refine AWl.p (R_not U (.no U) U (.tm U)) U ?_
 refine AWl.mv ?_
 refine AWl.p (by exact R_fieldAddr U (by exact .not1 U U U U) U (.tmp U (by exact fun _ => rfl)) fl47_0) U ?_
 refine AWl.p (by exact R_load U (by exact .not1 U U U U) U (.tmp U (by exact id)) ty45 U U) U ?_
 refine AWl.p (by exact R_lenm U (by exact .not1 U U U U) U (.tmp U (by exact id)) (by exact .t) Tryz.underlying45) U ?_
 refine AWl.p (R_gt U (by exact .not1 U U U U) U (.tmp U (by exact id)) (.const U)) U ?_
 refine AWl.p (R_or U (.no U) U (.tm U) (.tmp U (by exact id))) U ?_
 refine AWl.nil ?_
 refine AW.cond (.tm U) (fun h16 => ?_) (fun h16 => ?_)
 · skip
   try simp at h16
   refine AW.seq ?_
   refine AW.le (σ' := ⟨_, [(0, _), (1, _), (2, _), (3, _), (4, _), (5, _)], [(4, _)]⟩) (Le.sub0 U ⟨U, U, U, U, U, U, Y⟩ ⟨U, Y⟩) ?_
   refine AW.region ?_
   refine AWl.p (by exact R_load U (.no U) U (.tm U) ty83 U U) U ?_
   refine AWl.adds (R_call 1800 (specl3Copy g hz1 (by omega)) U U U (.cons (.tm U) U .nil) U U) U ?_
   refine AWl.chgb (R_store_pb U U U (.tm U) (.tm U) U ty83 U U U (by kernel_rfl) U) ?_
   refine AWl.le (σ' := ⟨_, [(0, _), (1, _), (2, _), (3, _), (4, _), (5, _)], [(4, _), (1800, _), (1801, _)]⟩) (Le.sub0 U ⟨U, U, U, U, U, U, Y⟩ ⟨U, U, U, Y⟩) ?_
   refine AWl.ac ?_
   refine AWl.nil (AW.ret ?_)
   refine Res.many U (.cell U U ty83 U U (.tmp U .nil)) U ?_ (by simp)
   rw [applyB_no (by grind)]; rfl
 · skip
   try simp at h16
   refine AW.skip ?_
   refine AW.seq ?_
   refine AW.le (σ' := ⟨_, [(0, _), (1, _), (2, _), (3, _), (4, _), (5, _)], [(4, _)]⟩) (Le.sub0 U ⟨U, U, U, U, U, U, Y⟩ ⟨U, Y⟩) ?_
   refine AW.region ?_
   refine AWl.p (by exact R_load U (.no U) U (.tm U) ty83 U U) U ?_
   refine AWl.p (by exact R_load U (.no U) U (.tm U) ty47 U U) U ?_
   refine AWl.adds (R_call 2200 (specl6Apply g b (by grind) (by grind) hz1 hz2) U U U (.cons (.tm U) U (.cons (.tm U) U .nil)) U U) U ?_
   refine AWl.p (R_movet U (.no U) U U fun _ => rfl) U ?_
   refine AWl.p (R_extract U (.no U) U U (fun _ => rfl) U) U ?_
   refine AWl.p (R_extract U (.no U) U U (fun _ => rfl) U) U ?_
   refine AWl.add (R_alloc 6 U U U in83 U U U) U ?_
   refine AWl.chgb (R_store_pb U U U (.tm U) (.tm U) U ty83 U U U (by kernel_rfl) U) ?_
   refine AWl.le (σ' := ⟨_, [(0, _), (1, _), (2, _), (3, _), (4, _), (5, _), (6, _), (24, _)], [(4, _), (2200, _), (2201, _), (6, _)]⟩) (Le.sub0 U ⟨U, U, U, U, U, U, U, U, Y⟩ ⟨U, U, U, U, Y⟩) ?_
   refine AWl.av ?_
   refine AWl.nil (AW.sr ?_)
   refine AWl.p (by exact R_load_pp U (.no U) U (.tm U) U ty83 U U) U ?_
   refine AWl.mv ?_
   refine AWl.chgb (R_store_pb U U U (.tm U) (.tm U) U ty83 U U U (by kernel_rfl) U) ?_
   refine AWl.le (σ' := ⟨_, [(0, _), (1, _), (2, _), (3, _), (4, _), (5, _), (6, _), (7, _), (26, _)], [(4, _), (2200, _), (2201, _), (6, _)]⟩) (Le.sub0 U ⟨U, U, U, U, U, U, U, U, U, Y⟩ ⟨U, U, U, U, Y⟩) ?_
   refine AWl.av ?_
   refine AWl.nil (AW.ret ?_)
   refine Res.many U (.cell U U ty83 U U (.tmp U .nil)) U ?_ (by simp)
   rfl
end Go.Proofs.YtbkhopfpejhnlaaGreatDoor
