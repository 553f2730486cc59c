import Derived.Test.YtoealglkenhphaaGreatB103xb
set_option linter.unusedVariables false
set_option linter.unusedSimpArgs false
set_option maxHeartbeats 1000000
set_option maxRecDepth 100000
namespace Go.Q
open Go.D
theorem chg_ins {g : TGraph} {c : TChange} (h : c.Insert = true) : chgG g c = insG g c.Edge := by unfold chgG; rw [if_pos h]
theorem chg_del {g : TGraph} {c : TChange} (h : c.Insert = false) (hm : c.Edge ∈ g.Edges) : chgG g c = delG g c.Edge.ID := by unfold chgG; rw [if_neg (by rw [h]; decide), if_pos hm]
theorem chg_non {g : TGraph} {c : TChange} (h : c.Insert = false) (hm : c.Edge ∉ g.Edges) : chgG g c = (g, false) := by unfold chgG; rw [if_neg (by rw [h]; decide), if_neg hm]
theorem edges_12 {g : TGraph} (h : validG g = true) : g.Edges.length ≤ 12 ∧ g.Values.length ≤ 5 := by
 unfold validG inB at h
 simp only [Bool.and_eq_true, decide_eq_true_eq] at h
 omega
theorem applyB_bad {g G : TGraph} {b : TBatch} {k : Nat} {x : TChange} (he : runL g b.Changes = runL G (b.Changes.drop k)) (hx : b.Changes[k]? = some x) (h : (chgG G x).2 = false) : applyB g b = (g, false) :=
 applyB_no (.inr (.inr (by rw [he]; exact runL_bad hx h)))
theorem applyB_end {g G : TGraph} {b : TBatch} {k : Nat} (hg : validG g = true) (h6 : b.Changes.length ≤ 6) (he : runL g b.Changes = runL G (b.Changes.drop k)) (hk : b.Changes.length ≤ k) : applyB g b = (G, true) := by
 rw [List.drop_of_length_le hk] at he
 unfold applyB
 rw [he]
 unfold runL
 rw [if_pos ⟨hg, h6, rfl⟩]
theorem idx_row {g : TGraph} {id : Int} (h : 0 ≤ edgeIndex g id) : g.Edges[(edgeIndex g id).toNat]? = some (g.Edges[(edgeIndex g id).toNat]?.getD dE) := by
 obtain ⟨k, x, h1, h2⟩ := edgeIndex_get h
 rw [h2, Int.toNat_natCast, h1]; rfl
theorem idx_in {g : TGraph} (hg : validG g = true) {e : TEdge} (h : 0 ≤ edgeIndex g e.ID) (h2 : g.Edges[(edgeIndex g e.ID).toNat]?.getD dE = e) : e ∈ g.Edges := by
 have := idx_row h
 rw [h2] at this
 exact List.mem_of_getElem? this
theorem idx_out {g : TGraph} (hg : validG g = true) {e : TEdge} (h : edgeIndex g e.ID < 0 ∨ g.Edges[(edgeIndex g e.ID).toNat]?.getD dE ≠ e) : e ∉ g.Edges := fun hm => by
 obtain ⟨k, h1, h2⟩ := (mem_index hg).1 hm
 rcases h with h | h
 ·omega
 ·rw [h1, Int.toNat_natCast, h2] at h; exact h rfl
theorem edge_same {x y : TEdge} (h : ((x.ID = y.ID ∧ x.From = y.From) ∧ x.To = y.To) ∧ x.Label = y.Label) : x = y := by
 cases x; cases y; simp_all
theorem edge_diff {x y : TEdge} (h : ((¬ x.ID = y.ID ∨ ¬ x.From = y.From) ∨ ¬ x.To = y.To) ∨ ¬ x.Label = y.Label) : x ≠ y := by
 rintro rfl; simp at h
end Go.Q
namespace Go.Proofs.YtoealglkenhphaaGreat
open Go.RowKit Go.Q Go.D
theorem implApplyBatch (g : TGraph) (b : TBatch) (hz1 : g.Values.length ≤ 1073741824) (hz2 : g.Edges.length ≤ 1048576) : FnT Tryz.prog 63 [.agg (cGraph g), .agg (cBatch b)] (.tup [.agg (cGraph (applyB g b).1), .one (.v (.bool (applyB g b).2))]) := by
 refine FnT.walk Tryz.func63 rfl (by kernel_rfl) Tryz.ntmps63 rfl fun hlen w0 => ?_
 try simp [cEdge, cGraph, cStep, cChange, cBatch, cAutomaton, cProductStep, cView] at hlen
 refine AW.sr ?_
 refine AWl.put (R_boxz rfl rfl rfl (.tm rfl) (ts := _) (by rfl)) rfl ?_
 refine AWl.put (R_boxz rfl rfl rfl (.tm rfl) (ts := _) (by rfl)) rfl ?_
 refine AWl.add (R_alloc 4 rfl rfl rfl in43 rfl rfl rfl) rfl ?_
 refine AWl.ac rfl rfl rfl rfl rfl ?_
 refine AWl.nil ?_
 refine AW.sr ?_
 refine AWl.put (by exact R_load rfl (.no rfl) rfl (.tm rfl) ty43 rfl rfl) rfl ?_
 refine AWl.adds (R_call 1100 (implcopyGraph g hz1 (by omega)) rfl rfl rfl (.cons (.tm rfl) rfl .nil) rfl rfl) rfl ?_
 refine AWl.add (R_alloc 6 rfl rfl rfl in43 rfl rfl rfl) rfl ?_
 refine AWl.chgb (R_store_pb rfl rfl rfl (.tm rfl) (.tm rfl) rfl ty43 rfl rfl rfl (by kernel_rfl) rfl) ?_
 refine AWl.nil ?_
 refine AW.seq ?_
 refine AW.sr ?_
 refine AWl.put (by exact R_load rfl (.no rfl) rfl (.tm rfl) ty43 rfl rfl) rfl ?_
 refine AWl.put (R_callz (FnT.fr (implIsValidGraph g)) rfl (.no rfl) rfl (.cons (.tm rfl) rfl .nil)) rfl ?_
 refine AWl.put (R_not rfl (.no rfl) rfl (.tm rfl)) rfl ?_
 refine AWl.mv rfl rfl rfl rfl rfl ?_
 refine AWl.put (by exact R_fieldAddr rfl (by exact .not1 rfl rfl rfl rfl) rfl (.tmp rfl (by exact fun _ => rfl)) fl60_0) rfl ?_
 refine AWl.put (by exact R_load rfl (by exact .not1 rfl rfl rfl rfl) rfl (.tmp rfl (by exact id)) ty58 rfl rfl) rfl ?_
 refine AWl.put (by exact R_lenm rfl (by exact .not1 rfl rfl rfl rfl) rfl (.tmp rfl (by exact id)) (by exact .t) Tryz.underlying58) rfl ?_
 refine AWl.put (R_gt rfl (by exact .not1 rfl rfl rfl rfl) rfl (.tmp rfl (by exact id)) (.const rfl)) rfl ?_
 refine AWl.put (R_or rfl (.no rfl) rfl (.tm rfl) (.tmp rfl (by exact id))) rfl ?_
 refine AWl.nil ?_
 refine AW.cond (.tm rfl) (fun h20 => ?_) (fun h20 => ?_)
 ·skip
  try simp at h20
  refine AW.seq ?_
  refine AW.le (σ' := ⟨_, [(0, _), (1, _), (2, _), (3, _), (4, _), (5, _), (6, _)], [(4, _), (1100, _), (1101, _), (6, _)]⟩) (Le.sub0 rfl ⟨rfl, rfl, rfl, rfl, rfl, rfl, rfl, trivial⟩ ⟨rfl, rfl, rfl, rfl, trivial⟩) ?_
  refine AW.region ?_
  refine AWl.put (by exact R_load_pp rfl (.no rfl) rfl (.tm rfl) rfl ty43 rfl rfl) rfl ?_
  refine AWl.chgb (R_store_pb rfl rfl rfl (.tm rfl) (.tm rfl) rfl ty43 rfl rfl rfl (by kernel_rfl) rfl) ?_
  refine AWl.le (σ' := ⟨_, [(0, _), (1, _), (2, _), (3, _), (4, _), (5, _), (6, _)], [(4, _), (1100, _), (1101, _), (6, _)]⟩) (Le.sub0 rfl ⟨rfl, rfl, rfl, rfl, rfl, rfl, rfl, trivial⟩ ⟨rfl, rfl, rfl, rfl, trivial⟩) ?_
  refine AWl.ac rfl rfl rfl rfl rfl ?_
  refine AWl.nil ?_
  refine AW.ret ?_
  refine Res.many rfl (.cell rfl rfl ty43 rfl rfl (.tmp rfl .nil)) rfl ?_ (by simp)
  rw [applyB_no (by grind)]; rfl
 ·skip
  try simp at h20
  refine AW.skip ?_
  refine AW.seq ?_
  refine AW.seq ?_
  refine AW.le (σ' := ⟨_, [(0, _), (1, _), (2, _), (3, _), (4, _), (5, _), (6, _)], [(4, _), (1100, _), (1101, _), (6, _)]⟩) (Le.sub0 rfl ⟨rfl, rfl, rfl, rfl, rfl, rfl, rfl, trivial⟩ ⟨rfl, rfl, rfl, rfl, trivial⟩) ?_
  refine AW.region ?_
  refine AWl.put (by exact R_fieldAddr rfl (.no rfl) rfl (.tm rfl) fl60_0) rfl ?_
  refine AWl.put (by exact R_load rfl (.no rfl) rfl (.tm rfl) ty58 rfl rfl) rfl ?_
  refine AWl.put (by exact R_lenm rfl (.no rfl) rfl (.tm rfl) (by exact .t) Tryz.underlying58) rfl ?_
  refine AWl.put (R_move rfl (.no rfl) rfl (.const rfl)) rfl ?_
  refine AWl.nil ?_
  refine AW.block ?_
  refine AW.loop2 (fun (k : Nat) (G : TGraph) => (k ≤ b.Changes.length ∧ validG G = true) ∧ runL g b.Changes = runL G (b.Changes.drop k)) (fun (k : Nat) (G : TGraph) => ⟨_, [(25, (true, .a (.one (.t (.v (.int .i64 (k : Nat))))))), (2, _), (4, _), (6, _), (23, _), (24, _)], [(4, .box [.t (.v (.slice none 0 0)), .t (.v (.slice none 0 0))]), (6, .box [.rf 1100, .rf 1101]), (1100, .row 1 (G.Values.map cInt)), (1101, .row 4 (G.Edges.map cEdge))]⟩) (fun (k : Nat) (G : TGraph) => b.Changes.length - k) (0) (g) ⟨⟨Nat.zero_le _, by grind⟩, rfl⟩ (Le.sub0 rfl ⟨rfl, rfl, rfl, rfl, rfl, rfl, trivial⟩ ⟨rfl, rfl, rfl, rfl, trivial⟩) ?_
  rintro k G ⟨hk, he⟩
  refine AW.sr ?_
  refine AWl.put (R_lt rfl (.no rfl) rfl (.tm rfl) (.tm rfl)) rfl ?_
  refine AWl.nil ?_
  refine AW.seq ?_
  refine AW.cond (.tm rfl) (fun h26 => ?_) (fun h26 => ?_)
  ·skip
   try simp at h26
   obtain ⟨c, hc⟩ : ∃ ξ, b.Changes[k]? = some ξ := ⟨_, List.getElem?_eq_getElem (by omega)⟩
   have h12 := edges_12 hk.2
   refine AW.skip ?_
   refine AW.seq ?_
   refine AW.block ?_
   refine AW.sr ?_
   refine AWl.put (by exact R_indexAddr rfl (.no rfl) rfl (.tm rfl) (.tm rfl) Tryz.underlying58 ty157 (fun _ => ⟨by omega, (map_get hc)⟩)) rfl ?_
   refine AWl.put (by exact R_load rfl (.no rfl) rfl (.tm rfl) ty157 rfl rfl) rfl ?_
   refine AWl.add (R_alloc 8 rfl rfl rfl in157 rfl rfl rfl) rfl ?_
   refine AWl.chgb (R_store_pb rfl rfl rfl (.tm rfl) (.tm rfl) rfl ty157 rfl rfl rfl (by kernel_rfl) rfl) ?_
   refine AWl.nil ?_
   refine AW.sr ?_
   refine AWl.ac rfl rfl rfl rfl rfl ?_
   refine AWl.nil ?_
   refine AW.seq ?_
   refine AW.sr ?_
   refine AWl.put (by exact R_fieldAddr_pp rfl (.no rfl) rfl (.tm rfl) fl157_0) rfl ?_
   refine AWl.put (by exact R_load_pp rfl (.no rfl) rfl (.tm rfl) rfl ty4 rfl rfl) rfl ?_
   refine AWl.nil ?_
   refine AW.cond (.tm rfl) (fun h30 => ?_) (fun h30 => ?_)
   ·skip
    try simp at h30
    refine AW.region ?_
    refine AWl.put (by exact R_load_pp rfl (.no rfl) rfl (.tm rfl) rfl ty43 rfl rfl) rfl ?_
    refine AWl.put (by exact R_fieldAddr_pp rfl (.no rfl) rfl (.tm rfl) fl157_1) rfl ?_
    refine AWl.put (by exact R_load_pp rfl (.no rfl) rfl (.tm rfl) rfl ty46 rfl rfl) rfl ?_
    refine AWl.adds (R_call 3500 (implInsertEdge G c.Edge (by omega) (by omega)) rfl rfl rfl (.cons (.tm rfl) rfl (.cons (.tm rfl) rfl .nil)) rfl rfl) rfl ?_
    refine AWl.put (R_movet rfl (.no rfl) rfl rfl fun _ => rfl) rfl ?_
    refine AWl.put (R_extract rfl (.no rfl) rfl rfl (fun _ => rfl) rfl) rfl ?_
    refine AWl.put (R_extract rfl (.no rfl) rfl rfl (fun _ => rfl) rfl) rfl ?_
    refine AWl.chgb (R_store_pb rfl rfl rfl (.tm rfl) (.tm rfl) rfl ty43 rfl rfl rfl (by kernel_rfl) rfl) ?_
    refine AWl.le (σ' := ⟨_, [(2, _), (4, _), (6, _), (8, _), (9, _), (23, _), (24, _), (25, _), (26, _), (30, _), (37, _)], [(4, _), (6, _), (1100, _), (1101, _), (8, _), (3500, _), (3501, _)]⟩) (Le.sub0 rfl ⟨rfl, rfl, rfl, rfl, rfl, rfl, rfl, rfl, rfl, rfl, rfl, trivial⟩ ⟨rfl, rfl, rfl, rfl, rfl, rfl, rfl, trivial⟩) ?_
    refine AWl.av rfl rfl rfl rfl rfl ?_
    refine AWl.nil ?_
    refine AW.sr ?_
    refine AWl.mv rfl rfl rfl rfl rfl ?_
    refine AWl.put (R_not rfl (.no rfl) rfl (.tm rfl)) rfl ?_
    refine AWl.nil ?_
    refine AW.cond (.tm rfl) (fun h52 => ?_) (fun h52 => ?_)
    ·skip
     skip
     refine AW.sr ?_
     refine AWl.put (by exact R_load rfl (.no rfl) rfl (.tm rfl) ty43 rfl rfl) rfl ?_
     refine AWl.adds (R_call 5400 (implcopyGraph g hz1 (by omega)) rfl rfl rfl (.cons (.tm rfl) rfl .nil) rfl rfl) rfl ?_
     refine AWl.chgb (R_store_pb rfl rfl rfl (.tm rfl) (.tm rfl) rfl ty43 rfl rfl rfl (by kernel_rfl) rfl) ?_
     refine AWl.le (σ' := ⟨_, [(2, _), (4, _), (6, _), (8, _), (9, _), (23, _), (24, _), (25, _), (26, _), (30, _), (52, _)], [(4, _), (6, _), (1100, _), (1101, _), (8, _), (3500, _), (3501, _), (5400, _), (5401, _)]⟩) (Le.sub0 rfl ⟨rfl, rfl, rfl, rfl, rfl, rfl, rfl, rfl, rfl, rfl, rfl, trivial⟩ ⟨rfl, rfl, rfl, rfl, rfl, rfl, rfl, rfl, rfl, trivial⟩) ?_
     refine AWl.ac rfl rfl rfl rfl rfl ?_
     refine AWl.nil ?_
     refine AW.ret ?_
     refine Res.many rfl (.cell rfl rfl ty43 rfl rfl (.tmp rfl .nil)) rfl ?_ (by simp)
     rw [applyB_bad he hc (by rw [chg_ins h30]; simpa using h52)]; rfl
    ·skip
     skip
     refine AW.skip ?_
     refine AW.le (Le.sw 1100 3500 _) ?_
     refine AW.le (Le.sw 1101 3501 _) ?_
     refine AW.region ?_
     refine AWl.put (R_add rfl (.no rfl) rfl (.tm rfl) (.const rfl) (fun _ => by omega)) rfl ?_
     refine AWl.mv rfl rfl rfl rfl rfl ?_
     refine AWl.nil ?_
     repeat (with_reducible refine BlockQ.nor ?_)
     refine Round2.next (k + 1) ((insG G c.Edge).1) ⟨⟨by omega, (insG_valid (by simpa using h52)).1⟩, (by rw [he, runL_at hc (by rw [chg_ins h30]; simpa using h52), chg_ins h30])⟩ (by omega) (Le.sub0 rfl ⟨rfl, rfl, rfl, rfl, rfl, rfl, trivial⟩ ⟨(by rfl), (by rfl), (by rfl), (by rfl), trivial⟩)
   ·skip
    try simp at h30
    refine AW.sr ?_
    refine AWl.put (by exact R_fieldAddr_pp rfl (.no rfl) rfl (.tm rfl) fl43_1) rfl ?_
    refine AWl.put (by exact R_load_pp rfl (.no rfl) rfl (.tm rfl) rfl ty41 rfl rfl) rfl ?_
    refine AWl.put (by exact R_fieldAddr_pp rfl (.no rfl) rfl (.tm rfl) fl157_1) rfl ?_
    refine AWl.put (by exact R_load_pp rfl (.no rfl) rfl (.tm rfl) rfl ty46 rfl rfl) rfl ?_
    refine AWl.put (R_callz (FnT.fr (slicesContainsEdge G.Edges c.Edge)) rfl (.no rfl) rfl (.cons (.tm rfl) rfl (.cons (.tm rfl) rfl .nil))) rfl ?_
    refine AWl.nil ?_
    refine AW.cond (.tm rfl) (fun h42 => ?_) (fun h42 => ?_)
    ·skip
     try simp at h42
     refine AW.le (σ' := ⟨_, [(2, _), (4, _), (6, _), (8, _), (9, _), (23, _), (24, _), (25, _)], [(4, _), (6, _), (1100, _), (1101, _), (8, _)]⟩) (Le.sub0 rfl ⟨rfl, rfl, rfl, rfl, rfl, rfl, rfl, rfl, trivial⟩ ⟨rfl, rfl, rfl, rfl, rfl, trivial⟩) ?_
     refine AW.region ?_
     refine AWl.put (by exact R_load_pp rfl (.no rfl) rfl (.tm rfl) rfl ty43 rfl rfl) rfl ?_
     refine AWl.put (by exact R_fieldAddr_pp rfl (.no rfl) rfl (.tm rfl) fl157_1) rfl ?_
     refine AWl.put (by exact R_fieldAddr_pp rfl (.no rfl) rfl (.tm rfl) fl46_0) rfl ?_
     refine AWl.put (by exact R_load_pp rfl (.no rfl) rfl (.tm rfl) rfl ty3 rfl rfl) rfl ?_
     refine AWl.adds (R_call 4800 (implDeleteEdge G c.Edge.ID (by omega) (by omega)) rfl rfl rfl (.cons (.tm rfl) rfl (.cons (.tm rfl) rfl .nil)) rfl rfl) rfl ?_
     refine AWl.put (R_movet rfl (.no rfl) rfl rfl fun _ => rfl) rfl ?_
     refine AWl.put (R_extract rfl (.no rfl) rfl rfl (fun _ => rfl) rfl) rfl ?_
     refine AWl.put (R_extract rfl (.no rfl) rfl rfl (fun _ => rfl) rfl) rfl ?_
     refine AWl.chgb (R_store_pb rfl rfl rfl (.tm rfl) (.tm rfl) rfl ty43 rfl rfl rfl (by kernel_rfl) rfl) ?_
     refine AWl.le (σ' := ⟨_, [(2, _), (4, _), (6, _), (8, _), (9, _), (23, _), (24, _), (25, _), (50, _)], [(4, _), (6, _), (1100, _), (1101, _), (8, _), (4800, _), (4801, _)]⟩) (Le.sub0 rfl ⟨rfl, rfl, rfl, rfl, rfl, rfl, rfl, rfl, rfl, trivial⟩ ⟨rfl, rfl, rfl, rfl, rfl, rfl, rfl, trivial⟩) ?_
     refine AWl.av rfl rfl rfl rfl rfl ?_
     refine AWl.nil ?_
     refine AW.sr ?_
     refine AWl.mv rfl rfl rfl rfl rfl ?_
     refine AWl.put (R_not rfl (.no rfl) rfl (.tm rfl)) rfl ?_
     refine AWl.nil ?_
     refine AW.cond (.tm rfl) (fun h52 => ?_) (fun h52 => ?_)
     ·skip
      skip
      refine AW.sr ?_
      refine AWl.put (by exact R_load rfl (.no rfl) rfl (.tm rfl) ty43 rfl rfl) rfl ?_
      refine AWl.adds (R_call 5400 (implcopyGraph g hz1 (by omega)) rfl rfl rfl (.cons (.tm rfl) rfl .nil) rfl rfl) rfl ?_
      refine AWl.chgb (R_store_pb rfl rfl rfl (.tm rfl) (.tm rfl) rfl ty43 rfl rfl rfl (by kernel_rfl) rfl) ?_
      refine AWl.le (σ' := ⟨_, [(2, _), (4, _), (6, _), (8, _), (9, _), (23, _), (24, _), (25, _), (52, _)], [(4, _), (6, _), (1100, _), (1101, _), (8, _), (4800, _), (4801, _), (5400, _), (5401, _)]⟩) (Le.sub0 rfl ⟨rfl, rfl, rfl, rfl, rfl, rfl, rfl, rfl, rfl, trivial⟩ ⟨rfl, rfl, rfl, rfl, rfl, rfl, rfl, rfl, rfl, trivial⟩) ?_
      refine AWl.ac rfl rfl rfl rfl rfl ?_
      refine AWl.nil ?_
      refine AW.ret ?_
      refine Res.many rfl (.cell rfl rfl ty43 rfl rfl (.tmp rfl .nil)) rfl ?_ (by simp)
      rw [applyB_bad he hc (by rw [chg_del h30 h42]; simpa using h52)]; rfl
     ·skip
      skip
      refine AW.skip ?_
      refine AW.le (Le.sw 1100 4800 _) ?_
      refine AW.le (Le.sw 1101 4801 _) ?_
      refine AW.region ?_
      refine AWl.put (R_add rfl (.no rfl) rfl (.tm rfl) (.const rfl) (fun _ => by omega)) rfl ?_
      refine AWl.mv rfl rfl rfl rfl rfl ?_
      refine AWl.nil ?_
      repeat (with_reducible refine BlockQ.nor ?_)
      refine Round2.next (k + 1) ((delG G c.Edge.ID).1) ⟨⟨by omega, (delG_valid (by simpa using h52)).1⟩, (by rw [he, runL_at hc (by rw [chg_del h30 h42]; simpa using h52), chg_del h30 h42])⟩ (by omega) (Le.sub0 rfl ⟨rfl, rfl, rfl, rfl, rfl, rfl, trivial⟩ ⟨(by rfl), (by rfl), (by rfl), (by rfl), trivial⟩)
    ·skip
     try simp at h42
     refine AW.skip ?_
     refine AW.seq ?_
     refine AW.le (σ' := ⟨_, [(2, _), (4, _), (6, _), (8, _), (9, _), (23, _), (24, _), (25, _)], [(4, _), (6, _), (1100, _), (1101, _), (8, _)]⟩) (Le.sub0 rfl ⟨rfl, rfl, rfl, rfl, rfl, rfl, rfl, rfl, trivial⟩ ⟨rfl, rfl, rfl, rfl, rfl, trivial⟩) ?_
     refine AW.region ?_
     refine AWl.mv rfl rfl rfl rfl rfl ?_
     refine AWl.put (R_not rfl (.no rfl) rfl (.tm rfl)) rfl ?_
     refine AWl.nil ?_
     refine AW.cond (.tm rfl) (fun h52 => ?_) (fun h52 => ?_)
     ·skip
      skip
      refine AW.sr ?_
      refine AWl.put (by exact R_load rfl (.no rfl) rfl (.tm rfl) ty43 rfl rfl) rfl ?_
      refine AWl.adds (R_call 5400 (implcopyGraph g hz1 (by omega)) rfl rfl rfl (.cons (.tm rfl) rfl .nil) rfl rfl) rfl ?_
      refine AWl.chgb (R_store_pb rfl rfl rfl (.tm rfl) (.tm rfl) rfl ty43 rfl rfl rfl (by kernel_rfl) rfl) ?_
      refine AWl.le (σ' := ⟨_, [(2, _), (4, _), (6, _), (8, _), (9, _), (23, _), (24, _), (25, _), (52, _)], [(4, _), (6, _), (1100, _), (1101, _), (8, _), (5400, _), (5401, _)]⟩) (Le.sub0 rfl ⟨rfl, rfl, rfl, rfl, rfl, rfl, rfl, rfl, rfl, trivial⟩ ⟨rfl, rfl, rfl, rfl, rfl, rfl, rfl, trivial⟩) ?_
      refine AWl.ac rfl rfl rfl rfl rfl ?_
      refine AWl.nil ?_
      refine AW.ret ?_
      refine Res.many rfl (.cell rfl rfl ty43 rfl rfl (.tmp rfl .nil)) rfl ?_ (by simp)
      rw [applyB_bad he hc (by rw [chg_non h30 h42])]; rfl
     ·skip
      skip
      refine AW.skip ?_
      refine AW.region ?_
      refine AWl.put (R_add rfl (.no rfl) rfl (.tm rfl) (.const rfl) (fun _ => by omega)) rfl ?_
      refine AWl.mv rfl rfl rfl rfl rfl ?_
      refine AWl.nil ?_
      repeat (with_reducible refine BlockQ.nor ?_)
      refine Round2.next (k + 1) (G) ⟨absurd h52 (by simp), absurd h52 (by simp)⟩ (by omega) (Le.sub0 rfl ⟨rfl, rfl, rfl, rfl, rfl, rfl, trivial⟩ ⟨(by rfl), (by rfl), (by rfl), (by rfl), trivial⟩)
  ·skip
   try simp at h26
   refine AW.exit ?_
   refine AW.sr ?_
   refine AWl.put (by exact R_load_pp rfl (.no rfl) rfl (.tm rfl) rfl ty43 rfl rfl) rfl ?_
   refine AWl.chgb (R_store_pb rfl rfl rfl (.tm rfl) (.tm rfl) rfl ty43 rfl rfl rfl (by kernel_rfl) rfl) ?_
   refine AWl.le (σ' := ⟨_, [(2, _), (4, _), (6, _), (23, _), (24, _), (25, _), (26, _)], [(4, _), (6, _), (1100, _), (1101, _)]⟩) (Le.sub0 rfl ⟨rfl, rfl, rfl, rfl, rfl, rfl, rfl, trivial⟩ ⟨rfl, rfl, rfl, rfl, trivial⟩) ?_
   refine AWl.ac rfl rfl rfl rfl rfl ?_
   refine AWl.nil ?_
   refine AW.ret ?_
   refine Res.many rfl (.cell rfl rfl ty43 rfl rfl (.tmp rfl .nil)) rfl ?_ (by simp)
   rw [applyB_end (by grind) (by grind) he (by omega)]; rfl
theorem specl6Apply (g : TGraph) (b : TBatch) (hg : validG g = true) (h6 : b.Changes.length ≤ 6) (hz1 : g.Values.length ≤ 1073741824) (hz2 : g.Edges.length ≤ 1048576) : FnT Tryz.prog 116 [.agg (cGraph g), .agg (cBatch b)] (.tup [.agg (cGraph (applyB g b).1), .one (.v (.bool (applyB g b).2))]) := by
 refine FnT.walk Tryz.func116 rfl (by kernel_rfl) Tryz.ntmps116 rfl fun hlen w0 => ?_
 try simp [cEdge, cGraph, cStep, cChange, cBatch, cAutomaton, cProductStep, cView] at hlen
 refine AW.sr ?_
 refine AWl.put (R_boxz rfl rfl rfl (.tm rfl) (ts := _) (by rfl)) rfl ?_
 refine AWl.put (R_boxz rfl rfl rfl (.tm rfl) (ts := _) (by rfl)) rfl ?_
 refine AWl.add (R_alloc 4 rfl rfl rfl in43 rfl rfl rfl) rfl ?_
 refine AWl.ac rfl rfl rfl rfl rfl ?_
 refine AWl.nil ?_
 refine AW.sr ?_
 refine AWl.put (by exact R_load rfl (.no rfl) rfl (.tm rfl) ty43 rfl rfl) rfl ?_
 refine AWl.adds (R_call 1500 (specl3Copy g hz1 (by omega)) rfl rfl rfl (.cons (.tm rfl) rfl .nil) rfl rfl) rfl ?_
 refine AWl.add (R_alloc 6 rfl rfl rfl in43 rfl rfl rfl) rfl ?_
 refine AWl.chgb (R_store_pb rfl rfl rfl (.tm rfl) (.tm rfl) rfl ty43 rfl rfl rfl (by kernel_rfl) rfl) ?_
 refine AWl.nil ?_
 refine AW.seq ?_
 refine AW.sr ?_
 refine AWl.ac rfl rfl rfl rfl rfl ?_
 refine AWl.nil ?_
 refine AW.block ?_
 refine AW.loop2 (fun (k : Nat) (G : TGraph) => (k ≤ b.Changes.length ∧ validG G = true) ∧ runL g b.Changes = runL G (b.Changes.drop k)) (fun (k : Nat) (G : TGraph) => ⟨_, [(7, (true, .a (.one (.t (.v (.int .i64 (k : Nat))))))), (2, _), (3, _), (4, _), (6, _)], [(4, .box [.t (.v (.slice none 0 0)), .t (.v (.slice none 0 0))]), (6, .box [.rf 1500, .rf 1501]), (1500, .row 1 (G.Values.map cInt)), (1501, .row 4 (G.Edges.map cEdge))]⟩) (fun (k : Nat) (G : TGraph) => b.Changes.length - k) (0) (g) ⟨⟨Nat.zero_le _, hg⟩, rfl⟩ (Le.sub0 rfl ⟨rfl, rfl, rfl, rfl, rfl, trivial⟩ ⟨rfl, rfl, rfl, rfl, trivial⟩) ?_
 rintro k G ⟨hk, he⟩
 refine AW.seq ?_
 refine AW.sr ?_
 refine AWl.mv rfl rfl rfl rfl rfl ?_
 refine AWl.put (by exact R_fieldAddr rfl (.no rfl) rfl (.tm rfl) fl60_0) rfl ?_
 refine AWl.put (by exact R_load rfl (.no rfl) rfl (.tm rfl) ty58 rfl rfl) rfl ?_
 refine AWl.put (by exact R_lenm rfl (.no rfl) rfl (.tm rfl) (by exact .t) Tryz.underlying58) rfl ?_
 refine AWl.put (R_lt rfl (.no rfl) rfl (.tm rfl) (.tm rfl)) rfl ?_
 refine AWl.mv rfl rfl rfl rfl rfl ?_
 refine AWl.put (R_move rfl (by exact .yes1 rfl rfl rfl rfl) rfl (.tmp rfl (by exact fun _ => rfl))) rfl ?_
 refine AWl.put (R_le rfl (by exact .yes1 rfl rfl rfl rfl) rfl (.tmp rfl (by exact id)) (.const rfl)) rfl ?_
 refine AWl.put (R_and rfl (.no rfl) rfl (.tm rfl) (.tmp rfl (by exact id))) rfl ?_
 refine AWl.nil ?_
 refine AW.cond (.tm rfl) (fun h24 => ?_) (fun h24 => ?_)
 ·skip
  try simp at h24
  obtain ⟨c, hc⟩ : ∃ ξ, b.Changes[k]? = some ξ := ⟨_, List.getElem?_eq_getElem (by omega)⟩
  have h12 := edges_12 hk.2
  refine AW.skip ?_
  refine AW.seq ?_
  refine AW.block ?_
  refine AW.seq ?_
  refine AW.le (σ' := ⟨_, [(2, _), (3, _), (4, _), (6, _), (7, _)], [(4, _), (6, _), (1500, _), (1501, _)]⟩) (Le.sub0 rfl ⟨rfl, rfl, rfl, rfl, rfl, trivial⟩ ⟨rfl, rfl, rfl, rfl, trivial⟩) ?_
  refine AW.region ?_
  refine AWl.put (by exact R_fieldAddr rfl (.no rfl) rfl (.tm rfl) fl60_0) rfl ?_
  refine AWl.put (by exact R_load rfl (.no rfl) rfl (.tm rfl) ty58 rfl rfl) rfl ?_
  refine AWl.mv rfl rfl rfl rfl rfl ?_
  refine AWl.put (by exact R_indexAddr rfl (.no rfl) rfl (.tm rfl) (.tm rfl) Tryz.underlying58 ty157 (fun _ => ⟨by omega, (map_get hc)⟩)) rfl ?_
  refine AWl.put (by exact R_fieldAddr rfl (.no rfl) rfl (.tm rfl) fl157_1) rfl ?_
  refine AWl.put (by exact R_load rfl (.no rfl) rfl (.tm rfl) ty46 rfl rfl) rfl ?_
  refine AWl.add (R_alloc 8 rfl rfl rfl in46 rfl rfl rfl) rfl ?_
  refine AWl.chgb (R_store_pb rfl rfl rfl (.tm rfl) (.tm rfl) rfl ty46 rfl rfl rfl (by kernel_rfl) rfl) ?_
  refine AWl.nil ?_
  refine AW.seq ?_
  refine AW.seq ?_
  refine AW.le (σ' := ⟨_, [(2, _), (3, _), (4, _), (6, _), (7, _), (8, _)], [(4, _), (6, _), (1500, _), (1501, _), (8, _)]⟩) (Le.sub0 rfl ⟨rfl, rfl, rfl, rfl, rfl, rfl, trivial⟩ ⟨rfl, rfl, rfl, rfl, rfl, trivial⟩) ?_
  refine AW.region ?_
  refine AWl.put (by exact R_fieldAddr rfl (.no rfl) rfl (.tm rfl) fl60_0) rfl ?_
  refine AWl.put (by exact R_load rfl (.no rfl) rfl (.tm rfl) ty58 rfl rfl) rfl ?_
  refine AWl.mv rfl rfl rfl rfl rfl ?_
  refine AWl.put (by exact R_indexAddr rfl (.no rfl) rfl (.tm rfl) (.tm rfl) Tryz.underlying58 ty157 (fun _ => ⟨by omega, (map_get hc)⟩)) rfl ?_
  refine AWl.put (by exact R_fieldAddr rfl (.no rfl) rfl (.tm rfl) fl157_0) rfl ?_
  refine AWl.put (by exact R_load rfl (.no rfl) rfl (.tm rfl) ty4 rfl rfl) rfl ?_
  refine AWl.nil ?_
  refine AW.cond (.tm rfl) (fun h38 => ?_) (fun h38 => ?_)
  ·skip
   try simp at h38
   refine AW.seq ?_
   refine AW.le (σ' := ⟨_, [(2, _), (3, _), (4, _), (6, _), (7, _), (8, _)], [(4, _), (6, _), (1500, _), (1501, _), (8, _)]⟩) (Le.sub0 rfl ⟨rfl, rfl, rfl, rfl, rfl, rfl, trivial⟩ ⟨rfl, rfl, rfl, rfl, rfl, trivial⟩) ?_
   refine AW.region ?_
   refine AWl.put (by exact R_load_pp rfl (.no rfl) rfl (.tm rfl) rfl ty43 rfl rfl) rfl ?_
   refine AWl.put (by exact R_load_pp rfl (.no rfl) rfl (.tm rfl) rfl ty46 rfl rfl) rfl ?_
   refine AWl.adds (R_call 4200 (specInsertEdge G c.Edge (by omega) (by omega)) rfl rfl rfl (.cons (.tm rfl) rfl (.cons (.tm rfl) rfl .nil)) rfl rfl) rfl ?_
   refine AWl.put (R_movet rfl (.no rfl) rfl rfl fun _ => rfl) rfl ?_
   refine AWl.put (R_extract rfl (.no rfl) rfl rfl (fun _ => rfl) rfl) rfl ?_
   refine AWl.put (R_extract rfl (.no rfl) rfl rfl (fun _ => rfl) rfl) rfl ?_
   refine AWl.add (R_alloc 9 rfl rfl rfl in43 rfl rfl rfl) rfl ?_
   refine AWl.chgb (R_store_pb rfl rfl rfl (.tm rfl) (.tm rfl) rfl ty43 rfl rfl rfl (by kernel_rfl) rfl) ?_
   refine AWl.le (σ' := ⟨_, [(2, _), (3, _), (4, _), (6, _), (7, _), (8, _), (9, _), (44, _)], [(4, _), (6, _), (1500, _), (1501, _), (8, _), (4200, _), (4201, _), (9, _)]⟩) (Le.sub0 rfl ⟨rfl, rfl, rfl, rfl, rfl, rfl, rfl, rfl, trivial⟩ ⟨rfl, rfl, rfl, rfl, rfl, rfl, rfl, rfl, trivial⟩) ?_
   refine AWl.av rfl rfl rfl rfl rfl ?_
   refine AWl.nil ?_
   refine AW.seq ?_
   refine AW.sr ?_
   refine AWl.mv rfl rfl rfl rfl rfl ?_
   refine AWl.put (R_not rfl (.no rfl) rfl (.tm rfl)) rfl ?_
   refine AWl.nil ?_
   refine AW.cond (.tm rfl) (fun h46 => ?_) (fun h46 => ?_)
   ·skip
    try simp at h46
    refine AW.sr ?_
    refine AWl.put (by exact R_load rfl (.no rfl) rfl (.tm rfl) ty43 rfl rfl) rfl ?_
    refine AWl.adds (R_call 4800 (specl3Copy g hz1 (by omega)) rfl rfl rfl (.cons (.tm rfl) rfl .nil) rfl rfl) rfl ?_
    refine AWl.chgb (R_store_pb rfl rfl rfl (.tm rfl) (.tm rfl) rfl ty43 rfl rfl rfl (by kernel_rfl) rfl) ?_
    refine AWl.le (σ' := ⟨_, [(2, _), (3, _), (4, _), (6, _), (7, _), (8, _), (9, _), (10, _), (46, _)], [(4, _), (6, _), (1500, _), (1501, _), (8, _), (4200, _), (4201, _), (9, _), (4800, _), (4801, _)]⟩) (Le.sub0 rfl ⟨rfl, rfl, rfl, rfl, rfl, rfl, rfl, rfl, rfl, trivial⟩ ⟨rfl, rfl, rfl, rfl, rfl, rfl, rfl, rfl, rfl, rfl, trivial⟩) ?_
    refine AWl.ac rfl rfl rfl rfl rfl ?_
    refine AWl.nil ?_
    refine AW.ret ?_
    refine Res.many rfl (.cell rfl rfl ty43 rfl rfl (.tmp rfl .nil)) rfl ?_ (by simp)
    rw [applyB_bad he hc (by rw [chg_ins h38]; simpa using h46)]; rfl
   ·skip
    try simp at h46
    refine AW.skip ?_
    refine AW.sr ?_
    refine AWl.put (by exact R_load_pp rfl (.no rfl) rfl (.tm rfl) rfl ty43 rfl rfl) rfl ?_
    refine AWl.chgb (R_store_pb rfl rfl rfl (.tm rfl) (.tm rfl) rfl ty43 rfl rfl rfl (by kernel_rfl) rfl) ?_
    refine AWl.nil ?_
    refine AW.exit ?_
    refine AW.le (Le.sw 1500 4200 _) ?_
    refine AW.le (Le.sw 1501 4201 _) ?_
    refine AW.region ?_
    refine AWl.mv rfl rfl rfl rfl rfl ?_
    refine AWl.put (R_add rfl (.no rfl) rfl (.tm rfl) (.const rfl) (fun _ => by omega)) rfl ?_
    refine AWl.av rfl rfl rfl rfl rfl ?_
    refine AWl.nil ?_
    repeat (with_reducible refine BlockQ.nor ?_)
    refine Round2.next (k + 1) ((insG G c.Edge).1) ⟨⟨by omega, (insG_valid (by simpa using h46)).1⟩, (by rw [he, runL_at hc (by rw [chg_ins h38]; simpa using h46), chg_ins h38])⟩ (by omega) (Le.sub0 rfl ⟨rfl, rfl, rfl, rfl, rfl, trivial⟩ ⟨(by rfl), (by rfl), (by rfl), (by rfl), trivial⟩)
  ·skip
   try simp at h38
   refine AW.skip ?_
   refine AW.seq ?_
   refine AW.le (σ' := ⟨_, [(2, _), (3, _), (4, _), (6, _), (7, _), (8, _)], [(4, _), (6, _), (1500, _), (1501, _), (8, _)]⟩) (Le.sub0 rfl ⟨rfl, rfl, rfl, rfl, rfl, rfl, trivial⟩ ⟨rfl, rfl, rfl, rfl, rfl, trivial⟩) ?_
   refine AW.region ?_
   refine AWl.put (by exact R_load_pp rfl (.no rfl) rfl (.tm rfl) rfl ty43 rfl rfl) rfl ?_
   refine AWl.put (by exact R_fieldAddr_pp rfl (.no rfl) rfl (.tm rfl) fl46_0) rfl ?_
   refine AWl.put (by exact R_load_pp rfl (.no rfl) rfl (.tm rfl) rfl ty3 rfl rfl) rfl ?_
   refine AWl.put (R_callz (FnT.fr (specEdgeIndex G c.Edge.ID)) rfl (.no rfl) rfl (.cons (.tm rfl) rfl (.cons (.tm rfl) rfl .nil))) rfl ?_
   refine AWl.av rfl rfl rfl rfl rfl ?_
   refine AWl.nil ?_
   refine AW.seq ?_
   refine AW.seq ?_
   refine AW.drawn 11 (nthB [[], [0], [0, 1], [0, 1, 2], [0, 1, 2, 3], [0, 1, 2], [0, 1, 2, 3, 4, 5], [0, 1, 2, 3, 4, 5, 6], [0, 1, 2], [0, 1, 2, 3, 4, 5, 6, 7, 8], [0, 1, 2, 3, 4, 5, 6, 7, 8, 9]]) (by kernel_rfl) (by kernel_rfl) (by kernel_rfl) ?_
   refine DrawC.step rfl rfl rfl (Loc.of rfl fun σ' hs => R_move rfl (.no rfl) (hd_sup hs rfl) (.tm (hs.slots _ _ rfl))) ?_
   refine DrawC.step rfl rfl rfl (Loc.of rfl fun σ' hs => R_lt rfl (.no rfl) (hd_sup hs rfl) (.tm (hs.slots _ _ rfl)) (.const rfl)) ?_
   refine DrawC.step rfl rfl rfl (Loc.of rfl fun σ' hs => R_move rfl (.no rfl) (hd_sup hs rfl) (.tm (hs.slots _ _ rfl))) ?_
   refine DrawC.step rfl rfl rfl (Loc.of rfl fun σ' hs => (by exact R_fieldAddr_pp rfl (by exact .not1 rfl rfl (hs.slots _ _ rfl) (by rw [hs.n]; rfl)) (hd_sup hs rfl) (.tmp (hs.slots _ _ rfl) (by exact fun _ => rfl)) fl43_1)) ?_
   refine DrawC.step rfl rfl rfl (Loc.of rfl fun σ' hs => (by exact R_load_pp rfl (by exact .not1 rfl rfl (hs.slots _ _ rfl) (by rw [hs.n]; rfl)) (hd_sup hs rfl) (.tmp (hs.slots _ _ rfl) (by exact id)) (hs.res _ _ rfl) ty41 rfl rfl)) ?_
   refine DrawC.step rfl rfl rfl (Loc.of rfl fun σ' hs => R_move rfl (by exact .not1 rfl rfl (hs.slots _ _ rfl) (by rw [hs.n]; rfl)) (hd_sup hs rfl) (.tmp (hs.slots _ _ rfl) (by exact fun _ => rfl))) ?_
   refine DrawC.step rfl rfl rfl (Loc.of rfl fun σ' hs => (by exact R_indexAddr_rf rfl (by exact .not1 rfl rfl (hs.slots _ _ rfl) (by rw [hs.n]; rfl)) (hd_sup hs rfl) (.tmp (hs.slots _ _ rfl) (by exact id)) (hs.res _ _ rfl) (.tmp (hs.slots _ _ rfl) (by exact id)) Tryz.underlying41 ty46 (fun hq => ⟨by simp at hq; omega, map_get (idx_row (by simp at hq; omega))⟩))) ?_
   refine DrawC.step rfl rfl rfl (Loc.of rfl fun σ' hs => (by exact R_load_prq rfl (by exact .not1 rfl rfl (hs.slots _ _ rfl) (by rw [hs.n]; rfl)) (hd_sup hs rfl) (.tmp (hs.slots _ _ rfl) (by exact id)) (hs.res _ _ rfl) (fun hq => map_get (idx_row (by simp at hq; omega))) ty46 rfl rfl)) ?_
   refine DrawC.step rfl rfl rfl (Loc.of rfl fun σ' hs => (by exact R_load_pp rfl (by exact .not1 rfl rfl (hs.slots _ _ rfl) (by rw [hs.n]; rfl)) (hd_sup hs rfl) (.tmp (hs.slots _ _ rfl) (by exact fun _ => rfl)) (hs.res _ _ rfl) ty46 rfl rfl)) ?_
   refine DrawC.step rfl rfl rfl (Loc.of rfl fun σ' hs => R_eqs rfl (by exact .not1 rfl rfl (hs.slots _ _ rfl) (by rw [hs.n]; rfl)) (hd_sup hs rfl) (.tmp (hs.slots _ _ rfl) (by exact id)) (.tmp (hs.slots _ _ rfl) (by exact id)) rfl rfl (by kernel_rfl) (neS46 _ _ _ _ _ _ _ _)) ?_
   refine DrawC.step rfl rfl rfl (Loc.of rfl fun σ' hs => R_or rfl (.no rfl) (hd_sup hs rfl) (.tm (hs.slots _ _ rfl)) (.tmp (hs.slots _ _ rfl) (by exact id))) ?_
   refine DrawC.fin rfl rfl ?_
   refine AWl.nil ?_
   refine AW.cond (.tm rfl) (fun h64 => ?_) (fun h64 => ?_)
   ·skip
    try simp at h64
    have hout : c.Edge ∉ G.Edges := idx_out hk.2 (h64.imp id edge_diff)
    refine AW.seq ?_
    refine AW.le (σ' := ⟨_, [(2, _), (3, _), (4, _), (6, _), (7, _), (8, _), (11, _)], [(4, _), (6, _), (1500, _), (1501, _), (8, _)]⟩) (Le.sub0 rfl ⟨rfl, rfl, rfl, rfl, rfl, rfl, rfl, trivial⟩ ⟨rfl, rfl, rfl, rfl, rfl, trivial⟩) ?_
    refine AW.region ?_
    refine AWl.put (by exact R_load rfl (.no rfl) rfl (.tm rfl) ty43 rfl rfl) rfl ?_
    refine AWl.adds (R_call 6600 (specl3Copy g hz1 (by omega)) rfl rfl rfl (.cons (.tm rfl) rfl .nil) rfl rfl) rfl ?_
    refine AWl.chgb (R_store_pb rfl rfl rfl (.tm rfl) (.tm rfl) rfl ty43 rfl rfl rfl (by kernel_rfl) rfl) ?_
    refine AWl.le (σ' := ⟨_, [(2, _), (3, _), (4, _), (6, _), (7, _), (8, _), (11, _)], [(4, _), (6, _), (1500, _), (1501, _), (8, _), (6600, _), (6601, _)]⟩) (Le.sub0 rfl ⟨rfl, rfl, rfl, rfl, rfl, rfl, rfl, trivial⟩ ⟨rfl, rfl, rfl, rfl, rfl, rfl, rfl, trivial⟩) ?_
    refine AWl.ac rfl rfl rfl rfl rfl ?_
    refine AWl.nil ?_
    refine AW.ret ?_
    refine Res.many rfl (.cell rfl rfl ty43 rfl rfl (.tmp rfl .nil)) rfl ?_ (by simp)
    rw [applyB_bad he hc (by rw [chg_non h38 hout])]; rfl
   ·skip
    try simp at h64
    have hin : c.Edge ∈ G.Edges := idx_in hk.2 h64.1 (edge_same h64.2)
    refine AW.skip ?_
    refine AW.seq ?_
    refine AW.le (σ' := ⟨_, [(2, _), (3, _), (4, _), (6, _), (7, _), (8, _), (11, _)], [(4, _), (6, _), (1500, _), (1501, _), (8, _)]⟩) (Le.sub0 rfl ⟨rfl, rfl, rfl, rfl, rfl, rfl, rfl, trivial⟩ ⟨rfl, rfl, rfl, rfl, rfl, trivial⟩) ?_
    refine AW.region ?_
    refine AWl.put (by exact R_load_pp rfl (.no rfl) rfl (.tm rfl) rfl ty43 rfl rfl) rfl ?_
    refine AWl.put (by exact R_fieldAddr_pp rfl (.no rfl) rfl (.tm rfl) fl46_0) rfl ?_
    refine AWl.put (by exact R_load_pp rfl (.no rfl) rfl (.tm rfl) rfl ty3 rfl rfl) rfl ?_
    refine AWl.adds (R_call 7100 (specDeleteEdge G c.Edge.ID (by omega) (by omega)) rfl rfl rfl (.cons (.tm rfl) rfl (.cons (.tm rfl) rfl .nil)) rfl rfl) rfl ?_
    refine AWl.put (R_movet rfl (.no rfl) rfl rfl fun _ => rfl) rfl ?_
    refine AWl.put (R_extract rfl (.no rfl) rfl rfl (fun _ => rfl) rfl) rfl ?_
    refine AWl.put (R_extract rfl (.no rfl) rfl rfl (fun _ => rfl) rfl) rfl ?_
    refine AWl.add (R_alloc 12 rfl rfl rfl in43 rfl rfl rfl) rfl ?_
    refine AWl.chgb (R_store_pb rfl rfl rfl (.tm rfl) (.tm rfl) rfl ty43 rfl rfl rfl (by kernel_rfl) rfl) ?_
    refine AWl.le (σ' := ⟨_, [(2, _), (3, _), (4, _), (6, _), (7, _), (8, _), (11, _), (12, _), (73, _)], [(4, _), (6, _), (1500, _), (1501, _), (8, _), (7100, _), (7101, _), (12, _)]⟩) (Le.sub0 rfl ⟨rfl, rfl, rfl, rfl, rfl, rfl, rfl, rfl, rfl, trivial⟩ ⟨rfl, rfl, rfl, rfl, rfl, rfl, rfl, rfl, trivial⟩) ?_
    refine AWl.av rfl rfl rfl rfl rfl ?_
    refine AWl.nil ?_
    refine AW.seq ?_
    refine AW.sr ?_
    refine AWl.mv rfl rfl rfl rfl rfl ?_
    refine AWl.put (R_not rfl (.no rfl) rfl (.tm rfl)) rfl ?_
    refine AWl.nil ?_
    refine AW.cond (.tm rfl) (fun h75 => ?_) (fun h75 => ?_)
    ·skip
     try simp at h75
     refine AW.sr ?_
     refine AWl.put (by exact R_load rfl (.no rfl) rfl (.tm rfl) ty43 rfl rfl) rfl ?_
     refine AWl.adds (R_call 7700 (specl3Copy g hz1 (by omega)) rfl rfl rfl (.cons (.tm rfl) rfl .nil) rfl rfl) rfl ?_
     refine AWl.chgb (R_store_pb rfl rfl rfl (.tm rfl) (.tm rfl) rfl ty43 rfl rfl rfl (by kernel_rfl) rfl) ?_
     refine AWl.le (σ' := ⟨_, [(2, _), (3, _), (4, _), (6, _), (7, _), (8, _), (11, _), (12, _), (13, _), (75, _)], [(4, _), (6, _), (1500, _), (1501, _), (8, _), (7100, _), (7101, _), (12, _), (7700, _), (7701, _)]⟩) (Le.sub0 rfl ⟨rfl, rfl, rfl, rfl, rfl, rfl, rfl, rfl, rfl, rfl, trivial⟩ ⟨rfl, rfl, rfl, rfl, rfl, rfl, rfl, rfl, rfl, rfl, trivial⟩) ?_
     refine AWl.ac rfl rfl rfl rfl rfl ?_
     refine AWl.nil ?_
     refine AW.ret ?_
     refine Res.many rfl (.cell rfl rfl ty43 rfl rfl (.tmp rfl .nil)) rfl ?_ (by simp)
     rw [applyB_bad he hc (by rw [chg_del h38 hin]; simpa using h75)]; rfl
    ·skip
     try simp at h75
     refine AW.skip ?_
     refine AW.region ?_
     refine AWl.put (by exact R_load_pp rfl (.no rfl) rfl (.tm rfl) rfl ty43 rfl rfl) rfl ?_
     refine AWl.chgb (R_store_pb rfl rfl rfl (.tm rfl) (.tm rfl) rfl ty43 rfl rfl rfl (by kernel_rfl) rfl) ?_
     refine AWl.nil ?_
     refine AW.le (Le.sw 1500 7100 _) ?_
     refine AW.le (Le.sw 1501 7101 _) ?_
     refine AW.region ?_
     refine AWl.mv rfl rfl rfl rfl rfl ?_
     refine AWl.put (R_add rfl (.no rfl) rfl (.tm rfl) (.const rfl) (fun _ => by omega)) rfl ?_
     refine AWl.av rfl rfl rfl rfl rfl ?_
     refine AWl.nil ?_
     repeat (with_reducible refine BlockQ.nor ?_)
     refine Round2.next (k + 1) ((delG G c.Edge.ID).1) ⟨⟨by omega, (delG_valid (by simpa using h75)).1⟩, (by rw [he, runL_at hc (by rw [chg_del h38 hin]; simpa using h75), chg_del h38 hin])⟩ (by omega) (Le.sub0 rfl ⟨rfl, rfl, rfl, rfl, rfl, trivial⟩ ⟨(by rfl), (by rfl), (by rfl), (by rfl), trivial⟩)
 ·skip
  try simp at h24
  refine AW.exit ?_
  refine AW.seq ?_
  refine AW.le (σ' := ⟨_, [(2, _), (3, _), (4, _), (6, _), (7, _)], [(4, _), (6, _), (1500, _), (1501, _)]⟩) (Le.sub0 rfl ⟨rfl, rfl, rfl, rfl, rfl, trivial⟩ ⟨rfl, rfl, rfl, rfl, trivial⟩) ?_
  refine AW.region ?_
  refine AWl.put (by exact R_load_pp rfl (.no rfl) rfl (.tm rfl) rfl ty43 rfl rfl) rfl ?_
  refine AWl.chgb (R_store_pb rfl rfl rfl (.tm rfl) (.tm rfl) rfl ty43 rfl rfl rfl (by kernel_rfl) rfl) ?_
  refine AWl.le (σ' := ⟨_, [(2, _), (3, _), (4, _), (6, _), (7, _)], [(4, _), (6, _), (1500, _), (1501, _)]⟩) (Le.sub0 rfl ⟨rfl, rfl, rfl, rfl, rfl, trivial⟩ ⟨rfl, rfl, rfl, rfl, trivial⟩) ?_
  refine AWl.ac rfl rfl rfl rfl rfl ?_
  refine AWl.nil ?_
  refine AW.ret ?_
  refine Res.many rfl (.cell rfl rfl ty43 rfl rfl (.tmp rfl .nil)) rfl ?_ (by simp)
  rw [applyB_end hg h6 he (by omega)]; rfl
theorem specApplyBatch (g : TGraph) (b : TBatch) (hz1 : g.Values.length ≤ 1073741824) (hz2 : g.Edges.length ≤ 1048576) : FnT Tryz.prog 61 [.agg (cGraph g), .agg (cBatch b)] (.tup [.agg (cGraph (applyB g b).1), .one (.v (.bool (applyB g b).2))]) := by
 refine FnT.walk Tryz.func61 rfl (by kernel_rfl) Tryz.ntmps61 rfl fun hlen w0 => ?_
 try simp [cEdge, cGraph, cStep, cChange, cBatch, cAutomaton, cProductStep, cView] at hlen
 refine AW.sr ?_
 refine AWl.put (R_boxz rfl rfl rfl (.tm rfl) (ts := _) (by rfl)) rfl ?_
 refine AWl.put (R_boxz rfl rfl rfl (.tm rfl) (ts := _) (by rfl)) rfl ?_
 refine AWl.add (R_alloc 4 rfl rfl rfl in43 rfl rfl rfl) rfl ?_
 refine AWl.ac rfl rfl rfl rfl rfl ?_
 refine AWl.nil ?_
 refine AW.seq ?_
 refine AW.sr ?_
 refine AWl.put (by exact R_load rfl (.no rfl) rfl (.tm rfl) ty43 rfl rfl) rfl ?_
 refine AWl.put (R_callz (FnT.fr (specIsValidGraph g)) rfl (.no rfl) rfl (.cons (.tm rfl) rfl .nil)) rfl ?_
 refine AWl.put (R_not rfl (.no rfl) rfl (.tm rfl)) rfl ?_
 refine AWl.mv rfl rfl rfl rfl rfl ?_
 refine AWl.put (by exact R_fieldAddr rfl (by exact .not1 rfl rfl rfl rfl) rfl (.tmp rfl (by exact fun _ => rfl)) fl60_0) rfl ?_
 refine AWl.put (by exact R_load rfl (by exact .not1 rfl rfl rfl rfl) rfl (.tmp rfl (by exact id)) ty58 rfl rfl) rfl ?_
 refine AWl.put (by exact R_lenm rfl (by exact .not1 rfl rfl rfl rfl) rfl (.tmp rfl (by exact id)) (by exact .t) Tryz.underlying58) rfl ?_
 refine AWl.put (R_gt rfl (by exact .not1 rfl rfl rfl rfl) rfl (.tmp rfl (by exact id)) (.const rfl)) rfl ?_
 refine AWl.put (R_or rfl (.no rfl) rfl (.tm rfl) (.tmp rfl (by exact id))) rfl ?_
 refine AWl.nil ?_
 refine AW.cond (.tm rfl) (fun h16 => ?_) (fun h16 => ?_)
 ·skip
  try simp at h16
  refine AW.seq ?_
  refine AW.le (σ' := ⟨_, [(0, _), (1, _), (2, _), (3, _), (4, _), (5, _)], [(4, _)]⟩) (Le.sub0 rfl ⟨rfl, rfl, rfl, rfl, rfl, rfl, trivial⟩ ⟨rfl, trivial⟩) ?_
  refine AW.region ?_
  refine AWl.put (by exact R_load rfl (.no rfl) rfl (.tm rfl) ty43 rfl rfl) rfl ?_
  refine AWl.adds (R_call 1800 (specl3Copy g hz1 (by omega)) rfl rfl rfl (.cons (.tm rfl) rfl .nil) rfl rfl) rfl ?_
  refine AWl.chgb (R_store_pb rfl rfl rfl (.tm rfl) (.tm rfl) rfl ty43 rfl rfl rfl (by kernel_rfl) rfl) ?_
  refine AWl.le (σ' := ⟨_, [(0, _), (1, _), (2, _), (3, _), (4, _), (5, _)], [(4, _), (1800, _), (1801, _)]⟩) (Le.sub0 rfl ⟨rfl, rfl, rfl, rfl, rfl, rfl, trivial⟩ ⟨rfl, rfl, rfl, trivial⟩) ?_
  refine AWl.ac rfl rfl rfl rfl rfl ?_
  refine AWl.nil ?_
  refine AW.ret ?_
  refine Res.many rfl (.cell rfl rfl ty43 rfl rfl (.tmp rfl .nil)) rfl ?_ (by simp)
  rw [applyB_no (by grind)]; rfl
 ·skip
  try simp at h16
  refine AW.skip ?_
  refine AW.seq ?_
  refine AW.le (σ' := ⟨_, [(0, _), (1, _), (2, _), (3, _), (4, _), (5, _)], [(4, _)]⟩) (Le.sub0 rfl ⟨rfl, rfl, rfl, rfl, rfl, rfl, trivial⟩ ⟨rfl, trivial⟩) ?_
  refine AW.region ?_
  refine AWl.put (by exact R_load rfl (.no rfl) rfl (.tm rfl) ty43 rfl rfl) rfl ?_
  refine AWl.put (by exact R_load rfl (.no rfl) rfl (.tm rfl) ty60 rfl rfl) rfl ?_
  refine AWl.adds (R_call 2200 (specl6Apply g b (by grind) (by grind) hz1 hz2) rfl rfl rfl (.cons (.tm rfl) rfl (.cons (.tm rfl) rfl .nil)) rfl rfl) rfl ?_
  refine AWl.put (R_movet rfl (.no rfl) rfl rfl fun _ => rfl) rfl ?_
  refine AWl.put (R_extract rfl (.no rfl) rfl rfl (fun _ => rfl) rfl) rfl ?_
  refine AWl.put (R_extract rfl (.no rfl) rfl rfl (fun _ => rfl) rfl) rfl ?_
  refine AWl.add (R_alloc 6 rfl rfl rfl in43 rfl rfl rfl) rfl ?_
  refine AWl.chgb (R_store_pb rfl rfl rfl (.tm rfl) (.tm rfl) rfl ty43 rfl rfl rfl (by kernel_rfl) rfl) ?_
  refine AWl.le (σ' := ⟨_, [(0, _), (1, _), (2, _), (3, _), (4, _), (5, _), (6, _), (24, _)], [(4, _), (2200, _), (2201, _), (6, _)]⟩) (Le.sub0 rfl ⟨rfl, rfl, rfl, rfl, rfl, rfl, rfl, rfl, trivial⟩ ⟨rfl, rfl, rfl, rfl, trivial⟩) ?_
  refine AWl.av rfl rfl rfl rfl rfl ?_
  refine AWl.nil ?_
  refine AW.sr ?_
  refine AWl.put (by exact R_load_pp rfl (.no rfl) rfl (.tm rfl) rfl ty43 rfl rfl) rfl ?_
  refine AWl.mv rfl rfl rfl rfl rfl ?_
  refine AWl.chgb (R_store_pb rfl rfl rfl (.tm rfl) (.tm rfl) rfl ty43 rfl rfl rfl (by kernel_rfl) rfl) ?_
  refine AWl.le (σ' := ⟨_, [(0, _), (1, _), (2, _), (3, _), (4, _), (5, _), (6, _), (7, _), (26, _)], [(4, _), (2200, _), (2201, _), (6, _)]⟩) (Le.sub0 rfl ⟨rfl, rfl, rfl, rfl, rfl, rfl, rfl, rfl, rfl, trivial⟩ ⟨rfl, rfl, rfl, rfl, trivial⟩) ?_
  refine AWl.av rfl rfl rfl rfl rfl ?_
  refine AWl.nil ?_
  refine AW.ret ?_
  refine Res.many rfl (.cell rfl rfl ty43 rfl rfl (.tmp rfl .nil)) rfl ?_ (by simp)
  rfl
end Go.Proofs.YtoealglkenhphaaGreat
