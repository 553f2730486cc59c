import Derived.Test.YtbkhopfpejhnlaaGreatDoorB104ta
import Derived.Test.YtbkhopfpejhnlaaGreatDoorDraw3ta
import Derived.Test.YtbkhopfpejhnlaaGreatDoorDraw5ta
set_option linter.unusedVariables false
set_option linter.unusedSimpArgs false
set_option maxHeartbeats 1000000
set_option maxRecDepth 100000
namespace Go.Q
open Go.RowKit Go.D
def dGr : TGraph := ⟨[], []⟩
def hgOk (h : THistory) (g : TGraph) : Bool := validG g && decide (g.Values = (h.Graphs[0]?.getD dGr).Values)
def validH (h : THistory) : Bool := h.Graphs.all (hgOk h) && (inB h.Graphs.length 1 8 && inB h.First 1 (999 - h.Graphs.length + 1))
def lastV (h : THistory) : Int := if validH h = true then h.First + h.Graphs.length - 1 else 0
def goodH (h : THistory) : Prop := 0 < h.Graphs.length ∧ h.Graphs.length ≤ 8 ∧ ∀ g ∈ h.Graphs, validG g = true
theorem validH_r {h : THistory} (hv : validH h = true) : (1 ≤ h.Graphs.length ∧ h.Graphs.length ≤ 8) ∧ 1 ≤ h.First ∧ h.First ≤ 999 - h.Graphs.length + 1 := by
 unfold validH inB at hv
 simp only [Bool.and_eq_true, decide_eq_true_eq] at hv
 omega
theorem validH_one {g : TGraph} {v : Int} (hg : validG g = true) (h1 : 1 ≤ v) (h2 : v ≤ 4) : validH ⟨v, [g]⟩ = true := by
 unfold validH hgOk inB
 simp [hg]
 omega
theorem validG_z {g : TGraph} (h : validG g = true) : g.Values.length ≤ 5 ∧ g.Edges.length ≤ 12 := by
 have := edges_12 h; omega
theorem goodH_one {g : TGraph} {v : Int} (hg : validG g = true) : goodH ⟨v, [g]⟩ := ⟨by simp, by simp, by simpa using hg⟩
theorem goodH_more {h : THistory} {g : TGraph} {v : Int} (hh : goodH h) (hg : validG g = true) (hl : h.Graphs.length + 1 ≤ 8) : goodH ⟨v, h.Graphs ++ [g]⟩ :=
 ⟨by simp, by simp; omega, fun x hx => by
  rcases List.mem_append.1 hx with hx | hx
  · exact hh.2.2 x hx
  · rw [List.mem_singleton.1 hx]; exact hg⟩
theorem goodH_shift {h : THistory} {g : TGraph} {v : Int} (hh : goodH h) (hg : validG g = true) : goodH ⟨v, (h.Graphs ++ [g]).drop 1⟩ :=
 ⟨by have := hh.1; simp; omega, by have := hh.2.1; simp; omega, fun x hx => by
  rcases List.mem_append.1 (List.mem_of_mem_drop hx) with hx | hx
  · exact hh.2.2 x hx
  · rw [List.mem_singleton.1 hx]; exact hg⟩
theorem applyB_ok {g : TGraph} {b : TBatch} (hg : validG g = true) : validG (applyB g b).1 = true := by
 cases h : (applyB g b).2 with
 | true => exact (applyB_valid h).1
 | false =>
  unfold applyB at h ⊢
  split
  · rename_i hc; rw [if_pos hc] at h; rw [hc.2.2] at h; cases h
  · exact hg
theorem hg_eq {h : THistory} {x y : TGraph} (hy : h.Graphs[0]? = some y) : hgOk h x = (validG x && decide (cmpL x.Values y.Values = 0)) := by
 unfold hgOk; rw [hy, cmpL_zero]; rfl
def hOut (x : THistory × Bool) : V := .tup [.agg (cHistory x.1), .one (.v (.bool x.2))]
end Go.Q
namespace Go.Proofs.YtbkhopfpejhnlaaGreatDoor
open Go.RowKit Go.Q Go.D
set_option maxRecDepth 100000 in
theorem specIsValidHistory (h : THistory) : FnT Tryz.prog 99 [.agg (cHistory h)] (.a (.one (.v (.bool (validH h))))) := by
 refine FnT.walk Tryz.func99 U (by kernel_rfl) Tryz.ntmps99 U fun hlen w0 => ?_
 try simp [cEdge, cGraph, cChange, cBatch, cHistory] at hlen
 refine AW.sr ?_
 refine AWl.p (R_boxz U U U (.tm U) (ts := _) (by rfl)) U ?_
 refine AWl.ac ?_
 refine AWl.nil (AW.seq ?_)
 refine AW.sr ?_
 refine AWl.ac ?_
 refine AWl.nil (AW.block ?_)
 refine AW.loop (β := Nat) (fun x => x ≤ (h.Graphs).length ∧ ∀ j y, j < x → (h.Graphs)[j]? = some y → (hgOk h) y = true) (fun x => ⟨_, [(3, (true, .a (.one (.t (.v (.int .i64 (x : Nat))))))), (1, _)], []⟩) (fun x => (h.Graphs).length - x) (0) ⟨Nat.zero_le _, fun j y hj => absurd hj (Nat.not_lt_zero j)⟩ (Le.sub0 U ⟨U, U, Y⟩ trivial) ?_
 intro k hk
 refine AW.seq ?_
 refine AW.sr ?_
 refine AWl.mv ?_
 refine AWl.p (by exact R_fieldAddr U (.no U) U (.tm U) fl102_1) U ?_
 refine AWl.p (by exact R_load U (.no U) U (.tm U) ty100 U U) U ?_
 refine AWl.p (by exact R_lenm U (.no U) U (.tm U) (by exact .t) Tryz.underlying100) U ?_
 refine AWl.p (R_lt U (.no U) U (.tm U) (.tm U)) U ?_
 refine AWl.nil ?_
 refine AW.cond (.tm U) (fun hlt => ?_) (fun hlt => ?_)
 · skip
   try simp at hlt
   obtain ⟨y, hy⟩ : ∃ ξ, h.Graphs[0]? = some ξ := ⟨_, List.getElem?_eq_getElem (by omega)⟩
   obtain ⟨x, hx⟩ : ∃ ξ, (h.Graphs)[k]? = some ξ := ⟨_, List.getElem?_eq_getElem (by exact hlt)⟩
   refine AW.skip ?_
   refine AW.seq ?_
   refine AW.block ?_
   refine AW.seq ?_
   refine AW.drawn 22 (nthB [[], [0], [], [0, 1, 2], [0, 1, 2, 3], [0, 1, 2, 3, 4], [0, 1, 2, 3, 4, 5], [0, 1, 2, 3, 4, 5, 6], [0, 1, 2, 3, 4, 5, 6, 7], [0, 1, 2, 3, 4, 5, 6, 7, 8], [0, 1, 2, 3, 4, 5, 6, 7], [0, 1, 2, 3, 4, 5, 6, 7, 8, 9, 10], [0, 1, 2, 3, 4, 5, 6, 7, 8, 9, 10, 11], [0, 1, 2, 3, 4, 5, 6, 7, 8, 9, 10, 11, 12], [0, 1, 2, 3, 4, 5, 6, 7], [0, 1, 2, 3, 4, 5, 6, 7, 14], [0, 1, 2, 3, 4, 5, 6, 7, 14, 15], [0, 1, 2, 3, 4, 5, 6, 7, 14, 15, 16], [0, 1, 2, 3, 4, 5, 6, 7, 14, 15, 16, 17], [0, 1, 2, 3, 4, 5, 6, 7, 8, 9, 10, 11, 12, 13, 14, 15, 16, 17, 18], [0, 1, 2, 3, 4, 5, 6, 7, 8, 9, 10, 11, 12, 13, 14, 15, 16, 17, 18, 19], [0, 1, 2, 3, 4, 5, 6, 7, 8, 9, 10, 11, 12, 13, 14, 15, 16, 17, 18, 19, 20]]) (by kernel_rfl) (by kernel_rfl) (by kernel_rfl) ?_
   refine DrawC.step U U U (Loc.of U fun σ' hs => (by exact R_fieldAddr U (.no U) (hd_sup hs U) (.tm (hs.slots _ _ U)) fl102_1)) ?_
   refine DrawC.step U U U (Loc.of U fun σ' hs => (by exact R_load U (.no U) (hd_sup hs U) (.tm (hs.slots _ _ U)) ty100 U U)) ?_
   refine DrawC.step U U U (Loc.of U fun σ' hs => R_move U (.no U) (hd_sup hs U) (.tm (hs.slots _ _ U))) ?_
   refine DrawC.step U U U (Loc.of U fun σ' hs => (by exact R_indexAddr U (.no U) (hd_sup hs U) (.tm (hs.slots _ _ U)) (.tm (hs.slots _ _ U)) Tryz.underlying100 ty83 (fun _ => ⟨by omega, (by exact map_get (by assumption))⟩))) ?_
   refine DrawC.step U U U (Loc.of U fun σ' hs => (by exact R_load U (.no U) (hd_sup hs U) (.tm (hs.slots _ _ U)) ty83 U U)) ?_
   refine DrawC.step U U U (Loc.of U fun σ' hs => R_callz (FnT.fr (specIsValidGraph _)) U (.no U) (hd_sup hs U) (.cons (.tm (hs.slots _ _ U)) (readA_sup hs U) .nil)) ?_
   refine DrawC.step U U U (Loc.of U fun σ' hs => R_not U (.no U) (hd_sup hs U) (.tm (hs.slots _ _ U))) ?_
   refine DrawC.step U U U (Loc.of U fun σ' hs => R_move U (.no U) (hd_sup hs U) (.tm (hs.slots _ _ U))) ?_
   refine DrawC.step U U U (Loc.of U fun σ' hs => (by exact R_fieldAddr U (by exact .not1 U U (hs.slots _ _ U) (by rw [hs.n]; rfl)) (hd_sup hs U) (.tmp (hs.slots _ _ U) (by exact fun _ => rfl)) fl102_1)) ?_
   refine DrawC.step U U U (Loc.of U fun σ' hs => (by exact R_load U (by exact .not1 U U (hs.slots _ _ U) (by rw [hs.n]; rfl)) (hd_sup hs U) (.tmp (hs.slots _ _ U) (by exact id)) ty100 U U)) ?_
   refine DrawC.step U U U (Loc.of U fun σ' hs => R_move U (by exact .not1 U U (hs.slots _ _ U) (by rw [hs.n]; rfl)) (hd_sup hs U) (.tmp (hs.slots _ _ U) (by exact fun _ => rfl))) ?_
   refine DrawC.step U U U (Loc.of U fun σ' hs => (by exact R_indexAddr U (by exact .not1 U U (hs.slots _ _ U) (by rw [hs.n]; rfl)) (hd_sup hs U) (.tmp (hs.slots _ _ U) (by exact id)) (.tmp (hs.slots _ _ U) (by exact id)) Tryz.underlying100 ty83 (fun hq => by (try simp at hq); exact ⟨by omega, (by exact map_get (by assumption))⟩))) ?_
   refine DrawC.step U U U (Loc.of U fun σ' hs => (by exact R_fieldAddr U (by exact .not1 U U (hs.slots _ _ U) (by rw [hs.n]; rfl)) (hd_sup hs U) (.tmp (hs.slots _ _ U) (by exact id)) fl83_0)) ?_
   refine DrawC.step U U U (Loc.of U fun σ' hs => (by exact R_load U (by exact .not1 U U (hs.slots _ _ U) (by rw [hs.n]; rfl)) (hd_sup hs U) (.tmp (hs.slots _ _ U) (by exact id)) ty55 U U)) ?_
   refine DrawC.step U U U (Loc.of U fun σ' hs => (by exact R_fieldAddr U (by exact .not1 U U (hs.slots _ _ U) (by rw [hs.n]; rfl)) (hd_sup hs U) (.tmp (hs.slots _ _ U) (by exact fun _ => rfl)) fl102_1)) ?_
   refine DrawC.step U U U (Loc.of U fun σ' hs => (by exact R_load U (by exact .not1 U U (hs.slots _ _ U) (by rw [hs.n]; rfl)) (hd_sup hs U) (.tmp (hs.slots _ _ U) (by exact id)) ty100 U U)) ?_
   refine DrawC.step U U U (Loc.of U fun σ' hs => (by exact R_indexAddr U (by exact .not1 U U (hs.slots _ _ U) (by rw [hs.n]; rfl)) (hd_sup hs U) (.tmp (hs.slots _ _ U) (by exact id)) (.const U) Tryz.underlying100 ty83 (fun _ => ⟨by omega, map_get hy⟩))) ?_
   refine DrawC.step U U U (Loc.of U fun σ' hs => (by exact R_fieldAddr U (by exact .not1 U U (hs.slots _ _ U) (by rw [hs.n]; rfl)) (hd_sup hs U) (.tmp (hs.slots _ _ U) (by exact id)) fl83_0)) ?_
   refine DrawC.step U U U (Loc.of U fun σ' hs => (by exact R_load U (by exact .not1 U U (hs.slots _ _ U) (by rw [hs.n]; rfl)) (hd_sup hs U) (.tmp (hs.slots _ _ U) (by exact id)) ty55 U U)) ?_
   refine DrawC.step U U U (Loc.of U fun σ' hs => R_callq U (by exact .not1 U U (hs.slots _ _ U) (by rw [hs.n]; rfl)) (hd_sup hs U) (.cons (.tmp (hs.slots _ _ U) (by exact id)) (readA_sup hs U) (.cons (.tmp (hs.slots _ _ U) (by exact id)) (readA_sup hs U) .nil)) fun hq => FnT.fr (specl2Cmp _ _)) ?_
   refine DrawC.step U U U (Loc.of U fun σ' hs => R_ne U (by exact .not1 U U (hs.slots _ _ U) (by rw [hs.n]; rfl)) (hd_sup hs U) (.tmp (hs.slots _ _ U) (by exact id)) (.const U)) ?_
   refine DrawC.step U U U (Loc.of U fun σ' hs => R_or U (.no U) (hd_sup hs U) (.tm (hs.slots _ _ U)) (.tmp (hs.slots _ _ U) (by exact id))) ?_
   refine DrawC.fin U U ?_
   refine AWl.nil ?_
   refine AW.cond (.tm U) (fun h32 => ?_) (fun h32 => ?_)
   · skip
     try simp at h32
     refine AW.seq ?_
     refine AW.le (σ' := ⟨_, [(1, _), (3, _)], []⟩) (Le.sub0 U ⟨U, U, Y⟩ trivial) ?_
     refine AW.region ?_
     refine AWl.ac ?_
     refine AWl.nil (AW.ret ?_)
     refine Res.v U U ?_
     unfold validH; rw [not_all hx (by rw [hg_eq hy]; revert h32; cases validG x <;> simp)]; rfl
   · skip
     try simp at h32
     refine AW.skip ?_
     refine AW.le (σ' := ⟨_, [(1, _), (3, _)], []⟩) (Le.sub0 U ⟨U, U, Y⟩ trivial) ?_
     refine AW.region ?_
     refine AWl.mv ?_
     refine AWl.p (R_add U (.no U) U (.tm U) (.const U) (fun _ => by omega)) U ?_
     refine AWl.av ?_
     refine AWl.nil ?_
     refine Round.next (k + 1) ⟨by omega, each_succ hk.2 hx (by rw [hg_eq hy]; revert h32; cases validG x <;> simp)⟩ (by omega) (Le.sub0 rfl ⟨rfl, rfl, Y⟩ trivial)
 · skip
   try simp at hlt
   refine AW.exit ?_
   refine AW.sr ?_
   refine AWl.p (by exact R_fieldAddr U (.no U) U (.tm U) fl102_1) U ?_
   refine AWl.p (by exact R_load U (.no U) U (.tm U) ty100 U U) U ?_
   refine AWl.p (by exact R_lenm U (.no U) U (.tm U) (by exact .t) Tryz.underlying100) U ?_
   refine AWl.p (R_callz (FnT.fr (specl1In _ _ _)) U (.no U) U (.cons (.tm U) U (.cons (.const U) U (.cons (.const U) U .nil)))) U ?_
   refine AWl.mv ?_
   refine AWl.p (by exact R_fieldAddr U (by exact .yes1 U U U U) U (.tmp U (by exact fun _ => rfl)) fl102_0) U ?_
   refine AWl.p (by exact R_load U (by exact .yes1 U U U U) U (.tmp U (by exact id)) ty3 U U) U ?_
   refine AWl.p (by exact R_fieldAddr U (by exact .yes1 U U U U) U (.tmp U (by exact fun _ => rfl)) fl102_1) U ?_
   refine AWl.p (by exact R_load U (by exact .yes1 U U U U) U (.tmp U (by exact id)) ty100 U U) U ?_
   refine AWl.p (by exact R_lenm U (by exact .yes1 U U U U) U (.tmp U (by exact id)) (by exact .t) Tryz.underlying100) U ?_
   refine AWl.p (R_sub U (by exact .yes1 U U U U) U (.const U) (.tmp U (by exact id)) (fun hq => by first | omega | (simp at hq; omega))) U ?_
   refine AWl.p (R_add U (by exact .yes1 U U U U) U (.tmp U (by exact id)) (.const U) (fun hq => by first | omega | (simp at hq; omega))) U ?_
   refine AWl.p (R_callq U (by exact .yes1 U U U U) U (.cons (.tmp U (by exact id)) U (.cons (.const U) U (.cons (.tmp U (by exact id)) U .nil))) fun hq => FnT.fr (specl1In _ _ _)) U ?_
   refine AWl.p (R_and U (.no U) U (.tm U) (.tmp U (by exact id))) U ?_
   refine AWl.av ?_
   refine AWl.nil (AW.ret ?_)
   refine Res.v U U ?_
   unfold validH; rw [each_all hk.2 (by omega)]; simp
set_option maxRecDepth 100000 in
theorem specLatestVersion (h : THistory) : FnT Tryz.prog 98 [.agg (cHistory h)] (.a (.one (.v (.int .i64 (lastV h))))) := by
 refine FnT.walk Tryz.func98 U (by kernel_rfl) Tryz.ntmps98 U fun hlen w0 => ?_
 try simp [cEdge, cGraph, cChange, cBatch, cHistory] at hlen
 refine AW.sr ?_
 refine AWl.p (R_boxz U U U (.tm U) (ts := _) (by rfl)) U ?_
 refine AWl.ac ?_
 refine AWl.nil (AW.seq ?_)
 refine AW.sr ?_
 refine AWl.p (by exact R_load U (.no U) U (.tm U) ty102 U U) U ?_
 refine AWl.p (R_callz (FnT.fr (specIsValidHistory h)) U (.no U) U (.cons (.tm U) U .nil)) U ?_
 refine AWl.p (R_not U (.no U) U (.tm U)) U ?_
 refine AWl.nil ?_
 refine AW.cond (.tm U) (fun h5 => ?_) (fun h5 => ?_)
 · skip
   try simp at h5
   refine AW.sr ?_
   refine AWl.ac ?_
   refine AWl.nil (AW.ret ?_)
   refine Res.v U U ?_
   unfold lastV; rw [if_neg (by simpa using h5)]
 · skip
   try simp at h5
   have hv := validH_r (by simpa using h5)
   refine AW.skip ?_
   refine AW.sr ?_
   refine AWl.p (by exact R_fieldAddr U (.no U) U (.tm U) fl102_0) U ?_
   refine AWl.p (by exact R_load U (.no U) U (.tm U) ty3 U U) U ?_
   refine AWl.p (by exact R_fieldAddr U (.no U) U (.tm U) fl102_1) U ?_
   refine AWl.p (by exact R_load U (.no U) U (.tm U) ty100 U U) U ?_
   refine AWl.p (by exact R_lenm U (.no U) U (.tm U) (by exact .t) Tryz.underlying100) U ?_
   refine AWl.p (R_add U (.no U) U (.tm U) (.tm U) (fun _ => by omega)) U ?_
   refine AWl.p (R_sub U (.no U) U (.tm U) (.const U) (fun _ => by omega)) U ?_
   refine AWl.av ?_
   refine AWl.nil (AW.ret ?_)
   refine Res.v U U ?_
   unfold lastV; rw [if_pos (by simpa using h5)]
set_option maxRecDepth 100000 in
theorem specl7Copy (h : THistory) (hh : goodH h) : FnT Tryz.prog 128 [.agg (cHistory h)] (.a (.agg (cHistory h))) := by
 refine FnT.walk Tryz.func128 U (by kernel_rfl) Tryz.ntmps128 U fun hlen w0 => ?_
 try simp [cEdge, cGraph, cChange, cBatch, cHistory] at hlen
 have hz1 := hh.1
 have hz2 := hh.2.1
 refine AW.sr ?_
 refine AWl.p (R_boxz U U U (.tm U) (ts := _) (by rfl)) U ?_
 refine AWl.add (R_alloc 2 U U U in102 U U U) U ?_
 refine AWl.nil (AW.sr ?_)
 refine AWl.p (by exact R_fieldAddr U (.no U) U (.tm U) fl102_0) U ?_
 refine AWl.p (by exact R_load U (.no U) U (.tm U) ty3 U U) U ?_
 refine AWl.p (R_build (ps := [(0, .tmp 7)]) U U U in102 U U st102 (.cons (.tm U) U U fp102_0 .nil) U) U ?_
 refine AWl.nilA (i := 8) 20001 2 1 U U U ?_
 refine AWl.add (R_alloc 3 U U U in102 U U U) U ?_
 refine AWl.chgb (R_store_pb U U U (.tm U) (.tm U) U ty102 U U U (by kernel_rfl) U) ?_
 refine AWl.nil (AW.seq ?_)
 refine AW.sr ?_
 refine AWl.ac ?_
 refine AWl.nil (AW.block ?_)
 refine AW.loop1 (fun (k : Nat) => (k ≤ h.Graphs.length) ∧ True) (fun (k : Nat) => ⟨_, [(4, (true, .a (.one (.t (.v (.int .i64 (k : Nat))))))), (1, _), (2, _), (3, _)], [(2, .box [.t (.v (.int .i64 0)), .t (.v (.slice none 0 0))]), (3, .box [.t (.v (.int .i64 h.First)), .rf 20001]), (20001, .row 2 ((h.Graphs.take k).map cGraph))]⟩) (fun (k : Nat) => h.Graphs.length - k) (0) ⟨Nat.zero_le _, Y⟩ (Le.sub0 U ⟨U, U, U, U, Y⟩ ⟨U, U, U, Y⟩) ?_
 rintro k ⟨hk, he⟩
 refine AW.seq ?_
 refine AW.sr ?_
 refine AWl.mv ?_
 refine AWl.p (by exact R_fieldAddr U (.no U) U (.tm U) fl102_1) U ?_
 refine AWl.p (by exact R_load U (.no U) U (.tm U) ty100 U U) U ?_
 refine AWl.p (by exact R_lenm U (.no U) U (.tm U) (by exact .t) Tryz.underlying100) U ?_
 refine AWl.p (R_lt U (.no U) U (.tm U) (.tm U)) U ?_
 refine AWl.nil ?_
 refine AW.cond (.tm U) (fun h13 => ?_) (fun h13 => ?_)
 · skip
   try simp at h13
   obtain ⟨x, hx⟩ : ∃ ξ, h.Graphs[k]? = some ξ := ⟨_, List.getElem?_eq_getElem (by omega)⟩
   have hx9 := validG_z (hh.2.2 x (List.mem_of_getElem? hx))
   refine AW.skip ?_
   refine AW.seq ?_
   refine AW.block ?_
   refine AW.sr ?_
   refine AWl.p (by exact R_fieldAddr U (.no U) U (.tm U) fl102_1) U ?_
   refine AWl.p (by exact R_load U (.no U) U (.tm U) ty100 U U) U ?_
   refine AWl.mv ?_
   refine AWl.p (by exact R_indexAddr U (.no U) U (.tm U) (.tm U) Tryz.underlying100 ty83 (fun _ => ⟨by omega, (map_get hx)⟩)) U ?_
   refine AWl.p (by exact R_load U (.no U) U (.tm U) ty83 U U) U ?_
   refine AWl.adds (R_call 2100 (specl3Copy x (by omega) (by omega)) U U U (.cons (.tm U) U .nil) U U) U ?_
   refine AWl.add (R_alloc 5 U U U in83 U U U) U ?_
   refine AWl.chgb (R_store_pb U U U (.tm U) (.tm U) U ty83 U U U (by kernel_rfl) U) ?_
   refine AWl.nil (AW.region ?_)
   refine AWl.p (by exact R_fieldAddr_pp U (.no U) U (.tm U) fl102_1) U ?_
   refine AWl.p (by exact R_load_pp U (.no U) U (.tm U) U ty100 U U) U ?_
   refine AWl.p (by exact R_load_pp U (.no U) U (.tm U) U ty83 U U) U ?_
   refine AWl.absadd (R_list (xs := [.tmp 24]) 25 U U U (.cons (.tm U) U U .nil) Tryz.underlying100 in83 U U U U) U ?_
   refine AWl.abschgput (R_append_own U U U (.tm U) U (.tm U) U U Tryz.underlying100 in83 U (by (simp [chunk]; omega)) (by (unfold maxLen; simp [chunk]; omega))) U ?_
   refine AWl.p (by exact R_fieldAddr_pp U (.no U) U (.tm U) fl102_1) U ?_
   refine AWl.chgb (R_store_pb U U U (.tm U) (.tm U) U ty100 U U U (by kernel_rfl) U) ?_
   refine AWl.nil (AW.region ?_)
   refine AWl.mv ?_
   refine AWl.p (R_add U (.no U) U (.tm U) (.const U) (fun _ => by omega)) U ?_
   refine AWl.av ?_
   refine AWl.nil ?_
   repeat (with_reducible refine BlockQ.nor ?_)
   refine Round1.next (k + 1) ⟨by omega, Y⟩ (by omega) (Le.sub0 rfl ⟨rfl, rfl, rfl, rfl, Y⟩ ⟨(by rfl), (by rfl), (by refine congrArg (fun r => some (R.row 2 r)) ?_; rw [take_at hx]; simp; try rfl), Y⟩)
 · skip
   try simp at h13
   refine AW.exit ?_
   refine AW.sr ?_
   refine AWl.p (by exact R_load_pp U (.no U) U (.tm U) U ty102 U U) U ?_
   refine AWl.chgb (R_store_pb U U U (.tm U) (.tm U) U ty102 U U U (by kernel_rfl) U) ?_
   refine AWl.nil (AW.ret ?_)
   refine Res.one U (.cell U U ty102 U U .nil) U ?_
   rw [List.take_of_length_le (l := h.Graphs) (by omega)]; rfl
set_option maxRecDepth 100000 in
theorem specNewHistory (g : TGraph) (v : Int) (hg : validG g = true) (h1 : 1 ≤ v) (h4 : v ≤ 4) : FrX Tryz.prog 101 [.agg (cGraph g), .one (.v (.int .i64 v))] (fun x => goodH x.1) hOut := by
 refine FrX.walk Tryz.func101 rfl (by kernel_rfl) Tryz.ntmps101 rfl fun w0 => ?_
 have hz := validG_z hg
 refine AW.sr ?_
 refine AWl.p (R_boxz U U U (.tm U) (ts := _) (by rfl)) U ?_
 refine AWl.add (R_alloc 4 U U U in102 U U U) U ?_
 refine AWl.ac ?_
 refine AWl.nil (AW.sr ?_)
 refine AWl.mv ?_
 refine AWl.p (by exact R_load U (.no U) U (.tm U) ty83 U U) U ?_
 refine AWl.adds (R_call 900 (specl3Copy g (by omega) (by omega)) U U U (.cons (.tm U) U .nil) U U) U ?_
 refine AWl.absadd (R_list (xs := [.tmp 9]) 10 U U U (.cons (.tm U) U U .nil) Tryz.underlying100 in83 U U U U) U ?_
 refine AWl.p (R_build (ps := [(0, .tmp 7), (1, .tmp 10)]) U U U in102 U U st102 (.cons (.tm U) U U fp102_0 (.cons (.tm U) U U fp102_1 .nil)) U) U ?_
 refine AWl.add (R_alloc 6 U U U in102 U U U) U ?_
 refine AWl.chgb (R_store_pb U U U (.tm U) (.tm U) U ty102 U U U (by kernel_rfl) U) ?_
 refine AWl.nil (AW.seq ?_)
 refine AW.sr ?_
 refine AWl.p (by exact R_load_pp U (.no U) U (.tm U) U ty102 U U) U ?_
 refine AWl.p (R_callz (FnT.fr (specIsValidHistory ⟨v, [g]⟩)) U (.no U) U (.cons (.tm U) U .nil)) U ?_
 refine AWl.p (R_not U (.no U) U (.tm U)) U ?_
 refine AWl.nil ?_
 refine AW.cond (.tm U) (fun h14 => ?_) (fun h14 => ?_)
 · exact absurd h14 (by exact absurd (validH_one hg h1 h4) (by simpa using h14))
 · skip
   try simp at h14
   refine AW.skip ?_
   refine AW.sr ?_
   refine AWl.p (by exact R_load_pp U (.no U) U (.tm U) U ty102 U U) U ?_
   refine AWl.chgb (R_store_pb U U U (.tm U) (.tm U) U ty102 U U U (by kernel_rfl) U) ?_
   refine AWl.ac ?_
   refine AWl.nil (AW.ret ?_)
   apply ERRes.mk (x := (⟨v, [g]⟩, true))
   case h =>
    refine ResR.many U (.cell U U ty102 U U (.tmp U .nil)) U ?_ (by simp)
    rfl
   case hp => exact goodH_one hg
set_option maxRecDepth 100000 in
theorem specAppendBatch (h : THistory) (b : TBatch) (hh : goodH h) : FrX Tryz.prog 100 [.agg (cHistory h), .agg (cBatch b)] (fun x => goodH x.1) hOut := by
 refine FrX.walk Tryz.func100 rfl (by kernel_rfl) Tryz.ntmps100 rfl fun w0 => ?_
 obtain ⟨x, hx⟩ : ∃ ξ, h.Graphs[h.Graphs.length - 1]? = some ξ := ⟨_, List.getElem?_eq_getElem (by have := hh.1; omega)⟩
 have hxv := hh.2.2 x (List.mem_of_getElem? hx)
 have hxz := validG_z hxv
 refine AW.sr ?_
 refine AWl.p (R_boxz U U U (.tm U) (ts := _) (by rfl)) U ?_
 refine AWl.p (R_boxz U U U (.tm U) (ts := _) (by rfl)) U ?_
 refine AWl.add (R_alloc 4 U U U in102 U U U) U ?_
 refine AWl.ac ?_
 refine AWl.nil (AW.sr ?_)
 refine AWl.p (by exact R_load U (.no U) U (.tm U) ty102 U U) U ?_
 refine AWl.adds (R_call 1000 (specl7Copy h hh) U U U (.cons (.tm U) U .nil) U U) U ?_
 refine AWl.add (R_alloc 6 U U U in102 U U U) U ?_
 refine AWl.chgb (R_store_pb U U U (.tm U) (.tm U) U ty102 U U U (by kernel_rfl) U) ?_
 refine AWl.nil (AW.seq ?_)
 refine AW.sr ?_
 refine AWl.p (by exact R_load U (.no U) U (.tm U) ty102 U U) U ?_
 refine AWl.p (R_callz (FnT.fr (specIsValidHistory h)) U (.no U) U (.cons (.tm U) U .nil)) U ?_
 refine AWl.p (R_not U (.no U) U (.tm U)) U ?_
 refine AWl.mv ?_
 refine AWl.p (by exact R_load U (by exact .not1 U U U U) U (.tmp U (by exact fun _ => rfl)) ty102 U U) U ?_
 refine AWl.p (R_callq U (by exact .not1 U U U U) U (.cons (.tmp U (by exact id)) U .nil) fun hq => FnT.fr (specLatestVersion h)) U ?_
 refine AWl.p (R_eq U (by exact .not1 U U U U) U (.tmp U (by exact id)) (.const U)) U ?_
 refine AWl.p (R_or U (.no U) U (.tm U) (.tmp U (by exact id))) U ?_
 refine AWl.nil ?_
 refine AW.cond (.tm U) (fun h18 => ?_) (fun h18 => ?_)
 · skip
   try simp at h18
   refine AW.sr ?_
   refine AWl.p (by exact R_load_pp U (.no U) U (.tm U) U ty102 U U) U ?_
   refine AWl.chgb (R_store_pb U U U (.tm U) (.tm U) U ty102 U U U (by kernel_rfl) U) ?_
   refine AWl.ac ?_
   refine AWl.nil (AW.ret ?_)
   apply ERRes.mk (x := (h, false))
   case h =>
    refine ResR.many U (.cell U U ty102 U U (.tmp U .nil)) U ?_ (by simp)
    rfl
   case hp => exact hh
 · skip
   try simp at h18
   have hv := validH_r (h := h) (by revert h18; cases validH h <;> simp)
   refine AW.skip ?_
   refine AW.seq ?_
   refine AW.le (σ' := ⟨_, [(0, _), (1, _), (2, _), (3, _), (4, _), (5, _), (6, _), (9, _), (10, _), (11, _), (12, _), (13, _), (14, _), (15, _), (16, _), (17, _), (18, _)], [(4, _), (1000, _), (6, _)]⟩) (Le.sub0 U ⟨U, U, U, U, U, U, U, U, U, U, U, U, U, U, U, U, U, Y⟩ ⟨U, U, U, Y⟩) ?_
   apply AW.drawnH (N := 15) (k := 13) (Hs := [0, 1, 2, 3, 4, 5, 6, 7, 8]) (ms := [[], [9], [13], [9, 10], [9, 13], [9, 10, 11], [9, 10, 12], [9, 10, 13], [9, 10, 11, 12], [9, 10, 11, 13], [9, 10, 12, 13], [9, 10, 11, 12, 13], [9, 10, 11, 13, 14], [9, 10, 11, 12, 13, 14]]) (es := [(0, 9, 1), (0, 13, 2), (1, 10, 3), (1, 13, 4), (2, 9, 4), (3, 11, 5), (3, 12, 6), (3, 13, 7), (4, 10, 7), (5, 12, 8), (6, 11, 8), (5, 13, 9), (7, 11, 9), (6, 13, 10), (7, 12, 10), (8, 13, 11), (9, 12, 11), (10, 11, 11), (9, 14, 12), (11, 14, 13), (12, 12, 13)]) (σ1 := _) (SM := ⟨_, [(0, _), (1, _), (2, _), (3, _), (4, _), (5, _), (6, _), (9, _), (10, _), (11, _), (12, _), (13, _), (14, _), (15, _), (16, _), (17, _), (18, _), (21, _), (22, _), (23, _), (24, _), (25, _), (26, _), (27, _), (28, _), (29, _)], [(4, _), (1000, _), (6, _)]⟩)
   case hm => kernel_rfl
   case hB => kernel_rfl
   case hP => kernel_rfl
   case hL => kernel_rfl
   case hN => rfl
   case hpre =>
    apply PreOk.step (P := Tryz.prog) 0 rfl ((by exact R_fieldAddr rfl (.no rfl) rfl (.tm rfl) fl102_1)) (by exact HasV.ad (x := .tmp 2) (.tm rfl)) rfl rfl rfl
    apply PreOk.step (P := Tryz.prog) 1 rfl ((by exact R_load rfl (.no rfl) rfl (.tm rfl) ty100 rfl rfl)) (by exact HasV.ld (x := .tmp 21) (.tm rfl) rfl rfl) rfl rfl rfl
    apply PreOk.step (P := Tryz.prog) 2 rfl ((by exact R_fieldAddr rfl (.no rfl) rfl (.tm rfl) fl102_1)) (by exact HasV.ad (x := .tmp 2) (.tm rfl)) rfl rfl rfl
    apply PreOk.step (P := Tryz.prog) 3 rfl ((by exact R_load rfl (.no rfl) rfl (.tm rfl) ty100 rfl rfl)) (by exact HasV.ld (x := .tmp 23) (.tm rfl) rfl rfl) rfl rfl rfl
    apply PreOk.step (P := Tryz.prog) 4 rfl ((by exact R_lenm rfl (.no rfl) rfl (.tm rfl) (by exact .t) Tryz.underlying100)) (by exact .val rfl) rfl rfl rfl
    apply PreOk.step (P := Tryz.prog) 5 rfl (R_sub rfl (.no rfl) rfl (.tm rfl) (.const rfl) (fun _ => by omega)) (by exact .val rfl) rfl rfl rfl
    apply PreOk.step (P := Tryz.prog) 6 rfl ((by exact R_indexAddr rfl (.no rfl) rfl (.tm rfl) (.tm rfl) Tryz.underlying100 ty83 (fun _ => ⟨by have := hh.1; omega, map_get (by rw [← hx]; congr 1; have := hh.1; omega)⟩))) (by exact HasV.ix (x := .tmp 22) (.tm rfl) (y := .tmp 26) (.tm rfl) Tryz.underlying100 ty83 (fun _ => ⟨by have := hh.1; omega, map_get (by rw [← hx]; congr 1; have := hh.1; omega)⟩)) rfl rfl rfl
    apply PreOk.step (P := Tryz.prog) 7 rfl ((by exact R_load rfl (.no rfl) rfl (.tm rfl) ty83 rfl rfl)) (by exact HasV.ld (x := .tmp 27) (.tm rfl) rfl rfl) rfl rfl rfl
    apply PreOk.step (P := Tryz.prog) 8 rfl ((by exact R_load rfl (.no rfl) rfl (.tm rfl) ty47 rfl rfl)) (by exact HasV.ld (x := .tmp 3) (.tm rfl) rfl rfl) rfl rfl rfl
    exact PreOk.nil
   case hS => exact Sup.sub0 rfl ⟨rfl, rfl, rfl, rfl, rfl, rfl, rfl, rfl, rfl, rfl, rfl, rfl, rfl, rfl, rfl, rfl, rfl, rfl, rfl, rfl, rfl, rfl, rfl, rfl, rfl, rfl, Y⟩ ⟨rfl, rfl, rfl, Y⟩
   case hH =>
    refine ⟨⟨_, _, _, rfl, rfl, rfl, fun σ' hs => (by exact R_fieldAddr rfl (.no rfl) (hd_sup hs rfl) (.tm (hs.slots _ _ rfl)) fl102_1)⟩, ?_⟩
    refine ⟨⟨_, _, _, rfl, rfl, rfl, fun σ' hs => (by exact R_load rfl (.no rfl) (hd_sup hs rfl) (.tm (hs.slots _ _ rfl)) ty100 rfl rfl)⟩, ?_⟩
    refine ⟨⟨_, _, _, rfl, rfl, rfl, fun σ' hs => (by exact R_fieldAddr rfl (.no rfl) (hd_sup hs rfl) (.tm (hs.slots _ _ rfl)) fl102_1)⟩, ?_⟩
    refine ⟨⟨_, _, _, rfl, rfl, rfl, fun σ' hs => (by exact R_load rfl (.no rfl) (hd_sup hs rfl) (.tm (hs.slots _ _ rfl)) ty100 rfl rfl)⟩, ?_⟩
    refine ⟨⟨_, _, _, rfl, rfl, rfl, fun σ' hs => (by exact R_lenm rfl (.no rfl) (hd_sup hs rfl) (.tm (hs.slots _ _ rfl)) (by exact .t) Tryz.underlying100)⟩, ?_⟩
    refine ⟨⟨_, _, _, rfl, rfl, rfl, fun σ' hs => R_sub rfl (.no rfl) (hd_sup hs rfl) (.tm (hs.slots _ _ rfl)) (.const rfl) (fun _ => by omega)⟩, ?_⟩
    refine ⟨⟨_, _, _, rfl, rfl, rfl, fun σ' hs => (by exact R_indexAddr rfl (.no rfl) (hd_sup hs rfl) (.tm (hs.slots _ _ rfl)) (.tm (hs.slots _ _ rfl)) Tryz.underlying100 ty83 (fun _ => ⟨by have := hh.1; omega, map_get (by rw [← hx]; congr 1; have := hh.1; omega)⟩))⟩, ?_⟩
    refine ⟨⟨_, _, _, rfl, rfl, rfl, fun σ' hs => (by exact R_load rfl (.no rfl) (hd_sup hs rfl) (.tm (hs.slots _ _ rfl)) ty83 rfl rfl)⟩, ?_⟩
    refine ⟨⟨_, _, _, rfl, rfl, rfl, fun σ' hs => (by exact R_load rfl (.no rfl) (hd_sup hs rfl) (.tm (hs.slots _ _ rfl)) ty47 rfl rfl)⟩, ?_⟩
    trivial
   apply Dh.new0 (i := 9)
   case ha | ho | hb => rfl
   case hE =>
    intro w9  hp
    obtain _ := hp
    refine AWl.adds (R_call 3000 (specApplyBatch x b (by omega) (by omega)) U U U (.cons (.tm U) U (.cons (.tm U) U .nil)) U U) U ?_
    refine AWl.nil ?_
    exact EndQ.eq (Le.sub0 (σ' := ⟨_, [(0, _), (1, _), (2, _), (3, _), (4, _), (5, _), (6, _), (9, _), (10, _), (11, _), (12, _), (13, _), (14, _), (15, _), (16, _), (17, _), (18, _), (21, _), (22, _), (23, _), (24, _), (25, _), (26, _), (27, _), (28, _), (29, _), (30, _)], [(4, _), (1000, _), (6, _), (3000, _), (3001, _)]⟩) U ⟨U, U, U, U, U, U, U, U, U, U, U, U, U, U, U, U, U, U, U, U, U, U, U, U, U, U, U, Y⟩ ⟨U, U, U, U, U, Y⟩) U
   case hS => intros; exact Sup.sub0 rfl ⟨rfl, rfl, rfl, rfl, rfl, rfl, rfl, rfl, rfl, rfl, rfl, rfl, rfl, rfl, rfl, rfl, rfl, rfl, rfl, rfl, rfl, rfl, rfl, rfl, rfl, rfl, Y⟩ ⟨rfl, rfl, rfl, Y⟩
   apply Dh.new0 (i := 13)
   case ha | ho | hb => rfl
   case hE =>
    intro w9  hp
    obtain _ := hp
    refine AWl.add (R_alloc 7 U U U in83 U U U) U ?_
    refine AWl.nil ?_
    exact EndQ.eq (Le.sub0 (σ' := ⟨_, [(0, _), (1, _), (2, _), (3, _), (4, _), (5, _), (6, _), (7, _), (9, _), (10, _), (11, _), (12, _), (13, _), (14, _), (15, _), (16, _), (17, _), (18, _), (21, _), (22, _), (23, _), (24, _), (25, _), (26, _), (27, _), (28, _), (29, _)], [(4, _), (1000, _), (6, _), (7, _)]⟩) U ⟨U, U, U, U, U, U, U, U, U, U, U, U, U, U, U, U, U, U, U, U, U, U, U, U, U, U, U, Y⟩ ⟨U, U, U, U, Y⟩) U
   case hS => intros; exact Sup.sub0 rfl ⟨rfl, rfl, rfl, rfl, rfl, rfl, rfl, rfl, rfl, rfl, rfl, rfl, rfl, rfl, rfl, rfl, rfl, rfl, rfl, rfl, rfl, rfl, rfl, rfl, rfl, rfl, Y⟩ ⟨rfl, rfl, rfl, Y⟩
   apply Dh.new0 (i := 10)
   case ha | ho | hb => rfl
   case hE =>
    intro w9  hp
    obtain _ := hp
    refine AWl.p (R_movet U (.no U) U U fun _ => rfl) U ?_
    refine AWl.nil ?_
    exact EndQ.eq (Le.sub0 (σ' := ⟨_, [(0, _), (1, _), (2, _), (3, _), (4, _), (5, _), (6, _), (9, _), (10, _), (11, _), (12, _), (13, _), (14, _), (15, _), (16, _), (17, _), (18, _), (20, _), (21, _), (22, _), (23, _), (24, _), (25, _), (26, _), (27, _), (28, _), (29, _)], [(4, _), (1000, _), (6, _), (3000, _), (3001, _)]⟩) U ⟨U, U, U, U, U, U, U, U, U, U, U, U, U, U, U, U, U, U, U, U, U, U, U, U, U, U, U, Y⟩ ⟨U, U, U, U, U, Y⟩) U
   case hS => intros; exact Sup.sub0 rfl ⟨rfl, rfl, rfl, rfl, rfl, rfl, rfl, rfl, rfl, rfl, rfl, rfl, rfl, rfl, rfl, rfl, rfl, rfl, rfl, rfl, rfl, rfl, rfl, rfl, rfl, rfl, Y⟩ ⟨rfl, rfl, rfl, Y⟩
   apply Dh.new0 (i := 13)
   case ha | ho | hb => rfl
   case hE =>
    intro w9  hp
    obtain _ := hp
    refine AWl.add (R_alloc 7 U U U in83 U U U) U ?_
    refine AWl.nil ?_
    exact EndQ.eq (Le.sub0 (σ' := ⟨_, [(0, _), (1, _), (2, _), (3, _), (4, _), (5, _), (6, _), (7, _), (9, _), (10, _), (11, _), (12, _), (13, _), (14, _), (15, _), (16, _), (17, _), (18, _), (21, _), (22, _), (23, _), (24, _), (25, _), (26, _), (27, _), (28, _), (29, _), (30, _)], [(4, _), (1000, _), (6, _), (3000, _), (3001, _), (7, _)]⟩) U ⟨U, U, U, U, U, U, U, U, U, U, U, U, U, U, U, U, U, U, U, U, U, U, U, U, U, U, U, U, Y⟩ ⟨U, U, U, U, U, U, Y⟩) U
   case hS => intros; exact Sup.sub0 rfl ⟨rfl, rfl, rfl, rfl, rfl, rfl, rfl, rfl, rfl, rfl, rfl, rfl, rfl, rfl, rfl, rfl, rfl, rfl, rfl, rfl, rfl, rfl, rfl, rfl, rfl, rfl, Y⟩ ⟨rfl, rfl, rfl, Y⟩
   apply Dh.old0 (i := 9)
   case ha | ho | hb => rfl
   case hE =>
    intro w9  hp
    obtain _ := hp
    refine AWl.adds (R_call 3000 (specApplyBatch x b (by omega) (by omega)) U U U (.cons (.tm U) U (.cons (.tm U) U .nil)) U U) U ?_
    exact AWl.nil (Le.sub0 U ⟨U, U, U, U, U, U, U, U, U, U, U, U, U, U, U, U, U, U, U, U, U, U, U, U, U, U, U, U, Y⟩ ⟨U, U, U, U, U, U, Y⟩)
   apply Dh.new0 (i := 11)
   case ha | ho | hb => rfl
   case hE =>
    intro w9  hp
    obtain _ := hp
    refine AWl.p (R_extract U (.no U) U U (fun _ => rfl) U) U ?_
    refine AWl.nil ?_
    exact EndQ.eq (Le.sub0 (σ' := ⟨_, [(0, _), (1, _), (2, _), (3, _), (4, _), (5, _), (6, _), (9, _), (10, _), (11, _), (12, _), (13, _), (14, _), (15, _), (16, _), (17, _), (18, _), (20, _), (21, _), (22, _), (23, _), (24, _), (25, _), (26, _), (27, _), (28, _), (29, _), (31, _)], [(4, _), (1000, _), (6, _), (3000, _), (3001, _)]⟩) U ⟨U, U, U, U, U, U, U, U, U, U, U, U, U, U, U, U, U, U, U, U, U, U, U, U, U, U, U, U, Y⟩ ⟨U, U, U, U, U, Y⟩) U
   case hS => intros; exact Sup.sub0 rfl ⟨rfl, rfl, rfl, rfl, rfl, rfl, rfl, rfl, rfl, rfl, rfl, rfl, rfl, rfl, rfl, rfl, rfl, rfl, rfl, rfl, rfl, rfl, rfl, rfl, rfl, rfl, Y⟩ ⟨rfl, rfl, rfl, Y⟩
   apply Dh.new0 (i := 12)
   case ha | ho | hb => rfl
   case hE =>
    intro w9  hp
    obtain _ := hp
    refine AWl.p (R_extract U (.no U) U U (fun _ => rfl) U) U ?_
    refine AWl.nil ?_
    exact EndQ.eq (Le.sub0 (σ' := ⟨_, [(0, _), (1, _), (2, _), (3, _), (4, _), (5, _), (6, _), (9, _), (10, _), (11, _), (12, _), (13, _), (14, _), (15, _), (16, _), (17, _), (18, _), (20, _), (21, _), (22, _), (23, _), (24, _), (25, _), (26, _), (27, _), (28, _), (29, _), (32, _)], [(4, _), (1000, _), (6, _), (3000, _), (3001, _)]⟩) U ⟨U, U, U, U, U, U, U, U, U, U, U, U, U, U, U, U, U, U, U, U, U, U, U, U, U, U, U, U, Y⟩ ⟨U, U, U, U, U, Y⟩) U
   case hS => intros; exact Sup.sub0 rfl ⟨rfl, rfl, rfl, rfl, rfl, rfl, rfl, rfl, rfl, rfl, rfl, rfl, rfl, rfl, rfl, rfl, rfl, rfl, rfl, rfl, rfl, rfl, rfl, rfl, rfl, rfl, Y⟩ ⟨rfl, rfl, rfl, Y⟩
   apply Dh.new0 (i := 13)
   case ha | ho | hb => rfl
   case hE =>
    intro w9  hp
    obtain _ := hp
    refine AWl.add (R_alloc 7 U U U in83 U U U) U ?_
    refine AWl.nil ?_
    exact EndQ.eq (Le.sub0 (σ' := ⟨_, [(0, _), (1, _), (2, _), (3, _), (4, _), (5, _), (6, _), (7, _), (9, _), (10, _), (11, _), (12, _), (13, _), (14, _), (15, _), (16, _), (17, _), (18, _), (20, _), (21, _), (22, _), (23, _), (24, _), (25, _), (26, _), (27, _), (28, _), (29, _)], [(4, _), (1000, _), (6, _), (3000, _), (3001, _), (7, _)]⟩) U ⟨U, U, U, U, U, U, U, U, U, U, U, U, U, U, U, U, U, U, U, U, U, U, U, U, U, U, U, U, Y⟩ ⟨U, U, U, U, U, U, Y⟩) U
   case hS => intros; exact Sup.sub0 rfl ⟨rfl, rfl, rfl, rfl, rfl, rfl, rfl, rfl, rfl, rfl, rfl, rfl, rfl, rfl, rfl, rfl, rfl, rfl, rfl, rfl, rfl, rfl, rfl, rfl, rfl, rfl, Y⟩ ⟨rfl, rfl, rfl, Y⟩
   apply Dh.old0 (i := 10)
   case ha | ho | hb => rfl
   case hE =>
    intro w9  hp
    obtain _ := hp
    refine AWl.p (R_movet U (.no U) U U fun _ => rfl) U ?_
    exact AWl.nil (Le.sub0 U ⟨U, U, U, U, U, U, U, U, U, U, U, U, U, U, U, U, U, U, U, U, U, U, U, U, U, U, U, U, Y⟩ ⟨U, U, U, U, U, U, Y⟩)
   apply Dh.new0 (i := 12)
   case ha | ho | hb => rfl
   case hE =>
    intro w9  hp
    obtain _ := hp
    refine AWl.p (R_extract U (.no U) U U (fun _ => rfl) U) U ?_
    refine AWl.nil ?_
    exact EndQ.eq (Le.sub0 (σ' := ⟨_, [(0, _), (1, _), (2, _), (3, _), (4, _), (5, _), (6, _), (9, _), (10, _), (11, _), (12, _), (13, _), (14, _), (15, _), (16, _), (17, _), (18, _), (21, _), (22, _), (23, _), (24, _), (25, _), (26, _), (27, _), (28, _), (29, _), (31, _), (32, _)], [(4, _), (1000, _), (6, _), (3000, _), (3001, _)]⟩) U ⟨U, U, U, U, U, U, U, U, U, U, U, U, U, U, U, U, U, U, U, U, U, U, U, U, U, U, U, U, Y⟩ ⟨U, U, U, U, U, Y⟩) U
   case hS => intros; exact Sup.sub0 rfl ⟨rfl, rfl, rfl, rfl, rfl, rfl, rfl, rfl, rfl, rfl, rfl, rfl, rfl, rfl, rfl, rfl, rfl, rfl, rfl, rfl, rfl, rfl, rfl, rfl, rfl, rfl, Y⟩ ⟨rfl, rfl, rfl, Y⟩
   apply Dh.old0 (i := 11)
   case ha | ho | hb => rfl
   case hE =>
    intro w9  hp
    obtain _ := hp
    refine AWl.p (R_extract U (.no U) U U (fun _ => rfl) U) U ?_
    exact AWl.nil (Le.sub0 U ⟨U, U, U, U, U, U, U, U, U, U, U, U, U, U, U, U, U, U, U, U, U, U, U, U, U, U, U, U, Y⟩ ⟨U, U, U, U, U, Y⟩)
   apply Dh.new0 (i := 13)
   case ha | ho | hb => rfl
   case hE =>
    intro w9  hp
    obtain _ := hp
    refine AWl.add (R_alloc 7 U U U in83 U U U) U ?_
    refine AWl.nil ?_
    exact EndQ.eq (Le.sub0 (σ' := ⟨_, [(0, _), (1, _), (2, _), (3, _), (4, _), (5, _), (6, _), (7, _), (9, _), (10, _), (11, _), (12, _), (13, _), (14, _), (15, _), (16, _), (17, _), (18, _), (20, _), (21, _), (22, _), (23, _), (24, _), (25, _), (26, _), (27, _), (28, _), (29, _), (31, _)], [(4, _), (1000, _), (6, _), (3000, _), (3001, _), (7, _)]⟩) U ⟨U, U, U, U, U, U, U, U, U, U, U, U, U, U, U, U, U, U, U, U, U, U, U, U, U, U, U, U, U, Y⟩ ⟨U, U, U, U, U, U, Y⟩) U
   case hS => intros; exact Sup.sub0 rfl ⟨rfl, rfl, rfl, rfl, rfl, rfl, rfl, rfl, rfl, rfl, rfl, rfl, rfl, rfl, rfl, rfl, rfl, rfl, rfl, rfl, rfl, rfl, rfl, rfl, rfl, rfl, Y⟩ ⟨rfl, rfl, rfl, Y⟩
   apply Dh.old0 (i := 11)
   case ha | ho | hb => rfl
   case hE =>
    intro w9  hp
    obtain _ := hp
    refine AWl.p (R_extract U (.no U) U U (fun _ => rfl) U) U ?_
    exact AWl.nil (Le.sub0 U ⟨U, U, U, U, U, U, U, U, U, U, U, U, U, U, U, U, U, U, U, U, U, U, U, U, U, U, U, U, U, Y⟩ ⟨U, U, U, U, U, U, Y⟩)
   apply Dh.new0 (i := 13)
   case ha | ho | hb => rfl
   case hE =>
    intro w9  hp
    obtain _ := hp
    refine AWl.add (R_alloc 7 U U U in83 U U U) U ?_
    refine AWl.nil ?_
    exact EndQ.eq (Le.sub0 (σ' := ⟨_, [(0, _), (1, _), (2, _), (3, _), (4, _), (5, _), (6, _), (7, _), (9, _), (10, _), (11, _), (12, _), (13, _), (14, _), (15, _), (16, _), (17, _), (18, _), (20, _), (21, _), (22, _), (23, _), (24, _), (25, _), (26, _), (27, _), (28, _), (29, _), (32, _)], [(4, _), (1000, _), (6, _), (3000, _), (3001, _), (7, _)]⟩) U ⟨U, U, U, U, U, U, U, U, U, U, U, U, U, U, U, U, U, U, U, U, U, U, U, U, U, U, U, U, U, Y⟩ ⟨U, U, U, U, U, U, Y⟩) U
   case hS => intros; exact Sup.sub0 rfl ⟨rfl, rfl, rfl, rfl, rfl, rfl, rfl, rfl, rfl, rfl, rfl, rfl, rfl, rfl, rfl, rfl, rfl, rfl, rfl, rfl, rfl, rfl, rfl, rfl, rfl, rfl, Y⟩ ⟨rfl, rfl, rfl, Y⟩
   apply Dh.old0 (i := 12)
   case ha | ho | hb => rfl
   case hE =>
    intro w9  hp
    obtain _ := hp
    refine AWl.p (R_extract U (.no U) U U (fun _ => rfl) U) U ?_
    exact AWl.nil (Le.sub0 U ⟨U, U, U, U, U, U, U, U, U, U, U, U, U, U, U, U, U, U, U, U, U, U, U, U, U, U, U, U, U, Y⟩ ⟨U, U, U, U, U, U, Y⟩)
   apply Dh.new0 (i := 13)
   case ha | ho | hb => rfl
   case hE =>
    intro w9  hp
    obtain _ := hp
    refine AWl.add (R_alloc 7 U U U in83 U U U) U ?_
    refine AWl.nil ?_
    exact EndQ.eq (Le.sub0 (σ' := ⟨_, [(0, _), (1, _), (2, _), (3, _), (4, _), (5, _), (6, _), (7, _), (9, _), (10, _), (11, _), (12, _), (13, _), (14, _), (15, _), (16, _), (17, _), (18, _), (21, _), (22, _), (23, _), (24, _), (25, _), (26, _), (27, _), (28, _), (29, _), (31, _), (32, _)], [(4, _), (1000, _), (6, _), (3000, _), (3001, _), (7, _)]⟩) U ⟨U, U, U, U, U, U, U, U, U, U, U, U, U, U, U, U, U, U, U, U, U, U, U, U, U, U, U, U, U, Y⟩ ⟨U, U, U, U, U, U, Y⟩) U
   case hS => intros; exact Sup.sub0 rfl ⟨rfl, rfl, rfl, rfl, rfl, rfl, rfl, rfl, rfl, rfl, rfl, rfl, rfl, rfl, rfl, rfl, rfl, rfl, rfl, rfl, rfl, rfl, rfl, rfl, rfl, rfl, Y⟩ ⟨rfl, rfl, rfl, Y⟩
   apply Dh.old0 (i := 12)
   case ha | ho | hb => rfl
   case hE =>
    intro w9  hp
    obtain _ := hp
    refine AWl.p (R_extract U (.no U) U U (fun _ => rfl) U) U ?_
    exact AWl.nil (Le.sub0 U ⟨U, U, U, U, U, U, U, U, U, U, U, U, U, U, U, U, U, U, U, U, U, U, U, U, U, U, U, U, U, Y⟩ ⟨U, U, U, U, U, U, Y⟩)
   apply Dh.old0 (i := 11)
   case ha | ho | hb => rfl
   case hE =>
    intro w9  hp
    obtain _ := hp
    refine AWl.p (R_extract U (.no U) U U (fun _ => rfl) U) U ?_
    exact AWl.nil (Le.sub0 U ⟨U, U, U, U, U, U, U, U, U, U, U, U, U, U, U, U, U, U, U, U, U, U, U, U, U, U, U, U, U, Y⟩ ⟨U, U, U, U, U, U, Y⟩)
   apply Dh.new0 (i := 14)
   case ha | ho | hb => rfl
   case hE =>
    intro w9  hp
    obtain _ := hp
    refine AWl.chgb (R_store_pb U U U (.tm U) (.tm U) U ty83 U U U (by kernel_rfl) U) ?_
    refine AWl.nil ?_
    exact EndQ.eq (Le.sub0 (σ' := ⟨_, [(0, _), (1, _), (2, _), (3, _), (4, _), (5, _), (6, _), (7, _), (9, _), (10, _), (11, _), (12, _), (13, _), (14, _), (15, _), (16, _), (17, _), (18, _), (20, _), (21, _), (22, _), (23, _), (24, _), (25, _), (26, _), (27, _), (28, _), (29, _)], [(4, _), (1000, _), (6, _), (3000, _), (3001, _), (7, _)]⟩) U ⟨U, U, U, U, U, U, U, U, U, U, U, U, U, U, U, U, U, U, U, U, U, U, U, U, U, U, U, U, Y⟩ ⟨U, U, U, U, U, U, Y⟩) U
   case hS => intros; exact Sup.sub0 rfl ⟨rfl, rfl, rfl, rfl, rfl, rfl, rfl, rfl, rfl, rfl, rfl, rfl, rfl, rfl, rfl, rfl, rfl, rfl, rfl, rfl, rfl, rfl, rfl, rfl, rfl, rfl, Y⟩ ⟨rfl, rfl, rfl, Y⟩
   apply Dh.new0 (i := 14)
   case ha | ho | hb => rfl
   case hE =>
    intro w9  hp
    obtain _ := hp
    refine AWl.chgb (R_store_pb U U U (.tm U) (.tm U) U ty83 U U U (by kernel_rfl) U) ?_
    refine AWl.nil ?_
    exact EndQ.eq (Le.sub0 (σ' := ⟨_, [(0, _), (1, _), (2, _), (3, _), (4, _), (5, _), (6, _), (7, _), (9, _), (10, _), (11, _), (12, _), (13, _), (14, _), (15, _), (16, _), (17, _), (18, _), (21, _), (22, _), (23, _), (24, _), (25, _), (26, _), (27, _), (28, _), (29, _), (32, _)], [(4, _), (1000, _), (6, _), (3000, _), (3001, _), (7, _)]⟩) U ⟨U, U, U, U, U, U, U, U, U, U, U, U, U, U, U, U, U, U, U, U, U, U, U, U, U, U, U, U, Y⟩ ⟨U, U, U, U, U, U, Y⟩) U
   case hS => intros; exact Sup.sub0 rfl ⟨rfl, rfl, rfl, rfl, rfl, rfl, rfl, rfl, rfl, rfl, rfl, rfl, rfl, rfl, rfl, rfl, rfl, rfl, rfl, rfl, rfl, rfl, rfl, rfl, rfl, rfl, Y⟩ ⟨rfl, rfl, rfl, Y⟩
   apply Dh.old0 (i := 12)
   case ha | ho | hb => rfl
   case hE =>
    intro w9  hp
    obtain _ := hp
    refine AWl.p (R_extract U (.no U) U U (fun _ => rfl) U) U ?_
    exact AWl.nil (Le.sub0 U ⟨U, U, U, U, U, U, U, U, U, U, U, U, U, U, U, U, U, U, U, U, U, U, U, U, U, U, U, U, Y⟩ ⟨U, U, U, U, U, U, Y⟩)
   refine Dh.fin0 (k := 13) rfl ?_
   intro  hp
   obtain _ := hp
   refine AWl.av ?_
   refine AWl.nil (AW.seq ?_)
   refine AW.sr ?_
   refine AWl.mv ?_
   refine AWl.p (R_not U (.no U) U (.tm U)) U ?_
   refine AWl.nil ?_
   refine AW.cond (.tm U) (fun h34 => ?_) (fun h34 => ?_)
   · skip
     try simp at h34
     refine AW.sr ?_
     refine AWl.p (by exact R_load_pp U (.no U) U (.tm U) U ty102 U U) U ?_
     refine AWl.chgb (R_store_pb U U U (.tm U) (.tm U) U ty102 U U U (by kernel_rfl) U) ?_
     refine AWl.ac ?_
     refine AWl.nil (AW.ret ?_)
     apply ERRes.mk (x := (h, false))
     case h =>
      refine ResR.many U (.cell U U ty102 U U (.tmp U .nil)) U ?_ (by simp)
      rfl
     case hp => exact hh
   · skip
     try simp at h34
     refine AW.skip ?_
     refine AW.sr ?_
     refine AWl.p (by exact R_fieldAddr_pp U (.no U) U (.tm U) fl102_1) U ?_
     refine AWl.p (by exact R_load_pp U (.no U) U (.tm U) U ty100 U U) U ?_
     refine AWl.p (by exact R_load_pp U (.no U) U (.tm U) U ty83 U U) U ?_
     refine AWl.absadd (R_list (xs := [.tmp 38]) 39 U U U (.cons (.tm U) U U .nil) Tryz.underlying100 in83 U U U U) U ?_
     refine AWl.abschgput (R_append_own U U U (.tm U) U (.tm U) U U Tryz.underlying100 in83 U (by (simp [chunk]; omega)) (by (unfold maxLen; simp [chunk]; omega))) U ?_
     refine AWl.p (by exact R_fieldAddr_pp U (.no U) U (.tm U) fl102_1) U ?_
     refine AWl.chgb (R_store_pb U U U (.tm U) (.tm U) U ty100 U U U (by kernel_rfl) U) ?_
     refine AWl.nil (AW.seq ?_)
     refine AW.sr ?_
     refine AWl.p (by exact R_fieldAddr_pp U (.no U) U (.tm U) fl102_1) U ?_
     refine AWl.p (by exact R_load_pp U (.no U) U (.tm U) U ty100 U U) U ?_
     refine AWl.p (by exact R_len U (.no U) U (.tm U) (by exact .rf U) Tryz.underlying100) U ?_
     refine AWl.p (R_gt U (.no U) U (.tm U) (.const U)) U ?_
     refine AWl.nil ?_
     refine AW.cond (.tm U) (fun h45 => ?_) (fun h45 => ?_)
     · skip
       try simp at h45
       refine AW.sr ?_
       refine AWl.p (by exact R_fieldAddr_pp U (.no U) U (.tm U) fl102_1) U ?_
       refine AWl.p (by exact R_load_pp U (.no U) U (.tm U) U ty100 U U) U ?_
       refine AWl.p (R_slice_vwr (n := 1) U (.no U) U (.tm U) U (.yes (.const U) (fun _ => by first | rfl | omega | (simp <;> omega))) .no Tryz.underlying100 ty83 (fun _ => ⟨by simp [chunk], Nat.le_refl _⟩)) U ?_
       refine AWl.p (by exact R_fieldAddr_pp U (.no U) U (.tm U) fl102_1) U ?_
       refine AWl.chgb (R_store_pb U U U (.tm U) (.tm U) U ty100 U U U (by kernel_rfl) U) ?_
       refine AWl.nil (AW.region ?_)
       refine AWl.p (by exact R_fieldAddr_pp U (.no U) U (.tm U) fl102_0) U ?_
       refine AWl.p (by exact R_load_pp U (.no U) U (.tm U) U ty3 U U) U ?_
       refine AWl.p (R_add U (.no U) U (.tm U) (.const U) (fun _ => by omega)) U ?_
       refine AWl.p (by exact R_fieldAddr_pp U (.no U) U (.tm U) fl102_0) U ?_
       refine AWl.chgb (R_store_pb U U U (.tm U) (.tm U) U ty3 U U U (by kernel_rfl) U) ?_
       refine AWl.nil (AW.sr ?_)
       refine AWl.p (by exact R_load_pp U (.no U) U (.tm U) U ty102 U U) U ?_
       refine AWl.chgb (R_store_pb U U U (.tm U) (.tm U) U ty102 U U U (by kernel_rfl) U) ?_
       refine AWl.ac ?_
       refine AWl.nil (AW.ret ?_)
       apply ERRes.mk (x := (⟨h.First + 1, (h.Graphs ++ [(applyB x b).1]).drop 1⟩, true))
       case h =>
        refine ResR.many U (.cell U U ty102 U U (.tmp U .nil)) U ?_ (by simp)
        exact congrArg (fun r => [V0.agg [T.v (.int .i64 (h.First + 1)), T.sl 2 r], V0.one (.v (.bool true))]) (by rw [List.take_of_length_le (Nat.le_refl _)]; simp [chunk, cGraph, List.map_drop])
       case hp => exact goodH_shift hh (applyB_ok hxv)
     · skip
       try simp at h45
       refine AW.skip ?_
       refine AW.sr ?_
       refine AWl.p (by exact R_load_pp U (.no U) U (.tm U) U ty102 U U) U ?_
       refine AWl.chgb (R_store_pb U U U (.tm U) (.tm U) U ty102 U U U (by kernel_rfl) U) ?_
       refine AWl.ac ?_
       refine AWl.nil (AW.ret ?_)
       apply ERRes.mk (x := (⟨h.First, h.Graphs ++ [(applyB x b).1]⟩, true))
       case h =>
        refine ResR.many U (.cell U U ty102 U U (.tmp U .nil)) U ?_ (by simp)
        exact congrArg (fun r => [V0.agg [T.v (.int .i64 h.First), T.sl 2 r], V0.one (.v (.bool true))]) (by simp [chunk, cGraph])
       case hp => exact goodH_more hh (applyB_ok hxv) (by simp [chunk] at h45; omega)
end Go.Proofs.YtbkhopfpejhnlaaGreatDoor
