import Derived.Test.YtoealglkenhphaaGreatB102xb
set_option linter.unusedVariables false
set_option linter.unusedSimpArgs false
set_option maxHeartbeats 1000000
set_option maxRecDepth 100000
namespace Go.Q
open Go.D
theorem insG_no {g : TGraph} {e : TEdge} (h : insOk g e = false) : insG g e = (g, false) := by unfold insG; rw [if_neg (by rw [h]; decide)]
theorem insG_yes {g : TGraph} {e : TEdge} {k : Nat} (h : insOk g e = true) (hk : insAt g.Edges e = k) : insG g e = (⟨g.Values, g.Edges.take k ++ e :: g.Edges.drop k⟩, true) := by
 unfold insG
 rw [if_pos h]
 unfold insL
 rw [hk]
theorem ins_more {l : List TEdge} {e x : TEdge} {k : Nat} (h : ∀ j x, j < k → l[j]? = some x → x.ID < e.ID) (hx : l[k]? = some x) (h2 : x.ID < e.ID) : ∀ j x, j < k + 1 → l[j]? = some x → x.ID < e.ID := fun j y hj hy => by
 by_cases e1 : j = k
 ·subst e1; rw [hx] at hy; cases hy; exact h2
 ·exact h j y (by omega) hy
theorem ins_stop {l : List TEdge} {e : TEdge} {k : Nat} (h : k < l.length → e.ID ≤ (l[k]?.getD dE).ID) : ∀ x, l[k]? = some x → ¬ x.ID < e.ID := fun x hx => by
 have := h (List.getElem?_eq_some_iff.1 hx).1
 rw [hx, Option.getD_some] at this
 omega
end Go.Q
namespace Go.Proofs.YtoealglkenhphaaGreat
open Go.RowKit Go.Q Go.D
theorem implInsertEdge (g : TGraph) (e : TEdge) (hz1 : g.Values.length ≤ 1073741824) (hz2 : g.Edges.length ≤ 1048576) : FnT Tryz.prog 53 [.agg (cGraph g), .agg (cEdge e)] (.tup [.agg (cGraph (insG g e).1), .one (.v (.bool (insG g e).2))]) := by
 refine FnT.walk Tryz.func53 rfl (by kernel_rfl) Tryz.ntmps53 rfl fun hlen w0 => ?_
 try simp [cEdge, cGraph, cStep, cChange, cBatch, cAutomaton, cProductStep, cView] at hlen
 refine AW.sr ?_
 refine AWl.put (R_boxz rfl rfl rfl (.tm rfl) (ts := _) (by rfl)) rfl ?_
 refine AWl.put (R_boxz rfl rfl rfl (.tm rfl) (ts := _) (by rfl)) rfl ?_
 refine AWl.add (R_alloc 4 rfl rfl rfl in43 rfl rfl rfl) rfl ?_
 refine AWl.ac rfl rfl rfl rfl rfl ?_
 refine AWl.nil ?_
 refine AW.sr ?_
 refine AWl.put (by exact R_load rfl (.no rfl) rfl (.tm rfl) ty43 rfl rfl) rfl ?_
 refine AWl.adds (R_call 900 (implcopyGraph g hz1 (by omega)) rfl rfl rfl (.cons (.tm rfl) rfl .nil) rfl rfl) rfl ?_
 refine AWl.add (R_alloc 6 rfl rfl rfl in43 rfl rfl rfl) rfl ?_
 refine AWl.chgb (R_store_pb rfl rfl rfl (.tm rfl) (.tm rfl) rfl ty43 rfl rfl rfl (by kernel_rfl) rfl) ?_
 refine AWl.nil ?_
 refine AW.seq ?_
 refine AW.sr ?_
 refine AWl.put (by exact R_load rfl (.no rfl) rfl (.tm rfl) ty43 rfl rfl) rfl ?_
 refine AWl.put (R_callz (FnT.fr (implIsValidGraph g)) rfl (.no rfl) rfl (.cons (.tm rfl) rfl .nil)) rfl ?_
 refine AWl.put (R_not rfl (.no rfl) rfl (.tm rfl)) rfl ?_
 refine AWl.mv rfl rfl rfl rfl rfl ?_
 refine AWl.put (by exact R_load rfl (by exact .not1 rfl rfl rfl rfl) rfl (.tmp rfl (by exact fun _ => rfl)) ty46 rfl rfl) rfl ?_
 refine AWl.put (by exact R_fieldAddr rfl (by exact .not1 rfl rfl rfl rfl) rfl (.tmp rfl (by exact fun _ => rfl)) fl43_0) rfl ?_
 refine AWl.put (by exact R_load rfl (by exact .not1 rfl rfl rfl rfl) rfl (.tmp rfl (by exact id)) ty22 rfl rfl) rfl ?_
 refine AWl.put (by exact R_lenm rfl (by exact .not1 rfl rfl rfl rfl) rfl (.tmp rfl (by exact id)) (by exact .t) Tryz.underlying22) rfl ?_
 refine AWl.put (R_callz (FnT.fr (impledgeOk e (g.Values.length : Nat) (by omega) (by omega))) rfl (by exact .not1 rfl rfl rfl rfl) rfl (.cons (.tmp rfl (by exact id)) rfl (.cons (.tmp rfl (by exact id)) rfl .nil))) rfl ?_
 refine AWl.put (R_not rfl (by exact .not1 rfl rfl rfl rfl) rfl (.tmp rfl (by exact id))) rfl ?_
 refine AWl.put (R_or rfl (.no rfl) rfl (.tm rfl) (.tmp rfl (by exact id))) rfl ?_
 refine AWl.mv rfl rfl rfl rfl rfl ?_
 refine AWl.put (by exact R_load rfl (by exact .not1 rfl rfl rfl rfl) rfl (.tmp rfl (by exact fun _ => rfl)) ty43 rfl rfl) rfl ?_
 refine AWl.put (by exact R_fieldAddr rfl (by exact .not1 rfl rfl rfl rfl) rfl (.tmp rfl (by exact fun _ => rfl)) fl46_0) rfl ?_
 refine AWl.put (by exact R_load rfl (by exact .not1 rfl rfl rfl rfl) rfl (.tmp rfl (by exact id)) ty3 rfl rfl) rfl ?_
 refine AWl.put (R_callz (FnT.fr (implEdgeIndex g e.ID)) rfl (by exact .not1 rfl rfl rfl rfl) rfl (.cons (.tmp rfl (by exact id)) rfl (.cons (.tmp rfl (by exact id)) rfl .nil))) rfl ?_
 refine AWl.put (R_ge rfl (by exact .not1 rfl rfl rfl rfl) rfl (.tmp rfl (by exact id)) (.const rfl)) rfl ?_
 refine AWl.put (R_or rfl (.no rfl) rfl (.tm rfl) (.tmp rfl (by exact id))) rfl ?_
 refine AWl.mv rfl rfl rfl rfl rfl ?_
 refine AWl.put (by exact R_fieldAddr rfl (by exact .not1 rfl rfl rfl rfl) rfl (.tmp rfl (by exact fun _ => rfl)) fl43_1) rfl ?_
 refine AWl.put (by exact R_load rfl (by exact .not1 rfl rfl rfl rfl) rfl (.tmp rfl (by exact id)) ty41 rfl rfl) rfl ?_
 refine AWl.put (by exact R_lenm rfl (by exact .not1 rfl rfl rfl rfl) rfl (.tmp rfl (by exact id)) (by exact .t) Tryz.underlying41) rfl ?_
 refine AWl.put (R_eq rfl (by exact .not1 rfl rfl rfl rfl) rfl (.tmp rfl (by exact id)) (.const rfl)) rfl ?_
 refine AWl.put (R_or rfl (.no rfl) rfl (.tm rfl) (.tmp rfl (by exact id))) rfl ?_
 refine AWl.nil ?_
 refine AW.cond (.tm rfl) (fun h33 => ?_) (fun h33 => ?_)
 ·skip
  try simp at h33
  refine AW.seq ?_
  refine AW.le (σ' := ⟨_, [(0, _), (1, _), (2, _), (3, _), (4, _), (5, _), (6, _)], [(4, _), (900, _), (901, _), (6, _)]⟩) (Le.sub0 rfl ⟨rfl, rfl, rfl, rfl, rfl, rfl, rfl, trivial⟩ ⟨rfl, rfl, rfl, rfl, trivial⟩) ?_
  refine AW.region ?_
  refine AWl.put (by exact R_load_pp rfl (.no rfl) rfl (.tm rfl) rfl ty43 rfl rfl) rfl ?_
  refine AWl.chgb (R_store_pb rfl rfl rfl (.tm rfl) (.tm rfl) rfl ty43 rfl rfl rfl (by kernel_rfl) rfl) ?_
  refine AWl.le (σ' := ⟨_, [(0, _), (1, _), (2, _), (3, _), (4, _), (5, _), (6, _)], [(4, _), (900, _), (901, _), (6, _)]⟩) (Le.sub0 rfl ⟨rfl, rfl, rfl, rfl, rfl, rfl, rfl, trivial⟩ ⟨rfl, rfl, rfl, rfl, trivial⟩) ?_
  refine AWl.ac rfl rfl rfl rfl rfl ?_
  refine AWl.nil ?_
  refine AW.ret ?_
  refine Res.many rfl (.cell rfl rfl ty43 rfl rfl (.tmp rfl .nil)) rfl ?_ (by simp)
  rw [insG_no (by unfold insOk; grind)]; rfl
 ·skip
  try simp at h33
  refine AW.skip ?_
  refine AW.seq ?_
  refine AW.le (σ' := ⟨_, [(0, _), (1, _), (2, _), (3, _), (4, _), (5, _), (6, _)], [(4, _), (900, _), (901, _), (6, _)]⟩) (Le.sub0 rfl ⟨rfl, rfl, rfl, rfl, rfl, rfl, rfl, trivial⟩ ⟨rfl, rfl, rfl, rfl, trivial⟩) ?_
  refine AW.region ?_
  refine AWl.ac rfl rfl rfl rfl rfl ?_
  refine AWl.nil ?_
  refine AW.seq ?_
  refine AW.block ?_
  refine AW.loop1 (fun (k : Nat) => (k ≤ g.Edges.length ∧ ∀ j x, j < k → g.Edges[j]? = some x → x.ID < e.ID) ∧ True) (fun (k : Nat) => ⟨_, [(7, (true, .a (.one (.t (.v (.int .i64 (k : Nat))))))), (3, _), (4, _), (5, _), (6, _)], [(4, .box [.t (.v (.slice none 0 0)), .t (.v (.slice none 0 0))]), (6, .box [.rf 900, .rf 901]), (900, .row 1 (g.Values.map cInt)), (901, .row 4 (g.Edges.map cEdge))]⟩) (fun (k : Nat) => g.Edges.length - k) (0) ⟨⟨Nat.zero_le _, fun j x hj => by omega⟩, trivial⟩ (Le.sub0 rfl ⟨rfl, rfl, rfl, rfl, rfl, trivial⟩ ⟨rfl, rfl, rfl, rfl, trivial⟩) ?_
  rintro k ⟨hk, he⟩
  refine AW.seq ?_
  refine AW.seq ?_
  refine AW.drawn 16 (nthB [[], [], [1], [1, 2], [0, 1, 2, 3], [0, 1, 2, 3, 4], [0, 1, 2, 3, 4, 5], [0, 1, 2, 3, 4, 5, 6], [0, 1, 2, 3, 4, 5], [0, 1, 2, 3, 4, 5, 6, 7, 8], [0, 1, 2, 3, 4, 5, 6, 7, 8, 9], [0, 1, 2, 3, 4, 5, 6, 7, 8, 9, 10], [0, 1, 2, 3, 4, 5], [0, 1, 2, 3, 4, 5, 12], [0, 1, 2, 3, 4, 5, 6, 7, 8, 9, 10, 11, 12, 13], [0, 1, 2, 3, 4, 5, 6, 7, 8, 9, 10, 11, 12, 13, 14]]) (by kernel_rfl) (by kernel_rfl) (by kernel_rfl) ?_
  refine DrawC.step rfl rfl rfl (Loc.of rfl fun σ' hs => R_move rfl (.no rfl) (hd_sup hs rfl) (.tm (hs.slots _ _ rfl))) ?_
  refine DrawC.step rfl rfl rfl (Loc.of rfl fun σ' hs => (by exact R_fieldAddr_pp rfl (.no rfl) (hd_sup hs rfl) (.tm (hs.slots _ _ rfl)) fl43_1)) ?_
  refine DrawC.step rfl rfl rfl (Loc.of rfl fun σ' hs => (by exact R_load_pp rfl (.no rfl) (hd_sup hs rfl) (.tm (hs.slots _ _ rfl)) (hs.res _ _ rfl) ty41 rfl rfl)) ?_
  refine DrawC.step rfl rfl rfl (Loc.of rfl fun σ' hs => (by exact R_lenm rfl (.no rfl) (hd_sup hs rfl) (.tm (hs.slots _ _ rfl)) (by exact .rf (hs.res _ _ rfl)) Tryz.underlying41)) ?_
  refine DrawC.step rfl rfl rfl (Loc.of rfl fun σ' hs => R_lt rfl (.no rfl) (hd_sup hs rfl) (.tm (hs.slots _ _ rfl)) (.tm (hs.slots _ _ rfl))) ?_
  refine DrawC.step rfl rfl rfl (Loc.of rfl fun σ' hs => R_move rfl (.no rfl) (hd_sup hs rfl) (.tm (hs.slots _ _ rfl))) ?_
  refine DrawC.step rfl rfl rfl (Loc.of rfl fun σ' hs => (by exact R_fieldAddr_pp rfl (by exact .yes1 rfl rfl (hs.slots _ _ rfl) (by rw [hs.n]; rfl)) (hd_sup hs rfl) (.tmp (hs.slots _ _ rfl) (by exact fun _ => rfl)) fl43_1)) ?_
  refine DrawC.step rfl rfl rfl (Loc.of rfl fun σ' hs => (by exact R_load_pp rfl (by exact .yes1 rfl rfl (hs.slots _ _ rfl) (by rw [hs.n]; rfl)) (hd_sup hs rfl) (.tmp (hs.slots _ _ rfl) (by exact id)) (hs.res _ _ rfl) ty41 rfl rfl)) ?_
  refine DrawC.step rfl rfl rfl (Loc.of rfl fun σ' hs => R_move rfl (by exact .yes1 rfl rfl (hs.slots _ _ rfl) (by rw [hs.n]; rfl)) (hd_sup hs rfl) (.tmp (hs.slots _ _ rfl) (by exact fun _ => rfl))) ?_
  refine DrawC.step rfl rfl rfl (Loc.of rfl fun σ' hs => (by exact R_indexAddr_rf rfl (by exact .yes1 rfl rfl (hs.slots _ _ rfl) (by rw [hs.n]; rfl)) (hd_sup hs rfl) (.tmp (hs.slots _ _ rfl) (by exact id)) (hs.res _ _ rfl) (.tmp (hs.slots _ _ rfl) (by exact id)) Tryz.underlying41 ty46 (fun hq => ⟨by omega, map_get (getD_at (d := dE) (by simp at hq; omega))⟩))) ?_
  refine DrawC.step rfl rfl rfl (Loc.of rfl fun σ' hs => (by exact R_fieldAddr_pr rfl (by exact .yes1 rfl rfl (hs.slots _ _ rfl) (by rw [hs.n]; rfl)) (hd_sup hs rfl) (.tmp (hs.slots _ _ rfl) (by exact id)) fl46_0)) ?_
  refine DrawC.step rfl rfl rfl (Loc.of rfl fun σ' hs => (by exact R_load_prq rfl (by exact .yes1 rfl rfl (hs.slots _ _ rfl) (by rw [hs.n]; rfl)) (hd_sup hs rfl) (.tmp (hs.slots _ _ rfl) (by exact id)) (hs.res _ _ rfl) (fun hq => map_get (getD_at (d := dE) (by simp at hq; omega))) ty3 rfl rfl)) ?_
  refine DrawC.step rfl rfl rfl (Loc.of rfl fun σ' hs => (by exact R_fieldAddr rfl (by exact .yes1 rfl rfl (hs.slots _ _ rfl) (by rw [hs.n]; rfl)) (hd_sup hs rfl) (.tmp (hs.slots _ _ rfl) (by exact fun _ => rfl)) fl46_0)) ?_
  refine DrawC.step rfl rfl rfl (Loc.of rfl fun σ' hs => (by exact R_load rfl (by exact .yes1 rfl rfl (hs.slots _ _ rfl) (by rw [hs.n]; rfl)) (hd_sup hs rfl) (.tmp (hs.slots _ _ rfl) (by exact id)) ty3 rfl rfl)) ?_
  refine DrawC.step rfl rfl rfl (Loc.of rfl fun σ' hs => R_lt rfl (by exact .yes1 rfl rfl (hs.slots _ _ rfl) (by rw [hs.n]; rfl)) (hd_sup hs rfl) (.tmp (hs.slots _ _ rfl) (by exact id)) (.tmp (hs.slots _ _ rfl) (by exact id))) ?_
  refine DrawC.step rfl rfl rfl (Loc.of rfl fun σ' hs => R_and rfl (.no rfl) (hd_sup hs rfl) (.tm (hs.slots _ _ rfl)) (.tmp (hs.slots _ _ rfl) (by exact id))) ?_
  refine DrawC.fin rfl rfl ?_
  refine AWl.nil ?_
  refine AW.cond (.tm rfl) (fun h50 => ?_) (fun h50 => ?_)
  ·skip
   try simp at h50
   have hx := getD_at (d := dE) (l := g.Edges) (k := k) (by omega)
   refine AW.skip ?_
   refine AW.block ?_
   refine AW.le (σ' := ⟨_, [(3, _), (4, _), (5, _), (6, _), (7, _)], [(4, _), (6, _), (900, _), (901, _)]⟩) (Le.sub0 rfl ⟨rfl, rfl, rfl, rfl, rfl, trivial⟩ ⟨rfl, rfl, rfl, rfl, trivial⟩) ?_
   refine AW.region ?_
   refine AWl.mv rfl rfl rfl rfl rfl ?_
   refine AWl.put (R_add rfl (.no rfl) rfl (.tm rfl) (.const rfl) (fun _ => by omega)) rfl ?_
   refine AWl.av rfl rfl rfl rfl rfl ?_
   refine AWl.nil ?_
   repeat (with_reducible refine BlockQ.nor ?_)
   refine Round1.next (k + 1) ⟨⟨by omega, ins_more hk.2 hx h50.2⟩, trivial⟩ (by omega) (Le.sub0 rfl ⟨rfl, rfl, rfl, rfl, rfl, trivial⟩ ⟨(by rfl), (by rfl), (by rfl), (by rfl), trivial⟩)
  ·skip
   try simp at h50
   have hat := insAt_eq (e := e) hk.1 hk.2 (ins_stop h50)
   refine AW.exit ?_
   refine AW.seq ?_
   refine AW.le (σ' := ⟨_, [(3, _), (4, _), (5, _), (6, _), (7, _)], [(4, _), (6, _), (900, _), (901, _)]⟩) (Le.sub0 rfl ⟨rfl, rfl, rfl, rfl, rfl, trivial⟩ ⟨rfl, rfl, rfl, rfl, trivial⟩) ?_
   refine AW.region ?_
   refine AWl.put (by exact R_fieldAddr_pp rfl (.no rfl) rfl (.tm rfl) fl43_1) rfl ?_
   refine AWl.put (by exact R_load_pp rfl (.no rfl) rfl (.tm rfl) rfl ty41 rfl rfl) rfl ?_
   refine AWl.mv rfl rfl rfl rfl rfl ?_
   refine AWl.put (by exact R_load rfl (.no rfl) rfl (.tm rfl) ty46 rfl rfl) rfl ?_
   refine AWl.absadd (R_list (xs := [.tmp 56]) 57 rfl rfl rfl (.cons (.tm rfl) rfl rfl .nil) Tryz.underlying41 in46 rfl rfl rfl rfl) rfl ?_
   apply AWl.consume
   case ho =>
    apply R_consumeL 5800 (InsertEdge1 g.Edges k e (by omega) hz2) rfl rfl rfl
    case hx => exact (.cons (.tm rfl) (.cons (.tm rfl) (.cons (.tm rfl) .nil)))
    case ha => rfl
    all_goals rfl
   case hd => rfl
   refine AWl.put (by exact R_fieldAddr_pp rfl (.no rfl) rfl (.tm rfl) fl43_1) rfl ?_
   refine AWl.chgb (R_store_pb rfl rfl rfl (.tm rfl) (.tm rfl) rfl ty41 rfl rfl rfl (by kernel_rfl) rfl) ?_
   refine AWl.nil ?_
   refine AW.seq ?_
   refine AW.le (σ' := ⟨_, [(3, _), (4, _), (5, _), (6, _), (7, _)], [(4, _), (6, _), (900, _), (5800, _)]⟩) (Le.sub0 rfl ⟨rfl, rfl, rfl, rfl, rfl, trivial⟩ ⟨rfl, rfl, rfl, rfl, trivial⟩) ?_
   refine AW.region ?_
   refine AWl.put (by exact R_load_pp rfl (.no rfl) rfl (.tm rfl) rfl ty43 rfl rfl) rfl ?_
   refine AWl.chgb (R_store_pb rfl rfl rfl (.tm rfl) (.tm rfl) rfl ty43 rfl rfl rfl (by kernel_rfl) rfl) ?_
   refine AWl.le (σ' := ⟨_, [(3, _), (4, _), (5, _), (6, _), (7, _)], [(4, _), (6, _), (900, _), (5800, _)]⟩) (Le.sub0 rfl ⟨rfl, rfl, rfl, rfl, rfl, trivial⟩ ⟨rfl, rfl, rfl, rfl, trivial⟩) ?_
   refine AWl.ac rfl rfl rfl rfl rfl ?_
   refine AWl.nil ?_
   refine AW.ret ?_
   refine Res.many rfl (.cell rfl rfl ty43 rfl rfl (.tmp rfl .nil)) rfl ?_ (by simp)
   rw [insG_yes (by unfold insOk; grind) hat]; rfl
theorem specInsertEdge (g : TGraph) (e : TEdge) (hz1 : g.Values.length ≤ 1073741824) (hz2 : g.Edges.length ≤ 1048576) : FnT Tryz.prog 46 [.agg (cGraph g), .agg (cEdge e)] (.tup [.agg (cGraph (insG g e).1), .one (.v (.bool (insG g e).2))]) := by
 refine FnT.walk Tryz.func46 rfl (by kernel_rfl) Tryz.ntmps46 rfl fun hlen w0 => ?_
 try simp [cEdge, cGraph, cStep, cChange, cBatch, cAutomaton, cProductStep, cView] at hlen
 refine AW.sr ?_
 refine AWl.put (R_boxz rfl rfl rfl (.tm rfl) (ts := _) (by rfl)) rfl ?_
 refine AWl.put (R_boxz rfl rfl rfl (.tm rfl) (ts := _) (by rfl)) rfl ?_
 refine AWl.add (R_alloc 4 rfl rfl rfl in43 rfl rfl rfl) rfl ?_
 refine AWl.ac rfl rfl rfl rfl rfl ?_
 refine AWl.nil ?_
 refine AW.seq ?_
 refine AW.sr ?_
 refine AWl.put (by exact R_load rfl (.no rfl) rfl (.tm rfl) ty43 rfl rfl) rfl ?_
 refine AWl.put (R_callz (FnT.fr (specIsValidGraph g)) rfl (.no rfl) rfl (.cons (.tm rfl) rfl .nil)) rfl ?_
 refine AWl.put (R_not rfl (.no rfl) rfl (.tm rfl)) rfl ?_
 refine AWl.mv rfl rfl rfl rfl rfl ?_
 refine AWl.put (by exact R_load rfl (by exact .not1 rfl rfl rfl rfl) rfl (.tmp rfl (by exact fun _ => rfl)) ty43 rfl rfl) rfl ?_
 refine AWl.put (by exact R_load rfl (by exact .not1 rfl rfl rfl rfl) rfl (.tmp rfl (by exact fun _ => rfl)) ty46 rfl rfl) rfl ?_
 refine AWl.put (R_callz (FnT.fr (specl3Edge g e)) rfl (by exact .not1 rfl rfl rfl rfl) rfl (.cons (.tmp rfl (by exact id)) rfl (.cons (.tmp rfl (by exact id)) rfl .nil))) rfl ?_
 refine AWl.put (R_not rfl (by exact .not1 rfl rfl rfl rfl) rfl (.tmp rfl (by exact id))) rfl ?_
 refine AWl.put (R_or rfl (.no rfl) rfl (.tm rfl) (.tmp rfl (by exact id))) rfl ?_
 refine AWl.mv rfl rfl rfl rfl rfl ?_
 refine AWl.put (by exact R_load rfl (by exact .not1 rfl rfl rfl rfl) rfl (.tmp rfl (by exact fun _ => rfl)) ty43 rfl rfl) rfl ?_
 refine AWl.put (by exact R_fieldAddr rfl (by exact .not1 rfl rfl rfl rfl) rfl (.tmp rfl (by exact fun _ => rfl)) fl46_0) rfl ?_
 refine AWl.put (by exact R_load rfl (by exact .not1 rfl rfl rfl rfl) rfl (.tmp rfl (by exact id)) ty3 rfl rfl) rfl ?_
 refine AWl.put (R_callz (FnT.fr (specEdgeIndex g e.ID)) rfl (by exact .not1 rfl rfl rfl rfl) rfl (.cons (.tmp rfl (by exact id)) rfl (.cons (.tmp rfl (by exact id)) rfl .nil))) rfl ?_
 refine AWl.put (R_ge rfl (by exact .not1 rfl rfl rfl rfl) rfl (.tmp rfl (by exact id)) (.const rfl)) rfl ?_
 refine AWl.put (R_or rfl (.no rfl) rfl (.tm rfl) (.tmp rfl (by exact id))) rfl ?_
 refine AWl.mv rfl rfl rfl rfl rfl ?_
 refine AWl.put (by exact R_fieldAddr rfl (by exact .not1 rfl rfl rfl rfl) rfl (.tmp rfl (by exact fun _ => rfl)) fl43_1) rfl ?_
 refine AWl.put (by exact R_load rfl (by exact .not1 rfl rfl rfl rfl) rfl (.tmp rfl (by exact id)) ty41 rfl rfl) rfl ?_
 refine AWl.put (by exact R_lenm rfl (by exact .not1 rfl rfl rfl rfl) rfl (.tmp rfl (by exact id)) (by exact .t) Tryz.underlying41) rfl ?_
 refine AWl.put (R_eq rfl (by exact .not1 rfl rfl rfl rfl) rfl (.tmp rfl (by exact id)) (.const rfl)) rfl ?_
 refine AWl.put (R_or rfl (.no rfl) rfl (.tm rfl) (.tmp rfl (by exact id))) rfl ?_
 refine AWl.nil ?_
 refine AW.cond (.tm rfl) (fun h29 => ?_) (fun h29 => ?_)
 ·skip
  try simp at h29
  refine AW.seq ?_
  refine AW.le (σ' := ⟨_, [(0, _), (1, _), (2, _), (3, _), (4, _), (5, _)], [(4, _)]⟩) (Le.sub0 rfl ⟨rfl, rfl, rfl, rfl, rfl, rfl, trivial⟩ ⟨rfl, trivial⟩) ?_
  refine AW.region ?_
  refine AWl.put (by exact R_load rfl (.no rfl) rfl (.tm rfl) ty43 rfl rfl) rfl ?_
  refine AWl.adds (R_call 3100 (specl3Copy g hz1 (by omega)) rfl rfl rfl (.cons (.tm rfl) rfl .nil) rfl rfl) rfl ?_
  refine AWl.chgb (R_store_pb rfl rfl rfl (.tm rfl) (.tm rfl) rfl ty43 rfl rfl rfl (by kernel_rfl) rfl) ?_
  refine AWl.le (σ' := ⟨_, [(0, _), (1, _), (2, _), (3, _), (4, _), (5, _)], [(4, _), (3100, _), (3101, _)]⟩) (Le.sub0 rfl ⟨rfl, rfl, rfl, rfl, rfl, rfl, trivial⟩ ⟨rfl, rfl, rfl, trivial⟩) ?_
  refine AWl.ac rfl rfl rfl rfl rfl ?_
  refine AWl.nil ?_
  refine AW.ret ?_
  refine Res.many rfl (.cell rfl rfl ty43 rfl rfl (.tmp rfl .nil)) rfl ?_ (by simp)
  rw [insG_no (by unfold insOk; grind)]; rfl
 ·skip
  try simp at h29
  refine AW.skip ?_
  refine AW.seq ?_
  refine AW.le (σ' := ⟨_, [(0, _), (1, _), (2, _), (3, _), (4, _), (5, _)], [(4, _)]⟩) (Le.sub0 rfl ⟨rfl, rfl, rfl, rfl, rfl, rfl, trivial⟩ ⟨rfl, trivial⟩) ?_
  refine AW.region ?_
  refine AWl.ac rfl rfl rfl rfl rfl ?_
  refine AWl.nil ?_
  refine AW.seq ?_
  refine AW.block ?_
  refine AW.loop1 (fun (k : Nat) => (k ≤ g.Edges.length ∧ ∀ j x, j < k → g.Edges[j]? = some x → x.ID < e.ID) ∧ True) (fun (k : Nat) => ⟨_, [(6, (true, .a (.one (.t (.v (.int .i64 (k : Nat))))))), (2, _), (3, _), (4, _), (5, _)], [(4, .box [.t (.v (.slice none 0 0)), .t (.v (.slice none 0 0))])]⟩) (fun (k : Nat) => g.Edges.length - k) (0) ⟨⟨Nat.zero_le _, fun j x hj => by omega⟩, trivial⟩ (Le.sub0 rfl ⟨rfl, rfl, rfl, rfl, rfl, trivial⟩ ⟨rfl, trivial⟩) ?_
  rintro k ⟨hk, he⟩
  refine AW.seq ?_
  refine AW.seq ?_
  refine AW.drawn 16 (nthB [[], [], [1], [1, 2], [0, 1, 2, 3], [0, 1, 2, 3, 4], [0, 1, 2, 3, 4, 5], [0, 1, 2, 3, 4, 5, 6], [0, 1, 2, 3, 4, 5], [0, 1, 2, 3, 4, 5, 6, 7, 8], [0, 1, 2, 3, 4, 5, 6, 7, 8, 9], [0, 1, 2, 3, 4, 5, 6, 7, 8, 9, 10], [0, 1, 2, 3, 4, 5], [0, 1, 2, 3, 4, 5, 12], [0, 1, 2, 3, 4, 5, 6, 7, 8, 9, 10, 11, 12, 13], [0, 1, 2, 3, 4, 5, 6, 7, 8, 9, 10, 11, 12, 13, 14]]) (by kernel_rfl) (by kernel_rfl) (by kernel_rfl) ?_
  refine DrawC.step rfl rfl rfl (Loc.of rfl fun σ' hs => R_move rfl (.no rfl) (hd_sup hs rfl) (.tm (hs.slots _ _ rfl))) ?_
  refine DrawC.step rfl rfl rfl (Loc.of rfl fun σ' hs => (by exact R_fieldAddr rfl (.no rfl) (hd_sup hs rfl) (.tm (hs.slots _ _ rfl)) fl43_1)) ?_
  refine DrawC.step rfl rfl rfl (Loc.of rfl fun σ' hs => (by exact R_load rfl (.no rfl) (hd_sup hs rfl) (.tm (hs.slots _ _ rfl)) ty41 rfl rfl)) ?_
  refine DrawC.step rfl rfl rfl (Loc.of rfl fun σ' hs => (by exact R_lenm rfl (.no rfl) (hd_sup hs rfl) (.tm (hs.slots _ _ rfl)) (by exact .t) Tryz.underlying41)) ?_
  refine DrawC.step rfl rfl rfl (Loc.of rfl fun σ' hs => R_lt rfl (.no rfl) (hd_sup hs rfl) (.tm (hs.slots _ _ rfl)) (.tm (hs.slots _ _ rfl))) ?_
  refine DrawC.step rfl rfl rfl (Loc.of rfl fun σ' hs => R_move rfl (.no rfl) (hd_sup hs rfl) (.tm (hs.slots _ _ rfl))) ?_
  refine DrawC.step rfl rfl rfl (Loc.of rfl fun σ' hs => (by exact R_fieldAddr rfl (by exact .yes1 rfl rfl (hs.slots _ _ rfl) (by rw [hs.n]; rfl)) (hd_sup hs rfl) (.tmp (hs.slots _ _ rfl) (by exact fun _ => rfl)) fl43_1)) ?_
  refine DrawC.step rfl rfl rfl (Loc.of rfl fun σ' hs => (by exact R_load rfl (by exact .yes1 rfl rfl (hs.slots _ _ rfl) (by rw [hs.n]; rfl)) (hd_sup hs rfl) (.tmp (hs.slots _ _ rfl) (by exact id)) ty41 rfl rfl)) ?_
  refine DrawC.step rfl rfl rfl (Loc.of rfl fun σ' hs => R_move rfl (by exact .yes1 rfl rfl (hs.slots _ _ rfl) (by rw [hs.n]; rfl)) (hd_sup hs rfl) (.tmp (hs.slots _ _ rfl) (by exact fun _ => rfl))) ?_
  refine DrawC.step rfl rfl rfl (Loc.of rfl fun σ' hs => (by exact R_indexAddr rfl (by exact .yes1 rfl rfl (hs.slots _ _ rfl) (by rw [hs.n]; rfl)) (hd_sup hs rfl) (.tmp (hs.slots _ _ rfl) (by exact id)) (.tmp (hs.slots _ _ rfl) (by exact id)) Tryz.underlying41 ty46 (fun hq => ⟨by omega, map_get (getD_at (d := dE) (by simp at hq; omega))⟩))) ?_
  refine DrawC.step rfl rfl rfl (Loc.of rfl fun σ' hs => (by exact R_fieldAddr rfl (by exact .yes1 rfl rfl (hs.slots _ _ rfl) (by rw [hs.n]; rfl)) (hd_sup hs rfl) (.tmp (hs.slots _ _ rfl) (by exact id)) fl46_0)) ?_
  refine DrawC.step rfl rfl rfl (Loc.of rfl fun σ' hs => (by exact R_load rfl (by exact .yes1 rfl rfl (hs.slots _ _ rfl) (by rw [hs.n]; rfl)) (hd_sup hs rfl) (.tmp (hs.slots _ _ rfl) (by exact id)) ty3 rfl rfl)) ?_
  refine DrawC.step rfl rfl rfl (Loc.of rfl fun σ' hs => (by exact R_fieldAddr rfl (by exact .yes1 rfl rfl (hs.slots _ _ rfl) (by rw [hs.n]; rfl)) (hd_sup hs rfl) (.tmp (hs.slots _ _ rfl) (by exact fun _ => rfl)) fl46_0)) ?_
  refine DrawC.step rfl rfl rfl (Loc.of rfl fun σ' hs => (by exact R_load rfl (by exact .yes1 rfl rfl (hs.slots _ _ rfl) (by rw [hs.n]; rfl)) (hd_sup hs rfl) (.tmp (hs.slots _ _ rfl) (by exact id)) ty3 rfl rfl)) ?_
  refine DrawC.step rfl rfl rfl (Loc.of rfl fun σ' hs => R_lt rfl (by exact .yes1 rfl rfl (hs.slots _ _ rfl) (by rw [hs.n]; rfl)) (hd_sup hs rfl) (.tmp (hs.slots _ _ rfl) (by exact id)) (.tmp (hs.slots _ _ rfl) (by exact id))) ?_
  refine DrawC.step rfl rfl rfl (Loc.of rfl fun σ' hs => R_and rfl (.no rfl) (hd_sup hs rfl) (.tm (hs.slots _ _ rfl)) (.tmp (hs.slots _ _ rfl) (by exact id))) ?_
  refine DrawC.fin rfl rfl ?_
  refine AWl.nil ?_
  refine AW.cond (.tm rfl) (fun h47 => ?_) (fun h47 => ?_)
  ·skip
   try simp at h47
   have hx := getD_at (d := dE) (l := g.Edges) (k := k) (by omega)
   refine AW.skip ?_
   refine AW.block ?_
   refine AW.le (σ' := ⟨_, [(2, _), (3, _), (4, _), (5, _), (6, _)], [(4, _)]⟩) (Le.sub0 rfl ⟨rfl, rfl, rfl, rfl, rfl, trivial⟩ ⟨rfl, trivial⟩) ?_
   refine AW.region ?_
   refine AWl.mv rfl rfl rfl rfl rfl ?_
   refine AWl.put (R_add rfl (.no rfl) rfl (.tm rfl) (.const rfl) (fun _ => by omega)) rfl ?_
   refine AWl.av rfl rfl rfl rfl rfl ?_
   refine AWl.nil ?_
   repeat (with_reducible refine BlockQ.nor ?_)
   refine Round1.next (k + 1) ⟨⟨by omega, ins_more hk.2 hx h47.2⟩, trivial⟩ (by omega) (Le.sub0 rfl ⟨rfl, rfl, rfl, rfl, rfl, trivial⟩ ⟨(by rfl), trivial⟩)
  ·skip
   try simp at h47
   have hat := insAt_eq (e := e) hk.1 hk.2 (ins_stop h47)
   refine AW.exit ?_
   refine AW.seq ?_
   refine AW.le (σ' := ⟨_, [(2, _), (3, _), (4, _), (5, _), (6, _)], [(4, _)]⟩) (Le.sub0 rfl ⟨rfl, rfl, rfl, rfl, rfl, trivial⟩ ⟨rfl, trivial⟩) ?_
   refine AW.region ?_
   refine AWl.add (R_empty 50 rfl rfl rfl Tryz.underlying22 ty3 rfl) rfl ?_
   refine AWl.put (by exact R_fieldAddr rfl (.no rfl) rfl (.tm rfl) fl43_0) rfl ?_
   refine AWl.put (by exact R_load rfl (.no rfl) rfl (.tm rfl) ty22 rfl rfl) rfl ?_
   refine AWl.chgput (R_append rfl rfl rfl (.tm rfl) rfl (.tm rfl) (by exact .t) (by exact isV_map (fun _ => rfl) _) Tryz.underlying22 in3 rfl (by (simp [chunk]; omega)) (by (unfold maxLen; simp [chunk]; omega))) rfl ?_
   refine AWl.le (σ' := ⟨_, [(2, _), (3, _), (4, _), (5, _), (6, _), (53, _)], [(4, _), (50, _)]⟩) (Le.sub0 rfl ⟨rfl, rfl, rfl, rfl, rfl, rfl, trivial⟩ ⟨rfl, rfl, trivial⟩) ?_
   refine AWl.put (R_build (ps := [(0, .tmp 53)]) rfl rfl rfl in43 rfl rfl st43 (.cons (.tm rfl) rfl rfl fp43_0 .nil) rfl) rfl ?_
   refine AWl.nilA (i := 54) 20001 4 1 rfl rfl rfl ?_
   refine AWl.add (R_alloc 7 rfl rfl rfl in43 rfl rfl rfl) rfl ?_
   refine AWl.chgb (R_store_pb rfl rfl rfl (.tm rfl) (.tm rfl) rfl ty43 rfl rfl rfl (by kernel_rfl) rfl) ?_
   refine AWl.nil ?_
   refine AW.seq ?_
   refine AW.le (σ' := ⟨_, [(2, _), (3, _), (4, _), (5, _), (6, _), (7, _), (53, _), (54, _)], [(4, _), (50, _), (20001, _), (7, _)]⟩) (Le.sub0 rfl ⟨rfl, rfl, rfl, rfl, rfl, rfl, rfl, rfl, trivial⟩ ⟨rfl, rfl, rfl, rfl, trivial⟩) ?_
   refine AW.drawK 15 (nthB [[], [], [1], [], [1, 2, 3], [0, 1, 2, 3, 4], [], [6], [0, 1, 2, 3, 4, 5, 6, 7], [], [9], [], [9, 10, 11], [0, 1, 2, 3, 4, 5, 6, 7, 8, 9, 10, 11, 12], [0, 1, 2, 3, 4, 5, 6, 7, 8, 9, 10, 11, 12, 13]]) [(5, 55), (8, 55), (13, 55)] (by kernel_rfl) (by kernel_rfl) (by kernel_rfl) ?_
   refine DrawK.step (LocK.of1 rfl fun σ' hs hf => R_empty 55 rfl rfl (hd_sup hs rfl) Tryz.underlying41 ty46 hf) ?_
   refine DrawK.step (LocK.of rfl fun σ' hs => (by exact R_fieldAddr rfl (.no rfl) (hd_sup hs rfl) (.tm (hs.slots _ _ rfl)) fl43_1)) ?_
   refine DrawK.step (LocK.of rfl fun σ' hs => (by exact R_load rfl (.no rfl) (hd_sup hs rfl) (.tm (hs.slots _ _ rfl)) ty41 rfl rfl)) ?_
   refine DrawK.step (LocK.of rfl fun σ' hs => R_move rfl (.no rfl) (hd_sup hs rfl) (.tm (hs.slots _ _ rfl))) ?_
   refine DrawK.step (LocK.of rfl fun σ' hs => R_slice (m := k) rfl (.no rfl) (hd_sup hs rfl) (.tm (hs.slots _ _ rfl)) .no (.yes (.tm (hs.slots _ _ rfl)) (fun _ => by first | omega | (simp <;> omega))) Tryz.underlying41 ty46 (fun _ => ⟨by omega, by first | omega | (simp; omega)⟩)) ?_
   refine DrawK.step (LocK.ofc rfl rfl fun σ' hs => R_append (id := 55) rfl rfl (hd_sup hs rfl) (.tm (hs.slots _ _ rfl)) (hs.res _ _ rfl) (.tm (hs.slots _ _ rfl)) (by exact .t) (by exact isV_part (fun _ => rfl) _ _ _) Tryz.underlying41 in46 rfl (by (simp [chunk]; omega)) (by (unfold maxLen; simp [chunk]; omega))) ?_
   refine DrawK.step (LocK.of rfl fun σ' hs => (by exact R_load rfl (.no rfl) (hd_sup hs rfl) (.tm (hs.slots _ _ rfl)) ty46 rfl rfl)) ?_
   refine DrawK.step (LocK.of1 rfl fun σ' hs hf => R_list (xs := [.tmp 61]) 62 rfl rfl (hd_sup hs rfl) (.cons (.tm (hs.slots _ _ rfl)) rfl rfl .nil) Tryz.underlying41 in46 rfl rfl rfl hf) ?_
   refine DrawK.step (LocK.ofc rfl rfl fun σ' hs => R_append (id := 55) rfl rfl (hd_sup hs rfl) (.tm (hs.slots _ _ rfl)) (hs.res _ _ rfl) (.tm (hs.slots _ _ rfl)) (by exact .rf (hs.res _ _ rfl)) (by rfl) Tryz.underlying41 in46 rfl (by (simp [chunk]; omega)) (by (unfold maxLen; simp [chunk]; omega))) ?_
   refine DrawK.step (LocK.of rfl fun σ' hs => (by exact R_fieldAddr rfl (.no rfl) (hd_sup hs rfl) (.tm (hs.slots _ _ rfl)) fl43_1)) ?_
   refine DrawK.step (LocK.of rfl fun σ' hs => (by exact R_load rfl (.no rfl) (hd_sup hs rfl) (.tm (hs.slots _ _ rfl)) ty41 rfl rfl)) ?_
   refine DrawK.step (LocK.of rfl fun σ' hs => R_move rfl (.no rfl) (hd_sup hs rfl) (.tm (hs.slots _ _ rfl))) ?_
   refine DrawK.step (LocK.of rfl fun σ' hs => R_slice (n := k) rfl (.no rfl) (hd_sup hs rfl) (.tm (hs.slots _ _ rfl)) (.yes (.tm (hs.slots _ _ rfl)) (fun _ => by first | omega | (simp <;> omega))) .no Tryz.underlying41 ty46 (fun _ => ⟨by simp; omega, by simp⟩)) ?_
   refine DrawK.step (LocK.ofc rfl rfl fun σ' hs => R_append (id := 55) rfl rfl (hd_sup hs rfl) (.tm (hs.slots _ _ rfl)) (hs.res _ _ rfl) (.tm (hs.slots _ _ rfl)) (by exact .t) (by exact isV_part (fun _ => rfl) _ _ _) Tryz.underlying41 in46 rfl (by (simp [chunk]; omega)) (by (unfold maxLen; simp [chunk]; omega))) ?_
   refine DrawK.step (LocK.of rfl fun σ' hs => (by exact R_fieldAddr_pp rfl (.no rfl) (hd_sup hs rfl) (.tm (hs.slots _ _ rfl)) fl43_1)) ?_
   refine DrawK.fin rfl rfl rfl ?_
   refine AWl.le (σ' := ⟨_, [(2, _), (3, _), (4, _), (5, _), (6, _), (7, _), (68, _), (69, _)], [(4, _), (50, _), (20001, _), (7, _), (55, _), (62, _)]⟩) (Le.sub0 rfl ⟨rfl, rfl, rfl, rfl, rfl, rfl, rfl, rfl, trivial⟩ ⟨rfl, rfl, rfl, rfl, rfl, rfl, trivial⟩) ?_
   refine AWl.chgb (R_store_pb rfl rfl rfl (.tm rfl) (.tm rfl) rfl ty41 rfl rfl rfl (by kernel_rfl) rfl) ?_
   refine AWl.nil ?_
   refine AW.sr ?_
   refine AWl.put (by exact R_load_pp rfl (.no rfl) rfl (.tm rfl) rfl ty43 rfl rfl) rfl ?_
   refine AWl.chgb (R_store_pb rfl rfl rfl (.tm rfl) (.tm rfl) rfl ty43 rfl rfl rfl (by kernel_rfl) rfl) ?_
   refine AWl.le (σ' := ⟨_, [(2, _), (3, _), (4, _), (5, _), (6, _), (7, _)], [(4, _), (50, _), (20001, _), (7, _), (55, _), (62, _)]⟩) (Le.sub0 rfl ⟨rfl, rfl, rfl, rfl, rfl, rfl, trivial⟩ ⟨rfl, rfl, rfl, rfl, rfl, rfl, trivial⟩) ?_
   refine AWl.ac rfl rfl rfl rfl rfl ?_
   refine AWl.nil ?_
   refine AW.ret ?_
   refine Res.many rfl (.cell rfl rfl ty43 rfl rfl (.tmp rfl .nil)) rfl ?_ (by simp)
   rw [insG_yes (by unfold insOk; grind) hat]; refine congrArg (fun r => [V0.agg [T.sl 1 (g.Values.map cInt), T.sl 4 r], V0.one (T.v (Value.bool true))]) ?_; simp [List.map_take, List.map_drop]; rw [List.take_of_length_le (by simp)]; rfl
end Go.Proofs.YtoealglkenhphaaGreat
