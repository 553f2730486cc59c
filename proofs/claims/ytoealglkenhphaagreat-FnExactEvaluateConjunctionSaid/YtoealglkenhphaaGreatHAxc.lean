import Derived.Test.YtoealglkenhphaaGreatStdxc
set_option linter.unusedVariables false
set_option linter.unusedSimpArgs false
namespace Go.Proofs.YtoealglkenhphaaGreat
open Go.RowKit Go.Q Go.D
set_option maxRecDepth 100000 in
theorem HtoIntS (x : (List Int)) (hz : okIntS x) : FnT Tryz.prog 50 [.one (.sl 1 (x.map cInt))] (.a (.one (.sl 1 (x.map cInt)))) := by
 refine FnT.walk Tryz.func50 rfl (by kernel_rfl) Tryz.ntmps50 rfl fun hlen w0 => ?_
 try simp [cPair, cToken, cExpr, cEdge, cGraph, cStep, cWalk, cChange, cBatch, cHistory, cPositions, cAutomaton, cProductStep, cPathAtom, cConjunction, cView, cDelta, cRegistered, cRegistry] at hlen
 have hz0 : x.length ≤ 1048576 := hz
 refine AW.seq ?_
 refine AW.region ?_
 refine AWl.put (R_assign rfl (.no rfl) rfl (.const rfl)) rfl ?_
 refine AWl.nil (AW.seq ?_)
 refine AW.region ?_
 refine AWl.put (R_move rfl (.no rfl) rfl (.tmp rfl fun _ => rfl)) rfl ?_
 refine AWl.put (by exact R_lenm rfl (.no rfl) rfl (.tmp rfl fun _ => rfl) (by exact .t) Tryz.underlying22) rfl ?_
 refine AWl.add (R_makeSlice 7 rfl rfl rfl (.tmp rfl fun _ => rfl) Tryz.underlying22 in3 rfl rfl rfl rfl (by omega)) rfl ?_
 refine AWl.put (R_assign rfl (.no rfl) rfl (.tmp rfl fun _ => rfl)) rfl ?_
 refine AWl.nil (AW.seq ?_)
 refine AW.seq ?_
 refine AW.region ?_
 refine AWl.put (R_assign rfl (.no rfl) rfl (.const rfl)) rfl ?_
 refine AWl.nil (AW.block ?_)
 refine AW.loop (β := Nat) (fun i => i ≤ x.length) (fun i => ⟨_, [(4, (true, .a (.one (.t (.v (.int .i64 (i : Nat))))))), (0, _), (2, _), (3, _)], [(7, .row 1 ((x.take i).map cInt ++ List.replicate (x.length - i) [.v (.int .i64 0)]))]⟩) (fun i => x.length - i) (0) (Nat.zero_le _) (Le.sub0 rfl ⟨rfl, rfl, rfl, rfl, trivial⟩ ⟨rfl, trivial⟩) ?_
 intro k hk
 refine AW.seq ?_
 refine AW.seq ?_
 refine AW.region ?_
 refine AWl.put (R_move rfl (.no rfl) rfl (.tmp rfl fun _ => rfl)) rfl ?_
 refine AWl.put (R_move rfl (.no rfl) rfl (.tmp rfl fun _ => rfl)) rfl ?_
 refine AWl.put (by exact R_lenm rfl (.no rfl) rfl (.tmp rfl fun _ => rfl) (by exact .t) Tryz.underlying22) rfl ?_
 refine AWl.put (R_lt rfl (.no rfl) rfl (.tmp rfl fun _ => rfl) (.tmp rfl fun _ => rfl)) rfl ?_
 refine AWl.nil ?_
 refine AW.cond (.tmp rfl fun _ => rfl) (fun hlt => ?_) (fun hlt => ?_)
 · skip
   try simp at hlt
   obtain ⟨y, hx⟩ : ∃ y, x[k]? = some y := ⟨_, List.getElem?_eq_getElem hlt⟩
   refine AW.skip ?_
   refine AW.seq ?_
   refine AW.block ?_
   refine AW.region ?_
   refine AWl.put (R_move rfl (.no rfl) rfl (.tmp rfl fun _ => rfl)) rfl ?_
   refine AWl.put (R_move rfl (.no rfl) rfl (.tmp rfl fun _ => rfl)) rfl ?_
   refine AWl.put (R_move rfl (.no rfl) rfl (.tmp rfl fun _ => rfl)) rfl ?_
   refine AWl.put (R_move rfl (.no rfl) rfl (.tmp rfl fun _ => rfl)) rfl ?_
   refine AWl.put ((by exact R_indexAddr rfl (.no rfl) rfl (.tmp rfl fun _ => rfl) (.tmp rfl fun _ => rfl) Tryz.underlying22 ty3 (fun _ => ⟨by omega, (by exact map_get (by assumption))⟩))) rfl ?_
   refine AWl.put (by exact R_load rfl (.no rfl) rfl (.tmp rfl fun _ => rfl) ty3 rfl rfl) rfl ?_
   refine AWl.put (by exact R_indexAddr_rf rfl (.no rfl) rfl (.tmp rfl fun _ => rfl) rfl (.tmp rfl fun _ => rfl) Tryz.underlying22 ty3 (fun _ => ⟨by omega, made_at hlt⟩)) rfl ?_
   refine AWl.absupd (R_store_pr rfl rfl rfl (.tmp rfl fun _ => rfl) rfl (.tmp rfl fun _ => rfl) rfl (made_at hlt) ty3 rfl rfl rfl rfl) ?_
   refine AWl.nil (AW.region ?_)
   refine AWl.put (R_move rfl (.no rfl) rfl (.tmp rfl fun _ => rfl)) rfl ?_
   refine AWl.put (R_add rfl (.no rfl) rfl (.tmp rfl fun _ => rfl) (.const rfl) (fun _ => by omega)) rfl ?_
   refine AWl.put (R_assign rfl (.no rfl) rfl (.tmp rfl fun _ => rfl)) rfl ?_
   refine AWl.nil ?_
   refine Round.next (k + 1) (by omega) (by omega) (Le.sub0 rfl ⟨rfl, rfl, rfl, rfl, trivial⟩ ⟨congrArg (fun r => some (R.row 1 r)) (set_made hx), trivial⟩)
 · skip
   try simp at hlt
   refine AW.exit ?_
   refine AW.seq ?_
   refine AW.region ?_
   refine AWl.put (R_move rfl (.no rfl) rfl (.tmp rfl fun _ => rfl)) rfl ?_
   refine AWl.put (R_assign rfl (.no rfl) rfl (.tmp rfl fun _ => rfl)) rfl ?_
   refine AWl.nil (AW.ret ?_)
   refine Res.one rfl (.tmp rfl .nil) rfl ?_
   exact congrArg (fun r => [V0.one (T.sl 1 r)]) (made_end (by omega))
set_option maxRecDepth 100000 in
theorem HeqIntS (x : (List Int)) : FnT Tryz.prog 29 [.one (.sl 1 (x.map cInt)), .one (.sl 1 (x.map cInt))] (.a (.one (.v (.bool true)))) := by
 refine FnT.walk Tryz.func29 rfl (by kernel_rfl) Tryz.ntmps29 rfl fun hlen w0 => ?_
 try simp [cPair, cToken, cExpr, cEdge, cGraph, cStep, cWalk, cChange, cBatch, cHistory, cPositions, cAutomaton, cProductStep, cPathAtom, cConjunction, cView, cDelta, cRegistered, cRegistry] at hlen
 refine AW.seq ?_
 refine AW.region ?_
 refine AWl.put (R_assign rfl (.no rfl) rfl (.const rfl)) rfl ?_
 refine AWl.nil (AW.seq ?_)
 refine AW.seq ?_
 refine AW.region ?_
 refine AWl.put (R_move rfl (.no rfl) rfl (.tmp rfl fun _ => rfl)) rfl ?_
 refine AWl.put (by exact R_lenm rfl (.no rfl) rfl (.tmp rfl fun _ => rfl) (by exact .t) Tryz.underlying22) rfl ?_
 refine AWl.put (R_move rfl (.no rfl) rfl (.tmp rfl fun _ => rfl)) rfl ?_
 refine AWl.put (by exact R_lenm rfl (.no rfl) rfl (.tmp rfl fun _ => rfl) (by exact .t) Tryz.underlying22) rfl ?_
 refine AWl.put (R_ne rfl (.no rfl) rfl (.tmp rfl fun _ => rfl) (.tmp rfl fun _ => rfl)) rfl ?_
 refine AWl.nil ?_
 refine AW.cond (.tmp rfl fun _ => rfl) (fun h10 => ?_) (fun h10 => ?_)
 · exact absurd h10 (by simp)
 · skip
   try simp at h10
   refine AW.skip ?_
   refine AW.seq ?_
   refine AW.seq ?_
   refine AW.region ?_
   refine AWl.put (R_assign rfl (.no rfl) rfl (.const rfl)) rfl ?_
   refine AWl.nil (AW.block ?_)
   refine AW.loop (β := Nat) (fun i => i ≤ x.length) (fun i => ⟨_, [(5, (true, .a (.one (.t (.v (.int .i64 (i : Nat))))))), (0, _), (1, _)], []⟩) (fun i => x.length - i) (0) (Nat.zero_le _) (Le.sub0 rfl ⟨rfl, rfl, rfl, trivial⟩ trivial) ?_
   intro k hk
   refine AW.seq ?_
   refine AW.seq ?_
   refine AW.region ?_
   refine AWl.put (R_move rfl (.no rfl) rfl (.tmp rfl fun _ => rfl)) rfl ?_
   refine AWl.put (R_move rfl (.no rfl) rfl (.tmp rfl fun _ => rfl)) rfl ?_
   refine AWl.put (by exact R_lenm rfl (.no rfl) rfl (.tmp rfl fun _ => rfl) (by exact .t) Tryz.underlying22) rfl ?_
   refine AWl.put (R_lt rfl (.no rfl) rfl (.tmp rfl fun _ => rfl) (.tmp rfl fun _ => rfl)) rfl ?_
   refine AWl.nil ?_
   refine AW.cond (.tmp rfl fun _ => rfl) (fun hlt => ?_) (fun hlt => ?_)
   · skip
     try simp at hlt
     obtain ⟨y, hx⟩ : ∃ y, x[k]? = some y := ⟨_, List.getElem?_eq_getElem hlt⟩
     refine AW.skip ?_
     refine AW.seq ?_
     refine AW.block ?_
     refine AW.seq ?_
     refine AW.drawn 9 (nthB [[], [], [0, 1], [0, 1, 2], [], [], [4, 5], [4, 5, 6], [0, 1, 2, 3, 4, 5, 6, 7]]) (by kernel_rfl) (by kernel_rfl) (by kernel_rfl) ?_
     refine DrawC.step rfl rfl rfl (Loc.of rfl fun σ' hs => R_move rfl (.no rfl) (hd_sup hs rfl) (.tmp (hs.slots _ _ rfl) fun _ => rfl)) ?_
     refine DrawC.step rfl rfl rfl (Loc.of rfl fun σ' hs => R_move rfl (.no rfl) (hd_sup hs rfl) (.tmp (hs.slots _ _ rfl) fun _ => rfl)) ?_
     refine DrawC.step rfl rfl rfl (Loc.of rfl fun σ' hs => (by exact R_indexAddr rfl (.no rfl) (hd_sup hs rfl) (.tmp (hs.slots _ _ rfl) fun _ => rfl) (.tmp (hs.slots _ _ rfl) fun _ => rfl) Tryz.underlying22 ty3 (fun _ => ⟨by omega, (by exact map_get (by assumption))⟩))) ?_
     refine DrawC.step rfl rfl rfl (Loc.of rfl fun σ' hs => (by exact R_load rfl (.no rfl) (hd_sup hs rfl) (.tmp (hs.slots _ _ rfl) fun _ => rfl) ty3 rfl rfl)) ?_
     refine DrawC.step rfl rfl rfl (Loc.of rfl fun σ' hs => R_move rfl (.no rfl) (hd_sup hs rfl) (.tmp (hs.slots _ _ rfl) fun _ => rfl)) ?_
     refine DrawC.step rfl rfl rfl (Loc.of rfl fun σ' hs => R_move rfl (.no rfl) (hd_sup hs rfl) (.tmp (hs.slots _ _ rfl) fun _ => rfl)) ?_
     refine DrawC.step rfl rfl rfl (Loc.of rfl fun σ' hs => (by exact R_indexAddr rfl (.no rfl) (hd_sup hs rfl) (.tmp (hs.slots _ _ rfl) fun _ => rfl) (.tmp (hs.slots _ _ rfl) fun _ => rfl) Tryz.underlying22 ty3 (fun _ => ⟨by omega, (by exact map_get (by assumption))⟩))) ?_
     refine DrawC.step rfl rfl rfl (Loc.of rfl fun σ' hs => (by exact R_load rfl (.no rfl) (hd_sup hs rfl) (.tmp (hs.slots _ _ rfl) fun _ => rfl) ty3 rfl rfl)) ?_
     refine DrawC.step rfl rfl rfl (Loc.of rfl fun σ' hs => R_ne rfl (.no rfl) (hd_sup hs rfl) (.tmp (hs.slots _ _ rfl) fun _ => rfl) (.tmp (hs.slots _ _ rfl) fun _ => rfl)) ?_
     refine DrawC.fin rfl rfl ?_
     refine AWl.nil ?_
     refine AW.cond (.tmp rfl fun _ => rfl) (fun h25 => ?_) (fun h25 => ?_)
     · exact absurd h25 (by simp)
     · skip
       try simp at h25
       refine AW.skip ?_
       refine AW.region ?_
       refine AWl.put (R_move rfl (.no rfl) rfl (.tmp rfl fun _ => rfl)) rfl ?_
       refine AWl.put (R_add rfl (.no rfl) rfl (.tmp rfl fun _ => rfl) (.const rfl) (fun _ => by omega)) rfl ?_
       refine AWl.put (R_assign rfl (.no rfl) rfl (.tmp rfl fun _ => rfl)) rfl ?_
       refine AWl.nil ?_
       refine Round.next (k + 1) (by omega) (by omega) (Le.sub0 rfl ⟨rfl, rfl, rfl, trivial⟩ trivial)
   · skip
     try simp at hlt
     refine AW.exit ?_
     refine AW.seq ?_
     refine AW.region ?_
     refine AWl.put (R_assign rfl (.no rfl) rfl (.const rfl)) rfl ?_
     refine AWl.nil (AW.ret ?_)
     refine Res.v rfl rfl ?_
     rfl
set_option maxRecDepth 100000 in
theorem HszIntS (x : (List Int)) (a : Int) (ha : 0 ≤ a ∧ a ≤ 1048576) : FnT Tryz.prog 43 [.one (.sl 1 (x.map cInt)), .one (.v (.int .i64 a))] (.a (.one (.v (.int .i64 (szIntS x a))))) := by
 refine FnT.walk Tryz.func43 rfl (by kernel_rfl) Tryz.ntmps43 rfl fun hlen w0 => ?_
 try simp [cPair, cToken, cExpr, cEdge, cGraph, cStep, cWalk, cChange, cBatch, cHistory, cPositions, cAutomaton, cProductStep, cPathAtom, cConjunction, cView, cDelta, cRegistered, cRegistry] at hlen
 refine AW.seq ?_
 refine AW.region ?_
 refine AWl.put (R_assign rfl (.no rfl) rfl (.const rfl)) rfl ?_
 refine AWl.nil (AW.seq ?_)
 refine AW.region ?_
 refine AWl.put (R_move rfl (.no rfl) rfl (.tmp rfl fun _ => rfl)) rfl ?_
 refine AWl.put (R_move rfl (.no rfl) rfl (.tmp rfl fun _ => rfl)) rfl ?_
 refine AWl.put (by exact R_lenm rfl (.no rfl) rfl (.tmp rfl fun _ => rfl) (by exact .t) Tryz.underlying22) rfl ?_
 refine AWl.put (R_sub rfl (.no rfl) rfl (.tmp rfl fun _ => rfl) (.tmp rfl fun _ => rfl) (fun _ => by omega)) rfl ?_
 refine AWl.put (R_assign rfl (.no rfl) rfl (.tmp rfl fun _ => rfl)) rfl ?_
 refine AWl.nil (AW.seq ?_)
 refine AW.seq ?_
 refine AW.region ?_
 refine AWl.put (R_move rfl (.no rfl) rfl (.tmp rfl fun _ => rfl)) rfl ?_
 refine AWl.put (R_lt rfl (.no rfl) rfl (.tmp rfl fun _ => rfl) (.const rfl)) rfl ?_
 refine AWl.nil ?_
 refine AW.cond (.tmp rfl fun _ => rfl) (fun h10 => ?_) (fun h10 => ?_)
 · skip
   try simp at h10
   refine AW.seq ?_
   refine AW.region ?_
   refine AWl.put (R_assign rfl (.no rfl) rfl (.const rfl)) rfl ?_
   refine AWl.nil (AW.ret ?_)
   refine Res.v rfl rfl ?_
   simp [szIntS, szL]; omega
 · skip
   try simp at h10
   refine AW.skip ?_
   refine AW.seq ?_
   refine AW.region ?_
   refine AWl.put (R_move rfl (.no rfl) rfl (.tmp rfl fun _ => rfl)) rfl ?_
   refine AWl.put (R_assign rfl (.no rfl) rfl (.tmp rfl fun _ => rfl)) rfl ?_
   refine AWl.nil (AW.ret ?_)
   refine Res.v rfl rfl ?_
   simp [szIntS, szL]; omega
set_option maxRecDepth 100000 in
theorem HeqIntSS (x : (List (List Int))) : FnT Tryz.prog 38 [.one (.sl 1 (x.map cIntS)), .one (.sl 1 (x.map cIntS))] (.a (.one (.v (.bool true)))) := by
 refine FnT.walk Tryz.func38 rfl (by kernel_rfl) Tryz.ntmps38 rfl fun hlen w0 => ?_
 try simp [cPair, cToken, cExpr, cEdge, cGraph, cStep, cWalk, cChange, cBatch, cHistory, cPositions, cAutomaton, cProductStep, cPathAtom, cConjunction, cView, cDelta, cRegistered, cRegistry] at hlen
 refine AW.seq ?_
 refine AW.region ?_
 refine AWl.put (R_assign rfl (.no rfl) rfl (.const rfl)) rfl ?_
 refine AWl.nil (AW.seq ?_)
 refine AW.seq ?_
 refine AW.region ?_
 refine AWl.put (R_move rfl (.no rfl) rfl (.tmp rfl fun _ => rfl)) rfl ?_
 refine AWl.put (by exact R_lenm rfl (.no rfl) rfl (.tmp rfl fun _ => rfl) (by exact .t) Tryz.underlying27) rfl ?_
 refine AWl.put (R_move rfl (.no rfl) rfl (.tmp rfl fun _ => rfl)) rfl ?_
 refine AWl.put (by exact R_lenm rfl (.no rfl) rfl (.tmp rfl fun _ => rfl) (by exact .t) Tryz.underlying27) rfl ?_
 refine AWl.put (R_ne rfl (.no rfl) rfl (.tmp rfl fun _ => rfl) (.tmp rfl fun _ => rfl)) rfl ?_
 refine AWl.nil ?_
 refine AW.cond (.tmp rfl fun _ => rfl) (fun h10 => ?_) (fun h10 => ?_)
 · exact absurd h10 (by simp)
 · skip
   try simp at h10
   refine AW.skip ?_
   refine AW.seq ?_
   refine AW.seq ?_
   refine AW.region ?_
   refine AWl.put (R_assign rfl (.no rfl) rfl (.const rfl)) rfl ?_
   refine AWl.nil (AW.block ?_)
   refine AW.loop (β := Nat) (fun i => i ≤ x.length) (fun i => ⟨_, [(5, (true, .a (.one (.t (.v (.int .i64 (i : Nat))))))), (0, _), (1, _)], []⟩) (fun i => x.length - i) (0) (Nat.zero_le _) (Le.sub0 rfl ⟨rfl, rfl, rfl, trivial⟩ trivial) ?_
   intro k hk
   refine AW.seq ?_
   refine AW.seq ?_
   refine AW.region ?_
   refine AWl.put (R_move rfl (.no rfl) rfl (.tmp rfl fun _ => rfl)) rfl ?_
   refine AWl.put (R_move rfl (.no rfl) rfl (.tmp rfl fun _ => rfl)) rfl ?_
   refine AWl.put (by exact R_lenm rfl (.no rfl) rfl (.tmp rfl fun _ => rfl) (by exact .t) Tryz.underlying27) rfl ?_
   refine AWl.put (R_lt rfl (.no rfl) rfl (.tmp rfl fun _ => rfl) (.tmp rfl fun _ => rfl)) rfl ?_
   refine AWl.nil ?_
   refine AW.cond (.tmp rfl fun _ => rfl) (fun hlt => ?_) (fun hlt => ?_)
   · skip
     try simp at hlt
     obtain ⟨y, hx⟩ : ∃ y, x[k]? = some y := ⟨_, List.getElem?_eq_getElem hlt⟩
     refine AW.skip ?_
     refine AW.seq ?_
     refine AW.block ?_
     refine AW.seq ?_
     refine AW.drawn 10 (nthB [[], [], [0, 1], [0, 1, 2], [], [], [4, 5], [4, 5, 6], [0, 1, 2, 3, 4, 5, 6, 7], [0, 1, 2, 3, 4, 5, 6, 7, 8]]) (by kernel_rfl) (by kernel_rfl) (by kernel_rfl) ?_
     refine DrawC.step rfl rfl rfl (Loc.of rfl fun σ' hs => R_move rfl (.no rfl) (hd_sup hs rfl) (.tmp (hs.slots _ _ rfl) fun _ => rfl)) ?_
     refine DrawC.step rfl rfl rfl (Loc.of rfl fun σ' hs => R_move rfl (.no rfl) (hd_sup hs rfl) (.tmp (hs.slots _ _ rfl) fun _ => rfl)) ?_
     refine DrawC.step rfl rfl rfl (Loc.of rfl fun σ' hs => (by exact R_indexAddr rfl (.no rfl) (hd_sup hs rfl) (.tmp (hs.slots _ _ rfl) fun _ => rfl) (.tmp (hs.slots _ _ rfl) fun _ => rfl) Tryz.underlying27 ty22 (fun _ => ⟨by omega, (by exact map_get (by assumption))⟩))) ?_
     refine DrawC.step rfl rfl rfl (Loc.of rfl fun σ' hs => (by exact R_load rfl (.no rfl) (hd_sup hs rfl) (.tmp (hs.slots _ _ rfl) fun _ => rfl) ty22 rfl rfl)) ?_
     refine DrawC.step rfl rfl rfl (Loc.of rfl fun σ' hs => R_move rfl (.no rfl) (hd_sup hs rfl) (.tmp (hs.slots _ _ rfl) fun _ => rfl)) ?_
     refine DrawC.step rfl rfl rfl (Loc.of rfl fun σ' hs => R_move rfl (.no rfl) (hd_sup hs rfl) (.tmp (hs.slots _ _ rfl) fun _ => rfl)) ?_
     refine DrawC.step rfl rfl rfl (Loc.of rfl fun σ' hs => (by exact R_indexAddr rfl (.no rfl) (hd_sup hs rfl) (.tmp (hs.slots _ _ rfl) fun _ => rfl) (.tmp (hs.slots _ _ rfl) fun _ => rfl) Tryz.underlying27 ty22 (fun _ => ⟨by omega, (by exact map_get (by assumption))⟩))) ?_
     refine DrawC.step rfl rfl rfl (Loc.of rfl fun σ' hs => (by exact R_load rfl (.no rfl) (hd_sup hs rfl) (.tmp (hs.slots _ _ rfl) fun _ => rfl) ty22 rfl rfl)) ?_
     refine DrawC.step rfl rfl rfl (Loc.of rfl fun σ' hs => R_callz (FnT.fr (HeqIntS _)) rfl (.no rfl) (hd_sup hs rfl) (.cons (.tmp (hs.slots _ _ rfl) fun _ => rfl) (readA_sup hs rfl) (.cons (.tmp (hs.slots _ _ rfl) fun _ => rfl) (readA_sup hs rfl) .nil))) ?_
     refine DrawC.step rfl rfl rfl (Loc.of rfl fun σ' hs => R_not rfl (.no rfl) (hd_sup hs rfl) (.tmp (hs.slots _ _ rfl) fun _ => rfl)) ?_
     refine DrawC.fin rfl rfl ?_
     refine AWl.nil ?_
     refine AW.cond (.tmp rfl fun _ => rfl) (fun h26 => ?_) (fun h26 => ?_)
     · exact absurd h26 (by simp)
     · skip
       try simp at h26
       refine AW.skip ?_
       refine AW.region ?_
       refine AWl.put (R_move rfl (.no rfl) rfl (.tmp rfl fun _ => rfl)) rfl ?_
       refine AWl.put (R_add rfl (.no rfl) rfl (.tmp rfl fun _ => rfl) (.const rfl) (fun _ => by omega)) rfl ?_
       refine AWl.put (R_assign rfl (.no rfl) rfl (.tmp rfl fun _ => rfl)) rfl ?_
       refine AWl.nil ?_
       refine Round.next (k + 1) (by omega) (by omega) (Le.sub0 rfl ⟨rfl, rfl, rfl, trivial⟩ trivial)
   · skip
     try simp at hlt
     refine AW.exit ?_
     refine AW.seq ?_
     refine AW.region ?_
     refine AWl.put (R_assign rfl (.no rfl) rfl (.const rfl)) rfl ?_
     refine AWl.nil (AW.ret ?_)
     refine Res.v rfl rfl ?_
     rfl
set_option maxRecDepth 100000 in
theorem HtoToken (x : TToken) : FnT Tryz.prog 128 [.agg (cToken x)] (.a (.agg (cToken x))) := by
 refine FnT.walk Tryz.func128 rfl (by kernel_rfl) Tryz.ntmps128 rfl fun hlen w0 => ?_
 try simp [cPair, cToken, cExpr, cEdge, cGraph, cStep, cWalk, cChange, cBatch, cHistory, cPositions, cAutomaton, cProductStep, cPathAtom, cConjunction, cView, cDelta, cRegistered, cRegistry] at hlen
 refine AW.seq ?_
 refine AW.region ?_
 refine AWl.put (R_boxz rfl rfl rfl (.tmp rfl fun _ => rfl) (ts := _) (by rfl)) rfl ?_
 refine AWl.add (R_alloc 2 rfl rfl rfl in172 rfl rfl rfl) rfl ?_
 refine AWl.nil (AW.seq ?_)
 refine AW.region ?_
 refine AWl.add (R_alloc 3 rfl rfl rfl in172 rfl rfl rfl) rfl ?_
 refine AWl.nil (AW.seq ?_)
 refine AW.region ?_
 refine AWl.put (by exact R_fieldAddr rfl (.no rfl) rfl (.tmp rfl fun _ => rfl) fl174_0) rfl ?_
 refine AWl.put (by exact R_load rfl (.no rfl) rfl (.tmp rfl fun _ => rfl) ty3 rfl rfl) rfl ?_
 refine AWl.put (by exact R_fieldAddr_pp rfl (.no rfl) rfl (.tmp rfl fun _ => rfl) fl172_0) rfl ?_
 refine AWl.chgb (R_store_pb rfl rfl rfl (.tmp rfl fun _ => rfl) (.tmp rfl fun _ => rfl) rfl ty3 rfl rfl rfl (by kernel_rfl) rfl) ?_
 refine AWl.nil (AW.seq ?_)
 refine AW.region ?_
 refine AWl.put (by exact R_fieldAddr rfl (.no rfl) rfl (.tmp rfl fun _ => rfl) fl174_1) rfl ?_
 refine AWl.put (by exact R_load rfl (.no rfl) rfl (.tmp rfl fun _ => rfl) ty3 rfl rfl) rfl ?_
 refine AWl.put (by exact R_fieldAddr_pp rfl (.no rfl) rfl (.tmp rfl fun _ => rfl) fl172_1) rfl ?_
 refine AWl.chgb (R_store_pb rfl rfl rfl (.tmp rfl fun _ => rfl) (.tmp rfl fun _ => rfl) rfl ty3 rfl rfl rfl (by kernel_rfl) rfl) ?_
 refine AWl.nil (AW.seq ?_)
 refine AW.region ?_
 refine AWl.put (by exact R_fieldAddr rfl (.no rfl) rfl (.tmp rfl fun _ => rfl) fl174_2) rfl ?_
 refine AWl.put (by exact R_load rfl (.no rfl) rfl (.tmp rfl fun _ => rfl) ty3 rfl rfl) rfl ?_
 refine AWl.put (by exact R_fieldAddr_pp rfl (.no rfl) rfl (.tmp rfl fun _ => rfl) fl172_2) rfl ?_
 refine AWl.chgb (R_store_pb rfl rfl rfl (.tmp rfl fun _ => rfl) (.tmp rfl fun _ => rfl) rfl ty3 rfl rfl rfl (by kernel_rfl) rfl) ?_
 refine AWl.nil (AW.seq ?_)
 refine AW.region ?_
 refine AWl.put (by exact R_fieldAddr rfl (.no rfl) rfl (.tmp rfl fun _ => rfl) fl174_3) rfl ?_
 refine AWl.put (by exact R_load rfl (.no rfl) rfl (.tmp rfl fun _ => rfl) ty3 rfl rfl) rfl ?_
 refine AWl.put (by exact R_fieldAddr_pp rfl (.no rfl) rfl (.tmp rfl fun _ => rfl) fl172_3) rfl ?_
 refine AWl.chgb (R_store_pb rfl rfl rfl (.tmp rfl fun _ => rfl) (.tmp rfl fun _ => rfl) rfl ty3 rfl rfl rfl (by kernel_rfl) rfl) ?_
 refine AWl.nil (AW.seq ?_)
 refine AW.region ?_
 refine AWl.put (by exact R_load_pp rfl (.no rfl) rfl (.tmp rfl fun _ => rfl) rfl ty172 rfl rfl) rfl ?_
 refine AWl.chgb (R_store_pb rfl rfl rfl (.tmp rfl fun _ => rfl) (.tmp rfl fun _ => rfl) rfl ty172 rfl rfl rfl (by kernel_rfl) rfl) ?_
 refine AWl.nil (AW.ret ?_)
 refine Res.one rfl (.cell rfl rfl ty172 rfl rfl .nil) rfl ?_
 rfl
set_option maxRecDepth 100000 in
theorem HeqToken (x : TToken) : FnT Tryz.prog 138 [.agg (cToken x), .agg (cToken x)] (.a (.one (.v (.bool true)))) := by
 refine FnT.walk Tryz.func138 rfl (by kernel_rfl) Tryz.ntmps138 rfl fun hlen w0 => ?_
 try simp [cPair, cToken, cExpr, cEdge, cGraph, cStep, cWalk, cChange, cBatch, cHistory, cPositions, cAutomaton, cProductStep, cPathAtom, cConjunction, cView, cDelta, cRegistered, cRegistry] at hlen
 refine AW.seq ?_
 refine AW.region ?_
 refine AWl.put (R_boxz rfl rfl rfl (.tmp rfl fun _ => rfl) (ts := _) (by rfl)) rfl ?_
 refine AWl.put (R_boxz rfl rfl rfl (.tmp rfl fun _ => rfl) (ts := _) (by rfl)) rfl ?_
 refine AWl.put (R_assign rfl (.no rfl) rfl (.const rfl)) rfl ?_
 refine AWl.nil (AW.seq ?_)
 refine AW.seq ?_
 refine AW.region ?_
 refine AWl.put (by exact R_fieldAddr rfl (.no rfl) rfl (.tmp rfl fun _ => rfl) fl172_0) rfl ?_
 refine AWl.put (by exact R_load rfl (.no rfl) rfl (.tmp rfl fun _ => rfl) ty3 rfl rfl) rfl ?_
 refine AWl.put (by exact R_fieldAddr rfl (.no rfl) rfl (.tmp rfl fun _ => rfl) fl172_0) rfl ?_
 refine AWl.put (by exact R_load rfl (.no rfl) rfl (.tmp rfl fun _ => rfl) ty3 rfl rfl) rfl ?_
 refine AWl.put (R_ne rfl (.no rfl) rfl (.tmp rfl fun _ => rfl) (.tmp rfl fun _ => rfl)) rfl ?_
 refine AWl.nil ?_
 refine AW.cond (.tmp rfl fun _ => rfl) (fun h9 => ?_) (fun h9 => ?_)
 · exact absurd h9 (by simp)
 · skip
   try simp at h9
   refine AW.skip ?_
   refine AW.seq ?_
   refine AW.seq ?_
   refine AW.region ?_
   refine AWl.put (by exact R_fieldAddr rfl (.no rfl) rfl (.tmp rfl fun _ => rfl) fl172_1) rfl ?_
   refine AWl.put (by exact R_load rfl (.no rfl) rfl (.tmp rfl fun _ => rfl) ty3 rfl rfl) rfl ?_
   refine AWl.put (by exact R_fieldAddr rfl (.no rfl) rfl (.tmp rfl fun _ => rfl) fl172_1) rfl ?_
   refine AWl.put (by exact R_load rfl (.no rfl) rfl (.tmp rfl fun _ => rfl) ty3 rfl rfl) rfl ?_
   refine AWl.put (R_ne rfl (.no rfl) rfl (.tmp rfl fun _ => rfl) (.tmp rfl fun _ => rfl)) rfl ?_
   refine AWl.nil ?_
   refine AW.cond (.tmp rfl fun _ => rfl) (fun h14 => ?_) (fun h14 => ?_)
   · exact absurd h14 (by simp)
   · skip
     try simp at h14
     refine AW.skip ?_
     refine AW.seq ?_
     refine AW.seq ?_
     refine AW.region ?_
     refine AWl.put (by exact R_fieldAddr rfl (.no rfl) rfl (.tmp rfl fun _ => rfl) fl172_2) rfl ?_
     refine AWl.put (by exact R_load rfl (.no rfl) rfl (.tmp rfl fun _ => rfl) ty3 rfl rfl) rfl ?_
     refine AWl.put (by exact R_fieldAddr rfl (.no rfl) rfl (.tmp rfl fun _ => rfl) fl172_2) rfl ?_
     refine AWl.put (by exact R_load rfl (.no rfl) rfl (.tmp rfl fun _ => rfl) ty3 rfl rfl) rfl ?_
     refine AWl.put (R_ne rfl (.no rfl) rfl (.tmp rfl fun _ => rfl) (.tmp rfl fun _ => rfl)) rfl ?_
     refine AWl.nil ?_
     refine AW.cond (.tmp rfl fun _ => rfl) (fun h19 => ?_) (fun h19 => ?_)
     · exact absurd h19 (by simp)
     · skip
       try simp at h19
       refine AW.skip ?_
       refine AW.seq ?_
       refine AW.seq ?_
       refine AW.region ?_
       refine AWl.put (by exact R_fieldAddr rfl (.no rfl) rfl (.tmp rfl fun _ => rfl) fl172_3) rfl ?_
       refine AWl.put (by exact R_load rfl (.no rfl) rfl (.tmp rfl fun _ => rfl) ty3 rfl rfl) rfl ?_
       refine AWl.put (by exact R_fieldAddr rfl (.no rfl) rfl (.tmp rfl fun _ => rfl) fl172_3) rfl ?_
       refine AWl.put (by exact R_load rfl (.no rfl) rfl (.tmp rfl fun _ => rfl) ty3 rfl rfl) rfl ?_
       refine AWl.put (R_ne rfl (.no rfl) rfl (.tmp rfl fun _ => rfl) (.tmp rfl fun _ => rfl)) rfl ?_
       refine AWl.nil ?_
       refine AW.cond (.tmp rfl fun _ => rfl) (fun h24 => ?_) (fun h24 => ?_)
       · exact absurd h24 (by simp)
       · skip
         try simp at h24
         refine AW.skip ?_
         refine AW.seq ?_
         refine AW.region ?_
         refine AWl.put (R_assign rfl (.no rfl) rfl (.const rfl)) rfl ?_
         refine AWl.nil (AW.ret ?_)
         refine Res.v rfl rfl ?_
         rfl
set_option maxRecDepth 100000 in
theorem HtoTokenS (x : (List TToken)) (hz : okTokenS x) : FnT Tryz.prog 71 [.one (.sl 4 (x.map cToken))] (.a (.one (.sl 4 (x.map cToken)))) := by
 refine FnT.walk Tryz.func71 rfl (by kernel_rfl) Tryz.ntmps71 rfl fun hlen w0 => ?_
 try simp [cPair, cToken, cExpr, cEdge, cGraph, cStep, cWalk, cChange, cBatch, cHistory, cPositions, cAutomaton, cProductStep, cPathAtom, cConjunction, cView, cDelta, cRegistered, cRegistry] at hlen
 have hz0 : x.length ≤ 1048576 := hz
 refine AW.seq ?_
 refine AW.region ?_
 refine AWl.put (R_assign rfl (.no rfl) rfl (.const rfl)) rfl ?_
 refine AWl.nil (AW.seq ?_)
 refine AW.region ?_
 refine AWl.put (R_move rfl (.no rfl) rfl (.tmp rfl fun _ => rfl)) rfl ?_
 refine AWl.put (by exact R_lenm rfl (.no rfl) rfl (.tmp rfl fun _ => rfl) (by exact .t) Tryz.underlying65) rfl ?_
 refine AWl.add (R_makeSlice 7 rfl rfl rfl (.tmp rfl fun _ => rfl) Tryz.underlying71 in172 rfl rfl rfl rfl (by omega)) rfl ?_
 refine AWl.put (R_assign rfl (.no rfl) rfl (.tmp rfl fun _ => rfl)) rfl ?_
 refine AWl.nil (AW.seq ?_)
 refine AW.seq ?_
 refine AW.region ?_
 refine AWl.put (R_assign rfl (.no rfl) rfl (.const rfl)) rfl ?_
 refine AWl.nil (AW.block ?_)
 refine AW.loop (β := Nat) (fun i => i ≤ x.length) (fun i => ⟨_, [(4, (true, .a (.one (.t (.v (.int .i64 (i : Nat))))))), (0, _), (2, _), (3, _)], [(7, .row 4 ((x.take i).map cToken ++ List.replicate (x.length - i) [.v (.int .i64 0), .v (.int .i64 0), .v (.int .i64 0), .v (.int .i64 0)]))]⟩) (fun i => x.length - i) (0) (Nat.zero_le _) (Le.sub0 rfl ⟨rfl, rfl, rfl, rfl, trivial⟩ ⟨rfl, trivial⟩) ?_
 intro k hk
 refine AW.seq ?_
 refine AW.seq ?_
 refine AW.region ?_
 refine AWl.put (R_move rfl (.no rfl) rfl (.tmp rfl fun _ => rfl)) rfl ?_
 refine AWl.put (R_move rfl (.no rfl) rfl (.tmp rfl fun _ => rfl)) rfl ?_
 refine AWl.put (by exact R_lenm rfl (.no rfl) rfl (.tmp rfl fun _ => rfl) (by exact .t) Tryz.underlying65) rfl ?_
 refine AWl.put (R_lt rfl (.no rfl) rfl (.tmp rfl fun _ => rfl) (.tmp rfl fun _ => rfl)) rfl ?_
 refine AWl.nil ?_
 refine AW.cond (.tmp rfl fun _ => rfl) (fun hlt => ?_) (fun hlt => ?_)
 · skip
   try simp at hlt
   obtain ⟨y, hx⟩ : ∃ y, x[k]? = some y := ⟨_, List.getElem?_eq_getElem hlt⟩
   refine AW.skip ?_
   refine AW.seq ?_
   refine AW.block ?_
   refine AW.region ?_
   refine AWl.put (R_move rfl (.no rfl) rfl (.tmp rfl fun _ => rfl)) rfl ?_
   refine AWl.put (R_move rfl (.no rfl) rfl (.tmp rfl fun _ => rfl)) rfl ?_
   refine AWl.put (R_move rfl (.no rfl) rfl (.tmp rfl fun _ => rfl)) rfl ?_
   refine AWl.put (R_move rfl (.no rfl) rfl (.tmp rfl fun _ => rfl)) rfl ?_
   refine AWl.put ((by exact R_indexAddr rfl (.no rfl) rfl (.tmp rfl fun _ => rfl) (.tmp rfl fun _ => rfl) Tryz.underlying65 ty174 (fun _ => ⟨by omega, (by exact map_get (by assumption))⟩))) rfl ?_
   refine AWl.put (by exact R_load rfl (.no rfl) rfl (.tmp rfl fun _ => rfl) ty174 rfl rfl) rfl ?_
   refine AWl.put (R_callz (FnT.fr (HtoToken _)) rfl (.no rfl) rfl (.cons (.tmp rfl fun _ => rfl) rfl .nil)) rfl ?_
   refine AWl.put (by exact R_indexAddr_rf rfl (.no rfl) rfl (.tmp rfl fun _ => rfl) rfl (.tmp rfl fun _ => rfl) Tryz.underlying71 ty172 (fun _ => ⟨by omega, made_at hlt⟩)) rfl ?_
   refine AWl.absupd (R_store_pr rfl rfl rfl (.tmp rfl fun _ => rfl) rfl (.tmp rfl fun _ => rfl) rfl (made_at hlt) ty172 rfl rfl rfl rfl) ?_
   refine AWl.nil (AW.region ?_)
   refine AWl.put (R_move rfl (.no rfl) rfl (.tmp rfl fun _ => rfl)) rfl ?_
   refine AWl.put (R_add rfl (.no rfl) rfl (.tmp rfl fun _ => rfl) (.const rfl) (fun _ => by omega)) rfl ?_
   refine AWl.put (R_assign rfl (.no rfl) rfl (.tmp rfl fun _ => rfl)) rfl ?_
   refine AWl.nil ?_
   refine Round.next (k + 1) (by omega) (by omega) (Le.sub0 rfl ⟨rfl, rfl, rfl, rfl, trivial⟩ ⟨congrArg (fun r => some (R.row 4 r)) (set_made hx), trivial⟩)
 · skip
   try simp at hlt
   refine AW.exit ?_
   refine AW.seq ?_
   refine AW.region ?_
   refine AWl.put (R_move rfl (.no rfl) rfl (.tmp rfl fun _ => rfl)) rfl ?_
   refine AWl.put (R_assign rfl (.no rfl) rfl (.tmp rfl fun _ => rfl)) rfl ?_
   refine AWl.nil (AW.ret ?_)
   refine Res.one rfl (.tmp rfl .nil) rfl ?_
   exact congrArg (fun r => [V0.one (T.sl 4 r)]) (made_end (by omega))
set_option maxRecDepth 100000 in
theorem HeqTokenS (x : (List TToken)) : FnT Tryz.prog 76 [.one (.sl 4 (x.map cToken)), .one (.sl 4 (x.map cToken))] (.a (.one (.v (.bool true)))) := by
 refine FnT.walk Tryz.func76 rfl (by kernel_rfl) Tryz.ntmps76 rfl fun hlen w0 => ?_
 try simp [cPair, cToken, cExpr, cEdge, cGraph, cStep, cWalk, cChange, cBatch, cHistory, cPositions, cAutomaton, cProductStep, cPathAtom, cConjunction, cView, cDelta, cRegistered, cRegistry] at hlen
 refine AW.seq ?_
 refine AW.region ?_
 refine AWl.put (R_assign rfl (.no rfl) rfl (.const rfl)) rfl ?_
 refine AWl.nil (AW.seq ?_)
 refine AW.seq ?_
 refine AW.region ?_
 refine AWl.put (R_move rfl (.no rfl) rfl (.tmp rfl fun _ => rfl)) rfl ?_
 refine AWl.put (by exact R_lenm rfl (.no rfl) rfl (.tmp rfl fun _ => rfl) (by exact .t) Tryz.underlying71) rfl ?_
 refine AWl.put (R_move rfl (.no rfl) rfl (.tmp rfl fun _ => rfl)) rfl ?_
 refine AWl.put (by exact R_lenm rfl (.no rfl) rfl (.tmp rfl fun _ => rfl) (by exact .t) Tryz.underlying71) rfl ?_
 refine AWl.put (R_ne rfl (.no rfl) rfl (.tmp rfl fun _ => rfl) (.tmp rfl fun _ => rfl)) rfl ?_
 refine AWl.nil ?_
 refine AW.cond (.tmp rfl fun _ => rfl) (fun h10 => ?_) (fun h10 => ?_)
 · exact absurd h10 (by simp)
 · skip
   try simp at h10
   refine AW.skip ?_
   refine AW.seq ?_
   refine AW.seq ?_
   refine AW.region ?_
   refine AWl.put (R_assign rfl (.no rfl) rfl (.const rfl)) rfl ?_
   refine AWl.nil (AW.block ?_)
   refine AW.loop (β := Nat) (fun i => i ≤ x.length) (fun i => ⟨_, [(5, (true, .a (.one (.t (.v (.int .i64 (i : Nat))))))), (0, _), (1, _)], []⟩) (fun i => x.length - i) (0) (Nat.zero_le _) (Le.sub0 rfl ⟨rfl, rfl, rfl, trivial⟩ trivial) ?_
   intro k hk
   refine AW.seq ?_
   refine AW.seq ?_
   refine AW.region ?_
   refine AWl.put (R_move rfl (.no rfl) rfl (.tmp rfl fun _ => rfl)) rfl ?_
   refine AWl.put (R_move rfl (.no rfl) rfl (.tmp rfl fun _ => rfl)) rfl ?_
   refine AWl.put (by exact R_lenm rfl (.no rfl) rfl (.tmp rfl fun _ => rfl) (by exact .t) Tryz.underlying71) rfl ?_
   refine AWl.put (R_lt rfl (.no rfl) rfl (.tmp rfl fun _ => rfl) (.tmp rfl fun _ => rfl)) rfl ?_
   refine AWl.nil ?_
   refine AW.cond (.tmp rfl fun _ => rfl) (fun hlt => ?_) (fun hlt => ?_)
   · skip
     try simp at hlt
     obtain ⟨y, hx⟩ : ∃ y, x[k]? = some y := ⟨_, List.getElem?_eq_getElem hlt⟩
     refine AW.skip ?_
     refine AW.seq ?_
     refine AW.block ?_
     refine AW.seq ?_
     refine AW.drawn 10 (nthB [[], [], [0, 1], [0, 1, 2], [], [], [4, 5], [4, 5, 6], [0, 1, 2, 3, 4, 5, 6, 7], [0, 1, 2, 3, 4, 5, 6, 7, 8]]) (by kernel_rfl) (by kernel_rfl) (by kernel_rfl) ?_
     refine DrawC.step rfl rfl rfl (Loc.of rfl fun σ' hs => R_move rfl (.no rfl) (hd_sup hs rfl) (.tmp (hs.slots _ _ rfl) fun _ => rfl)) ?_
     refine DrawC.step rfl rfl rfl (Loc.of rfl fun σ' hs => R_move rfl (.no rfl) (hd_sup hs rfl) (.tmp (hs.slots _ _ rfl) fun _ => rfl)) ?_
     refine DrawC.step rfl rfl rfl (Loc.of rfl fun σ' hs => (by exact R_indexAddr rfl (.no rfl) (hd_sup hs rfl) (.tmp (hs.slots _ _ rfl) fun _ => rfl) (.tmp (hs.slots _ _ rfl) fun _ => rfl) Tryz.underlying71 ty172 (fun _ => ⟨by omega, (by exact map_get (by assumption))⟩))) ?_
     refine DrawC.step rfl rfl rfl (Loc.of rfl fun σ' hs => (by exact R_load rfl (.no rfl) (hd_sup hs rfl) (.tmp (hs.slots _ _ rfl) fun _ => rfl) ty172 rfl rfl)) ?_
     refine DrawC.step rfl rfl rfl (Loc.of rfl fun σ' hs => R_move rfl (.no rfl) (hd_sup hs rfl) (.tmp (hs.slots _ _ rfl) fun _ => rfl)) ?_
     refine DrawC.step rfl rfl rfl (Loc.of rfl fun σ' hs => R_move rfl (.no rfl) (hd_sup hs rfl) (.tmp (hs.slots _ _ rfl) fun _ => rfl)) ?_
     refine DrawC.step rfl rfl rfl (Loc.of rfl fun σ' hs => (by exact R_indexAddr rfl (.no rfl) (hd_sup hs rfl) (.tmp (hs.slots _ _ rfl) fun _ => rfl) (.tmp (hs.slots _ _ rfl) fun _ => rfl) Tryz.underlying71 ty172 (fun _ => ⟨by omega, (by exact map_get (by assumption))⟩))) ?_
     refine DrawC.step rfl rfl rfl (Loc.of rfl fun σ' hs => (by exact R_load rfl (.no rfl) (hd_sup hs rfl) (.tmp (hs.slots _ _ rfl) fun _ => rfl) ty172 rfl rfl)) ?_
     refine DrawC.step rfl rfl rfl (Loc.of rfl fun σ' hs => R_callz (FnT.fr (HeqToken _)) rfl (.no rfl) (hd_sup hs rfl) (.cons (.tmp (hs.slots _ _ rfl) fun _ => rfl) (readA_sup hs rfl) (.cons (.tmp (hs.slots _ _ rfl) fun _ => rfl) (readA_sup hs rfl) .nil))) ?_
     refine DrawC.step rfl rfl rfl (Loc.of rfl fun σ' hs => R_not rfl (.no rfl) (hd_sup hs rfl) (.tmp (hs.slots _ _ rfl) fun _ => rfl)) ?_
     refine DrawC.fin rfl rfl ?_
     refine AWl.nil ?_
     refine AW.cond (.tmp rfl fun _ => rfl) (fun h26 => ?_) (fun h26 => ?_)
     · exact absurd h26 (by simp)
     · skip
       try simp at h26
       refine AW.skip ?_
       refine AW.region ?_
       refine AWl.put (R_move rfl (.no rfl) rfl (.tmp rfl fun _ => rfl)) rfl ?_
       refine AWl.put (R_add rfl (.no rfl) rfl (.tmp rfl fun _ => rfl) (.const rfl) (fun _ => by omega)) rfl ?_
       refine AWl.put (R_assign rfl (.no rfl) rfl (.tmp rfl fun _ => rfl)) rfl ?_
       refine AWl.nil ?_
       refine Round.next (k + 1) (by omega) (by omega) (Le.sub0 rfl ⟨rfl, rfl, rfl, trivial⟩ trivial)
   · skip
     try simp at hlt
     refine AW.exit ?_
     refine AW.seq ?_
     refine AW.region ?_
     refine AWl.put (R_assign rfl (.no rfl) rfl (.const rfl)) rfl ?_
     refine AWl.nil (AW.ret ?_)
     refine Res.v rfl rfl ?_
     rfl
set_option maxRecDepth 100000 in
theorem HszTokenS (x : (List TToken)) (a : Int) (ha : 0 ≤ a ∧ a ≤ 1048576) : FnT Tryz.prog 66 [.one (.sl 4 (x.map cToken)), .one (.v (.int .i64 a))] (.a (.one (.v (.int .i64 (szTokenS x a))))) := by
 refine FnT.walk Tryz.func66 rfl (by kernel_rfl) Tryz.ntmps66 rfl fun hlen w0 => ?_
 try simp [cPair, cToken, cExpr, cEdge, cGraph, cStep, cWalk, cChange, cBatch, cHistory, cPositions, cAutomaton, cProductStep, cPathAtom, cConjunction, cView, cDelta, cRegistered, cRegistry] at hlen
 refine AW.seq ?_
 refine AW.region ?_
 refine AWl.put (R_assign rfl (.no rfl) rfl (.const rfl)) rfl ?_
 refine AWl.nil (AW.seq ?_)
 refine AW.region ?_
 refine AWl.put (R_move rfl (.no rfl) rfl (.tmp rfl fun _ => rfl)) rfl ?_
 refine AWl.put (R_move rfl (.no rfl) rfl (.tmp rfl fun _ => rfl)) rfl ?_
 refine AWl.put (by exact R_lenm rfl (.no rfl) rfl (.tmp rfl fun _ => rfl) (by exact .t) Tryz.underlying65) rfl ?_
 refine AWl.put (R_sub rfl (.no rfl) rfl (.tmp rfl fun _ => rfl) (.tmp rfl fun _ => rfl) (fun _ => by omega)) rfl ?_
 refine AWl.put (R_assign rfl (.no rfl) rfl (.tmp rfl fun _ => rfl)) rfl ?_
 refine AWl.nil (AW.seq ?_)
 refine AW.seq ?_
 refine AW.region ?_
 refine AWl.put (R_move rfl (.no rfl) rfl (.tmp rfl fun _ => rfl)) rfl ?_
 refine AWl.put (R_lt rfl (.no rfl) rfl (.tmp rfl fun _ => rfl) (.const rfl)) rfl ?_
 refine AWl.nil ?_
 refine AW.cond (.tmp rfl fun _ => rfl) (fun h10 => ?_) (fun h10 => ?_)
 · skip
   try simp at h10
   refine AW.seq ?_
   refine AW.region ?_
   refine AWl.put (R_assign rfl (.no rfl) rfl (.const rfl)) rfl ?_
   refine AWl.nil (AW.ret ?_)
   refine Res.v rfl rfl ?_
   simp [szTokenS, szL]; omega
 · skip
   try simp at h10
   refine AW.skip ?_
   refine AW.seq ?_
   refine AW.region ?_
   refine AWl.put (R_move rfl (.no rfl) rfl (.tmp rfl fun _ => rfl)) rfl ?_
   refine AWl.put (R_assign rfl (.no rfl) rfl (.tmp rfl fun _ => rfl)) rfl ?_
   refine AWl.nil (AW.ret ?_)
   refine Res.v rfl rfl ?_
   simp [szTokenS, szL]; omega
set_option maxRecDepth 100000 in
theorem HtoExpr (x : TExpr) (hz : okExpr x) : FnT Tryz.prog 27 [.agg (cExpr x)] (.a (.agg (cExpr x))) := by
 refine FnT.walk Tryz.func27 rfl (by kernel_rfl) Tryz.ntmps27 rfl fun hlen w0 => ?_
 try simp [cPair, cToken, cExpr, cEdge, cGraph, cStep, cWalk, cChange, cBatch, cHistory, cPositions, cAutomaton, cProductStep, cPathAtom, cConjunction, cView, cDelta, cRegistered, cRegistry] at hlen
 refine AW.seq ?_
 refine AW.region ?_
 refine AWl.put (R_boxz rfl rfl rfl (.tmp rfl fun _ => rfl) (ts := _) (by rfl)) rfl ?_
 refine AWl.add (R_alloc 2 rfl rfl rfl in73 rfl rfl rfl) rfl ?_
 refine AWl.nil (AW.seq ?_)
 refine AW.region ?_
 refine AWl.add (R_alloc 3 rfl rfl rfl in73 rfl rfl rfl) rfl ?_
 refine AWl.nil (AW.seq ?_)
 refine AW.region ?_
 refine AWl.put (by exact R_fieldAddr rfl (.no rfl) rfl (.tmp rfl fun _ => rfl) fl67_0) rfl ?_
 refine AWl.put (by exact R_load rfl (.no rfl) rfl (.tmp rfl fun _ => rfl) ty65 rfl rfl) rfl ?_
 refine AWl.adds (R_call 600 (HtoTokenS _ (by exact hz.1)) rfl rfl rfl (.cons (.tmp rfl fun _ => rfl) rfl .nil) rfl rfl) rfl ?_
 refine AWl.put (by exact R_fieldAddr_pp rfl (.no rfl) rfl (.tmp rfl fun _ => rfl) fl73_0) rfl ?_
 refine AWl.chgb (R_store_pb rfl rfl rfl (.tmp rfl fun _ => rfl) (.tmp rfl fun _ => rfl) rfl ty71 rfl rfl rfl (by kernel_rfl) rfl) ?_
 refine AWl.nil (AW.seq ?_)
 refine AW.region ?_
 refine AWl.put (by exact R_load_pp rfl (.no rfl) rfl (.tmp rfl fun _ => rfl) rfl ty73 rfl rfl) rfl ?_
 refine AWl.chgb (R_store_pb rfl rfl rfl (.tmp rfl fun _ => rfl) (.tmp rfl fun _ => rfl) rfl ty73 rfl rfl rfl (by kernel_rfl) rfl) ?_
 refine AWl.nil (AW.ret ?_)
 refine Res.one rfl (.cell rfl rfl ty73 rfl rfl .nil) rfl ?_
 rfl
set_option maxRecDepth 100000 in
theorem HeqExpr (x : TExpr) : FnT Tryz.prog 30 [.agg (cExpr x), .agg (cExpr x)] (.a (.one (.v (.bool true)))) := by
 refine FnT.walk Tryz.func30 rfl (by kernel_rfl) Tryz.ntmps30 rfl fun hlen w0 => ?_
 try simp [cPair, cToken, cExpr, cEdge, cGraph, cStep, cWalk, cChange, cBatch, cHistory, cPositions, cAutomaton, cProductStep, cPathAtom, cConjunction, cView, cDelta, cRegistered, cRegistry] at hlen
 refine AW.seq ?_
 refine AW.region ?_
 refine AWl.put (R_boxz rfl rfl rfl (.tmp rfl fun _ => rfl) (ts := _) (by rfl)) rfl ?_
 refine AWl.put (R_boxz rfl rfl rfl (.tmp rfl fun _ => rfl) (ts := _) (by rfl)) rfl ?_
 refine AWl.put (R_assign rfl (.no rfl) rfl (.const rfl)) rfl ?_
 refine AWl.nil (AW.seq ?_)
 refine AW.seq ?_
 refine AW.region ?_
 refine AWl.put (by exact R_fieldAddr rfl (.no rfl) rfl (.tmp rfl fun _ => rfl) fl73_0) rfl ?_
 refine AWl.put (by exact R_load rfl (.no rfl) rfl (.tmp rfl fun _ => rfl) ty71 rfl rfl) rfl ?_
 refine AWl.put (by exact R_fieldAddr rfl (.no rfl) rfl (.tmp rfl fun _ => rfl) fl73_0) rfl ?_
 refine AWl.put (by exact R_load rfl (.no rfl) rfl (.tmp rfl fun _ => rfl) ty71 rfl rfl) rfl ?_
 refine AWl.put (R_callz (FnT.fr (HeqTokenS _)) rfl (.no rfl) rfl (.cons (.tmp rfl fun _ => rfl) rfl (.cons (.tmp rfl fun _ => rfl) rfl .nil))) rfl ?_
 refine AWl.put (R_not rfl (.no rfl) rfl (.tmp rfl fun _ => rfl)) rfl ?_
 refine AWl.nil ?_
 refine AW.cond (.tmp rfl fun _ => rfl) (fun h10 => ?_) (fun h10 => ?_)
 · exact absurd h10 (by simp)
 · skip
   try simp at h10
   refine AW.skip ?_
   refine AW.seq ?_
   refine AW.region ?_
   refine AWl.put (R_assign rfl (.no rfl) rfl (.const rfl)) rfl ?_
   refine AWl.nil (AW.ret ?_)
   refine Res.v rfl rfl ?_
   rfl
set_option maxRecDepth 100000 in
theorem HszExpr (x : TExpr) (a : Int) (ha : 0 ≤ a ∧ a ≤ 1048576) : FnT Tryz.prog 25 [.agg (cExpr x), .one (.v (.int .i64 a))] (.a (.one (.v (.int .i64 (szExpr x a))))) := by
 refine FnT.walk Tryz.func25 rfl (by kernel_rfl) Tryz.ntmps25 rfl fun hlen w0 => ?_
 try simp [cPair, cToken, cExpr, cEdge, cGraph, cStep, cWalk, cChange, cBatch, cHistory, cPositions, cAutomaton, cProductStep, cPathAtom, cConjunction, cView, cDelta, cRegistered, cRegistry] at hlen
 have hb0 := szTokenS_ok x.Tokens a
 refine AW.seq ?_
 refine AW.region ?_
 refine AWl.put (R_boxz rfl rfl rfl (.tmp rfl fun _ => rfl) (ts := _) (by rfl)) rfl ?_
 refine AWl.put (R_assign rfl (.no rfl) rfl (.const rfl)) rfl ?_
 refine AWl.nil (AW.seq ?_)
 refine AW.region ?_
 refine AWl.put (by exact R_fieldAddr rfl (.no rfl) rfl (.tmp rfl fun _ => rfl) fl67_0) rfl ?_
 refine AWl.put (by exact R_load rfl (.no rfl) rfl (.tmp rfl fun _ => rfl) ty65 rfl rfl) rfl ?_
 refine AWl.put (R_move rfl (.no rfl) rfl (.tmp rfl fun _ => rfl)) rfl ?_
 refine AWl.put (R_callz (FnT.fr (HszTokenS _ _ (by omega))) rfl (.no rfl) rfl (.cons (.tmp rfl fun _ => rfl) rfl (.cons (.tmp rfl fun _ => rfl) rfl .nil))) rfl ?_
 refine AWl.put (R_assign rfl (.no rfl) rfl (.tmp rfl fun _ => rfl)) rfl ?_
 refine AWl.nil (AW.seq ?_)
 refine AW.seq ?_
 refine AW.region ?_
 refine AWl.put (R_move rfl (.no rfl) rfl (.tmp rfl fun _ => rfl)) rfl ?_
 refine AWl.put (R_lt rfl (.no rfl) rfl (.tmp rfl fun _ => rfl) (.const rfl)) rfl ?_
 refine AWl.nil ?_
 refine AW.cond (.tmp rfl fun _ => rfl) (fun h10 => ?_) (fun h10 => ?_)
 · skip
   try simp at h10
   refine AW.seq ?_
   refine AW.region ?_
   refine AWl.put (R_assign rfl (.no rfl) rfl (.const rfl)) rfl ?_
   refine AWl.nil (AW.ret ?_)
   refine Res.v rfl rfl ?_
   simp only [szExpr, szSeq]; grind
 · skip
   try simp at h10
   refine AW.skip ?_
   refine AW.seq ?_
   refine AW.region ?_
   refine AWl.put (R_move rfl (.no rfl) rfl (.tmp rfl fun _ => rfl)) rfl ?_
   refine AWl.put (R_assign rfl (.no rfl) rfl (.tmp rfl fun _ => rfl)) rfl ?_
   refine AWl.nil (AW.ret ?_)
   refine Res.v rfl rfl ?_
   simp only [szExpr, szSeq]; grind
end Go.Proofs.YtoealglkenhphaaGreat
