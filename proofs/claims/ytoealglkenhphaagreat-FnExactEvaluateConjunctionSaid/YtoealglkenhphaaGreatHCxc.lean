import Derived.Test.YtoealglkenhphaaGreatHAxc
set_option linter.unusedVariables false
set_option linter.unusedSimpArgs false
namespace Go.Proofs.YtoealglkenhphaaGreat
open Go.RowKit Go.Q Go.D
set_option maxRecDepth 100000 in
theorem HtoPathAtom (x : TPathAtom) (hz : okPathAtom x) : FnT Tryz.prog 147 [.agg (cPathAtom x)] (.a (.agg (cPathAtom x))) := by
 refine FnT.walk Tryz.func147 rfl (by kernel_rfl) Tryz.ntmps147 rfl fun hlen w0 => ?_
 try simp [cPair, cToken, cExpr, cEdge, cGraph, cStep, cWalk, cChange, cBatch, cHistory, cPositions, cAutomaton, cProductStep, cPathAtom, cConjunction, cView, cDelta, cRegistered, cRegistry] at hlen
 refine AW.seq ?_
 refine AW.region ?_
 refine AWl.put (R_boxz rfl rfl rfl (.tmp rfl fun _ => rfl) (ts := _) (by rfl)) rfl ?_
 refine AWl.add (R_alloc 2 rfl rfl rfl in129 rfl rfl rfl) rfl ?_
 refine AWl.nil (AW.seq ?_)
 refine AW.region ?_
 refine AWl.add (R_alloc 3 rfl rfl rfl in129 rfl rfl rfl) rfl ?_
 refine AWl.nil (AW.seq ?_)
 refine AW.region ?_
 refine AWl.put (by exact R_fieldAddr rfl (.no rfl) rfl (.tmp rfl fun _ => rfl) fl183_0) rfl ?_
 refine AWl.put (by exact R_load rfl (.no rfl) rfl (.tmp rfl fun _ => rfl) ty3 rfl rfl) rfl ?_
 refine AWl.put (by exact R_fieldAddr_pp rfl (.no rfl) rfl (.tmp rfl fun _ => rfl) fl129_0) rfl ?_
 refine AWl.chgb (R_store_pb rfl rfl rfl (.tmp rfl fun _ => rfl) (.tmp rfl fun _ => rfl) rfl ty3 rfl rfl rfl (by kernel_rfl) rfl) ?_
 refine AWl.nil (AW.seq ?_)
 refine AW.region ?_
 refine AWl.put (by exact R_fieldAddr rfl (.no rfl) rfl (.tmp rfl fun _ => rfl) fl183_1) rfl ?_
 refine AWl.put (by exact R_load rfl (.no rfl) rfl (.tmp rfl fun _ => rfl) ty3 rfl rfl) rfl ?_
 refine AWl.put (by exact R_fieldAddr_pp rfl (.no rfl) rfl (.tmp rfl fun _ => rfl) fl129_1) rfl ?_
 refine AWl.chgb (R_store_pb rfl rfl rfl (.tmp rfl fun _ => rfl) (.tmp rfl fun _ => rfl) rfl ty3 rfl rfl rfl (by kernel_rfl) rfl) ?_
 refine AWl.nil (AW.seq ?_)
 refine AW.region ?_
 refine AWl.put (by exact R_fieldAddr rfl (.no rfl) rfl (.tmp rfl fun _ => rfl) fl183_2) rfl ?_
 refine AWl.put (by exact R_load rfl (.no rfl) rfl (.tmp rfl fun _ => rfl) ty67 rfl rfl) rfl ?_
 refine AWl.adds (R_call 1200 (HtoExpr _ (by exact hz.1)) rfl rfl rfl (.cons (.tmp rfl fun _ => rfl) rfl .nil) rfl rfl) rfl ?_
 refine AWl.put (by exact R_fieldAddr_pp rfl (.no rfl) rfl (.tmp rfl fun _ => rfl) fl129_2) rfl ?_
 refine AWl.chgb (R_store_pb rfl rfl rfl (.tmp rfl fun _ => rfl) (.tmp rfl fun _ => rfl) rfl ty73 rfl rfl rfl (by kernel_rfl) rfl) ?_
 refine AWl.nil (AW.seq ?_)
 refine AW.region ?_
 refine AWl.put (by exact R_load_pp rfl (.no rfl) rfl (.tmp rfl fun _ => rfl) rfl ty129 rfl rfl) rfl ?_
 refine AWl.chgb (R_store_pb rfl rfl rfl (.tmp rfl fun _ => rfl) (.tmp rfl fun _ => rfl) rfl ty129 rfl rfl rfl (by kernel_rfl) rfl) ?_
 refine AWl.nil (AW.ret ?_)
 refine Res.one rfl (.cell rfl rfl ty129 rfl rfl .nil) rfl ?_
 rfl
set_option maxRecDepth 100000 in
theorem HeqPathAtom (x : TPathAtom) : FnT Tryz.prog 150 [.agg (cPathAtom x), .agg (cPathAtom x)] (.a (.one (.v (.bool true)))) := by
 refine FnT.walk Tryz.func150 rfl (by kernel_rfl) Tryz.ntmps150 rfl fun hlen w0 => ?_
 try simp [cPair, cToken, cExpr, cEdge, cGraph, cStep, cWalk, cChange, cBatch, cHistory, cPositions, cAutomaton, cProductStep, cPathAtom, cConjunction, cView, cDelta, cRegistered, cRegistry] at hlen
 refine AW.seq ?_
 refine AW.region ?_
 refine AWl.put (R_boxz rfl rfl rfl (.tmp rfl fun _ => rfl) (ts := _) (by rfl)) rfl ?_
 refine AWl.put (R_boxz rfl rfl rfl (.tmp rfl fun _ => rfl) (ts := _) (by rfl)) rfl ?_
 refine AWl.put (R_assign rfl (.no rfl) rfl (.const rfl)) rfl ?_
 refine AWl.nil (AW.seq ?_)
 refine AW.seq ?_
 refine AW.region ?_
 refine AWl.put (by exact R_fieldAddr rfl (.no rfl) rfl (.tmp rfl fun _ => rfl) fl129_0) rfl ?_
 refine AWl.put (by exact R_load rfl (.no rfl) rfl (.tmp rfl fun _ => rfl) ty3 rfl rfl) rfl ?_
 refine AWl.put (by exact R_fieldAddr rfl (.no rfl) rfl (.tmp rfl fun _ => rfl) fl129_0) rfl ?_
 refine AWl.put (by exact R_load rfl (.no rfl) rfl (.tmp rfl fun _ => rfl) ty3 rfl rfl) rfl ?_
 refine AWl.put (R_ne rfl (.no rfl) rfl (.tmp rfl fun _ => rfl) (.tmp rfl fun _ => rfl)) rfl ?_
 refine AWl.nil ?_
 refine AW.cond (.tmp rfl fun _ => rfl) (fun h9 => ?_) (fun h9 => ?_)
 · exact absurd h9 (by simp)
 · skip
   try simp at h9
   refine AW.skip ?_
   refine AW.seq ?_
   refine AW.seq ?_
   refine AW.region ?_
   refine AWl.put (by exact R_fieldAddr rfl (.no rfl) rfl (.tmp rfl fun _ => rfl) fl129_1) rfl ?_
   refine AWl.put (by exact R_load rfl (.no rfl) rfl (.tmp rfl fun _ => rfl) ty3 rfl rfl) rfl ?_
   refine AWl.put (by exact R_fieldAddr rfl (.no rfl) rfl (.tmp rfl fun _ => rfl) fl129_1) rfl ?_
   refine AWl.put (by exact R_load rfl (.no rfl) rfl (.tmp rfl fun _ => rfl) ty3 rfl rfl) rfl ?_
   refine AWl.put (R_ne rfl (.no rfl) rfl (.tmp rfl fun _ => rfl) (.tmp rfl fun _ => rfl)) rfl ?_
   refine AWl.nil ?_
   refine AW.cond (.tmp rfl fun _ => rfl) (fun h14 => ?_) (fun h14 => ?_)
   · exact absurd h14 (by simp)
   · skip
     try simp at h14
     refine AW.skip ?_
     refine AW.seq ?_
     refine AW.seq ?_
     refine AW.region ?_
     refine AWl.put (by exact R_fieldAddr rfl (.no rfl) rfl (.tmp rfl fun _ => rfl) fl129_2) rfl ?_
     refine AWl.put (by exact R_load rfl (.no rfl) rfl (.tmp rfl fun _ => rfl) ty73 rfl rfl) rfl ?_
     refine AWl.put (by exact R_fieldAddr rfl (.no rfl) rfl (.tmp rfl fun _ => rfl) fl129_2) rfl ?_
     refine AWl.put (by exact R_load rfl (.no rfl) rfl (.tmp rfl fun _ => rfl) ty73 rfl rfl) rfl ?_
     refine AWl.put (R_callz (FnT.fr (HeqExpr _)) rfl (.no rfl) rfl (.cons (.tmp rfl fun _ => rfl) rfl (.cons (.tmp rfl fun _ => rfl) rfl .nil))) rfl ?_
     refine AWl.put (R_not rfl (.no rfl) rfl (.tmp rfl fun _ => rfl)) rfl ?_
     refine AWl.nil ?_
     refine AW.cond (.tmp rfl fun _ => rfl) (fun h20 => ?_) (fun h20 => ?_)
     · exact absurd h20 (by simp)
     · skip
       try simp at h20
       refine AW.skip ?_
       refine AW.seq ?_
       refine AW.region ?_
       refine AWl.put (R_assign rfl (.no rfl) rfl (.const rfl)) rfl ?_
       refine AWl.nil (AW.ret ?_)
       refine Res.v rfl rfl ?_
       rfl
set_option maxRecDepth 100000 in
theorem HszPathAtom (x : TPathAtom) (a : Int) (ha : 0 ≤ a ∧ a ≤ 1048576) : FnT Tryz.prog 139 [.agg (cPathAtom x), .one (.v (.int .i64 a))] (.a (.one (.v (.int .i64 (szPathAtom x a))))) := by
 refine FnT.walk Tryz.func139 rfl (by kernel_rfl) Tryz.ntmps139 rfl fun hlen w0 => ?_
 try simp [cPair, cToken, cExpr, cEdge, cGraph, cStep, cWalk, cChange, cBatch, cHistory, cPositions, cAutomaton, cProductStep, cPathAtom, cConjunction, cView, cDelta, cRegistered, cRegistry] at hlen
 have hb0 := szExpr_ok x.Expr a
 refine AW.seq ?_
 refine AW.region ?_
 refine AWl.put (R_boxz rfl rfl rfl (.tmp rfl fun _ => rfl) (ts := _) (by rfl)) rfl ?_
 refine AWl.put (R_assign rfl (.no rfl) rfl (.const rfl)) rfl ?_
 refine AWl.nil (AW.seq ?_)
 refine AW.region ?_
 refine AWl.put (by exact R_fieldAddr rfl (.no rfl) rfl (.tmp rfl fun _ => rfl) fl183_2) rfl ?_
 refine AWl.put (by exact R_load rfl (.no rfl) rfl (.tmp rfl fun _ => rfl) ty67 rfl rfl) rfl ?_
 refine AWl.put (R_move rfl (.no rfl) rfl (.tmp rfl fun _ => rfl)) rfl ?_
 refine AWl.put (R_callz (FnT.fr (HszExpr _ _ (by omega))) rfl (.no rfl) rfl (.cons (.tmp rfl fun _ => rfl) rfl (.cons (.tmp rfl fun _ => rfl) rfl .nil))) rfl ?_
 refine AWl.put (R_assign rfl (.no rfl) rfl (.tmp rfl fun _ => rfl)) rfl ?_
 refine AWl.nil (AW.seq ?_)
 refine AW.seq ?_
 refine AW.region ?_
 refine AWl.put (R_move rfl (.no rfl) rfl (.tmp rfl fun _ => rfl)) rfl ?_
 refine AWl.put (R_lt rfl (.no rfl) rfl (.tmp rfl fun _ => rfl) (.const rfl)) rfl ?_
 refine AWl.nil ?_
 refine AW.cond (.tmp rfl fun _ => rfl) (fun h10 => ?_) (fun h10 => ?_)
 · skip
   try simp at h10
   refine AW.seq ?_
   refine AW.region ?_
   refine AWl.put (R_assign rfl (.no rfl) rfl (.const rfl)) rfl ?_
   refine AWl.nil (AW.ret ?_)
   refine Res.v rfl rfl ?_
   simp only [szPathAtom, szSeq]; grind
 · skip
   try simp at h10
   refine AW.skip ?_
   refine AW.seq ?_
   refine AW.region ?_
   refine AWl.put (R_move rfl (.no rfl) rfl (.tmp rfl fun _ => rfl)) rfl ?_
   refine AWl.put (R_assign rfl (.no rfl) rfl (.tmp rfl fun _ => rfl)) rfl ?_
   refine AWl.nil (AW.ret ?_)
   refine Res.v rfl rfl ?_
   simp only [szPathAtom, szSeq]; grind
set_option maxRecDepth 100000 in
theorem HtoPathAtomS (x : (List TPathAtom)) (hz : okPathAtomS x) : FnT Tryz.prog 83 [.one (.sl 3 (x.map cPathAtom))] (.a (.one (.sl 3 (x.map cPathAtom)))) := by
 refine FnT.walk Tryz.func83 rfl (by kernel_rfl) Tryz.ntmps83 rfl fun hlen w0 => ?_
 try simp [cPair, cToken, cExpr, cEdge, cGraph, cStep, cWalk, cChange, cBatch, cHistory, cPositions, cAutomaton, cProductStep, cPathAtom, cConjunction, cView, cDelta, cRegistered, cRegistry] at hlen
 have hz0 : x.length ≤ 1048576 := hz.1
 refine AW.seq ?_
 refine AW.region ?_
 refine AWl.put (R_assign rfl (.no rfl) rfl (.const rfl)) rfl ?_
 refine AWl.nil (AW.seq ?_)
 refine AW.region ?_
 refine AWl.put (R_move rfl (.no rfl) rfl (.tmp rfl fun _ => rfl)) rfl ?_
 refine AWl.put (by exact R_lenm rfl (.no rfl) rfl (.tmp rfl fun _ => rfl) (by exact .t) Tryz.underlying80) rfl ?_
 refine AWl.add (R_makeSlice 7 rfl rfl rfl (.tmp rfl fun _ => rfl) Tryz.underlying85 in129 rfl rfl rfl rfl (by omega)) rfl ?_
 refine AWl.put (R_assign rfl (.no rfl) rfl (.tmp rfl fun _ => rfl)) rfl ?_
 refine AWl.nil (AW.seq ?_)
 refine AW.seq ?_
 refine AW.region ?_
 refine AWl.put (R_assign rfl (.no rfl) rfl (.const rfl)) rfl ?_
 refine AWl.nil (AW.block ?_)
 refine AW.loop (β := Nat) (fun i => i ≤ x.length) (fun i => ⟨_, [(4, (true, .a (.one (.t (.v (.int .i64 (i : Nat))))))), (0, _), (2, _), (3, _)], [(7, .row 3 ((x.take i).map cPathAtom ++ List.replicate (x.length - i) [.v (.int .i64 0), .v (.int .i64 0), .v (.slice none 0 0)]))]⟩) (fun i => x.length - i) (0) (Nat.zero_le _) (Le.sub0 rfl ⟨rfl, rfl, rfl, rfl, trivial⟩ ⟨rfl, trivial⟩) ?_
 intro k hk
 refine AW.seq ?_
 refine AW.seq ?_
 refine AW.region ?_
 refine AWl.put (R_move rfl (.no rfl) rfl (.tmp rfl fun _ => rfl)) rfl ?_
 refine AWl.put (R_move rfl (.no rfl) rfl (.tmp rfl fun _ => rfl)) rfl ?_
 refine AWl.put (by exact R_lenm rfl (.no rfl) rfl (.tmp rfl fun _ => rfl) (by exact .t) Tryz.underlying80) rfl ?_
 refine AWl.put (R_lt rfl (.no rfl) rfl (.tmp rfl fun _ => rfl) (.tmp rfl fun _ => rfl)) rfl ?_
 refine AWl.nil ?_
 refine AW.cond (.tmp rfl fun _ => rfl) (fun hlt => ?_) (fun hlt => ?_)
 · skip
   try simp at hlt
   obtain ⟨y, hx⟩ : ∃ y, x[k]? = some y := ⟨_, List.getElem?_eq_getElem hlt⟩
   refine AW.skip ?_
   refine AW.seq ?_
   refine AW.block ?_
   refine AW.region ?_
   refine AWl.put (R_move rfl (.no rfl) rfl (.tmp rfl fun _ => rfl)) rfl ?_
   refine AWl.put (R_move rfl (.no rfl) rfl (.tmp rfl fun _ => rfl)) rfl ?_
   refine AWl.put (R_move rfl (.no rfl) rfl (.tmp rfl fun _ => rfl)) rfl ?_
   refine AWl.put (R_move rfl (.no rfl) rfl (.tmp rfl fun _ => rfl)) rfl ?_
   refine AWl.put ((by exact R_indexAddr rfl (.no rfl) rfl (.tmp rfl fun _ => rfl) (.tmp rfl fun _ => rfl) Tryz.underlying80 ty183 (fun _ => ⟨by omega, (by exact map_get (by assumption))⟩))) rfl ?_
   refine AWl.put (by exact R_load rfl (.no rfl) rfl (.tmp rfl fun _ => rfl) ty183 rfl rfl) rfl ?_
   refine AWl.adds (R_call 2000 (HtoPathAtom _ (hz.2 _ (List.mem_of_getElem? hx))) rfl rfl rfl (.cons (.tmp rfl fun _ => rfl) rfl .nil) rfl rfl) rfl ?_
   refine AWl.put (by exact R_indexAddr_rf rfl (.no rfl) rfl (.tmp rfl fun _ => rfl) rfl (.tmp rfl fun _ => rfl) Tryz.underlying85 ty129 (fun _ => ⟨by omega, made_at hlt⟩)) rfl ?_
   refine AWl.absupd (R_store_pr rfl rfl rfl (.tmp rfl fun _ => rfl) rfl (.tmp rfl fun _ => rfl) rfl (made_at hlt) ty129 rfl rfl rfl rfl) ?_
   refine AWl.nil (AW.region ?_)
   refine AWl.put (R_move rfl (.no rfl) rfl (.tmp rfl fun _ => rfl)) rfl ?_
   refine AWl.put (R_add rfl (.no rfl) rfl (.tmp rfl fun _ => rfl) (.const rfl) (fun _ => by omega)) rfl ?_
   refine AWl.put (R_assign rfl (.no rfl) rfl (.tmp rfl fun _ => rfl)) rfl ?_
   refine AWl.nil ?_
   refine Round.next (k + 1) (by omega) (by omega) (Le.sub0 rfl ⟨rfl, rfl, rfl, rfl, trivial⟩ ⟨congrArg (fun r => some (R.row 3 r)) (set_made hx), trivial⟩)
 · skip
   try simp at hlt
   refine AW.exit ?_
   refine AW.seq ?_
   refine AW.region ?_
   refine AWl.put (R_move rfl (.no rfl) rfl (.tmp rfl fun _ => rfl)) rfl ?_
   refine AWl.put (R_assign rfl (.no rfl) rfl (.tmp rfl fun _ => rfl)) rfl ?_
   refine AWl.nil (AW.ret ?_)
   refine Res.one rfl (.tmp rfl .nil) rfl ?_
   exact congrArg (fun r => [V0.one (T.sl 3 r)]) (made_end (by omega))
set_option maxRecDepth 100000 in
theorem HeqPathAtomS (x : (List TPathAtom)) : FnT Tryz.prog 91 [.one (.sl 3 (x.map cPathAtom)), .one (.sl 3 (x.map cPathAtom))] (.a (.one (.v (.bool true)))) := by
 refine FnT.walk Tryz.func91 rfl (by kernel_rfl) Tryz.ntmps91 rfl fun hlen w0 => ?_
 try simp [cPair, cToken, cExpr, cEdge, cGraph, cStep, cWalk, cChange, cBatch, cHistory, cPositions, cAutomaton, cProductStep, cPathAtom, cConjunction, cView, cDelta, cRegistered, cRegistry] at hlen
 refine AW.seq ?_
 refine AW.region ?_
 refine AWl.put (R_assign rfl (.no rfl) rfl (.const rfl)) rfl ?_
 refine AWl.nil (AW.seq ?_)
 refine AW.seq ?_
 refine AW.region ?_
 refine AWl.put (R_move rfl (.no rfl) rfl (.tmp rfl fun _ => rfl)) rfl ?_
 refine AWl.put (by exact R_lenm rfl (.no rfl) rfl (.tmp rfl fun _ => rfl) (by exact .t) Tryz.underlying85) rfl ?_
 refine AWl.put (R_move rfl (.no rfl) rfl (.tmp rfl fun _ => rfl)) rfl ?_
 refine AWl.put (by exact R_lenm rfl (.no rfl) rfl (.tmp rfl fun _ => rfl) (by exact .t) Tryz.underlying85) rfl ?_
 refine AWl.put (R_ne rfl (.no rfl) rfl (.tmp rfl fun _ => rfl) (.tmp rfl fun _ => rfl)) rfl ?_
 refine AWl.nil ?_
 refine AW.cond (.tmp rfl fun _ => rfl) (fun h10 => ?_) (fun h10 => ?_)
 · exact absurd h10 (by simp)
 · skip
   try simp at h10
   refine AW.skip ?_
   refine AW.seq ?_
   refine AW.seq ?_
   refine AW.region ?_
   refine AWl.put (R_assign rfl (.no rfl) rfl (.const rfl)) rfl ?_
   refine AWl.nil (AW.block ?_)
   refine AW.loop (β := Nat) (fun i => i ≤ x.length) (fun i => ⟨_, [(5, (true, .a (.one (.t (.v (.int .i64 (i : Nat))))))), (0, _), (1, _)], []⟩) (fun i => x.length - i) (0) (Nat.zero_le _) (Le.sub0 rfl ⟨rfl, rfl, rfl, trivial⟩ trivial) ?_
   intro k hk
   refine AW.seq ?_
   refine AW.seq ?_
   refine AW.region ?_
   refine AWl.put (R_move rfl (.no rfl) rfl (.tmp rfl fun _ => rfl)) rfl ?_
   refine AWl.put (R_move rfl (.no rfl) rfl (.tmp rfl fun _ => rfl)) rfl ?_
   refine AWl.put (by exact R_lenm rfl (.no rfl) rfl (.tmp rfl fun _ => rfl) (by exact .t) Tryz.underlying85) rfl ?_
   refine AWl.put (R_lt rfl (.no rfl) rfl (.tmp rfl fun _ => rfl) (.tmp rfl fun _ => rfl)) rfl ?_
   refine AWl.nil ?_
   refine AW.cond (.tmp rfl fun _ => rfl) (fun hlt => ?_) (fun hlt => ?_)
   · skip
     try simp at hlt
     obtain ⟨y, hx⟩ : ∃ y, x[k]? = some y := ⟨_, List.getElem?_eq_getElem hlt⟩
     refine AW.skip ?_
     refine AW.seq ?_
     refine AW.block ?_
     refine AW.seq ?_
     refine AW.drawn 10 (nthB [[], [], [0, 1], [0, 1, 2], [], [], [4, 5], [4, 5, 6], [0, 1, 2, 3, 4, 5, 6, 7], [0, 1, 2, 3, 4, 5, 6, 7, 8]]) (by kernel_rfl) (by kernel_rfl) (by kernel_rfl) ?_
     refine DrawC.step rfl rfl rfl (Loc.of rfl fun σ' hs => R_move rfl (.no rfl) (hd_sup hs rfl) (.tmp (hs.slots _ _ rfl) fun _ => rfl)) ?_
     refine DrawC.step rfl rfl rfl (Loc.of rfl fun σ' hs => R_move rfl (.no rfl) (hd_sup hs rfl) (.tmp (hs.slots _ _ rfl) fun _ => rfl)) ?_
     refine DrawC.step rfl rfl rfl (Loc.of rfl fun σ' hs => (by exact R_indexAddr rfl (.no rfl) (hd_sup hs rfl) (.tmp (hs.slots _ _ rfl) fun _ => rfl) (.tmp (hs.slots _ _ rfl) fun _ => rfl) Tryz.underlying85 ty129 (fun _ => ⟨by omega, (by exact map_get (by assumption))⟩))) ?_
     refine DrawC.step rfl rfl rfl (Loc.of rfl fun σ' hs => (by exact R_load rfl (.no rfl) (hd_sup hs rfl) (.tmp (hs.slots _ _ rfl) fun _ => rfl) ty129 rfl rfl)) ?_
     refine DrawC.step rfl rfl rfl (Loc.of rfl fun σ' hs => R_move rfl (.no rfl) (hd_sup hs rfl) (.tmp (hs.slots _ _ rfl) fun _ => rfl)) ?_
     refine DrawC.step rfl rfl rfl (Loc.of rfl fun σ' hs => R_move rfl (.no rfl) (hd_sup hs rfl) (.tmp (hs.slots _ _ rfl) fun _ => rfl)) ?_
     refine DrawC.step rfl rfl rfl (Loc.of rfl fun σ' hs => (by exact R_indexAddr rfl (.no rfl) (hd_sup hs rfl) (.tmp (hs.slots _ _ rfl) fun _ => rfl) (.tmp (hs.slots _ _ rfl) fun _ => rfl) Tryz.underlying85 ty129 (fun _ => ⟨by omega, (by exact map_get (by assumption))⟩))) ?_
     refine DrawC.step rfl rfl rfl (Loc.of rfl fun σ' hs => (by exact R_load rfl (.no rfl) (hd_sup hs rfl) (.tmp (hs.slots _ _ rfl) fun _ => rfl) ty129 rfl rfl)) ?_
     refine DrawC.step rfl rfl rfl (Loc.of rfl fun σ' hs => R_callz (FnT.fr (HeqPathAtom _)) rfl (.no rfl) (hd_sup hs rfl) (.cons (.tmp (hs.slots _ _ rfl) fun _ => rfl) (readA_sup hs rfl) (.cons (.tmp (hs.slots _ _ rfl) fun _ => rfl) (readA_sup hs rfl) .nil))) ?_
     refine DrawC.step rfl rfl rfl (Loc.of rfl fun σ' hs => R_not rfl (.no rfl) (hd_sup hs rfl) (.tmp (hs.slots _ _ rfl) fun _ => rfl)) ?_
     refine DrawC.fin rfl rfl ?_
     refine AWl.nil ?_
     refine AW.cond (.tmp rfl fun _ => rfl) (fun h26 => ?_) (fun h26 => ?_)
     · exact absurd h26 (by simp)
     · skip
       try simp at h26
       refine AW.skip ?_
       refine AW.region ?_
       refine AWl.put (R_move rfl (.no rfl) rfl (.tmp rfl fun _ => rfl)) rfl ?_
       refine AWl.put (R_add rfl (.no rfl) rfl (.tmp rfl fun _ => rfl) (.const rfl) (fun _ => by omega)) rfl ?_
       refine AWl.put (R_assign rfl (.no rfl) rfl (.tmp rfl fun _ => rfl)) rfl ?_
       refine AWl.nil ?_
       refine Round.next (k + 1) (by omega) (by omega) (Le.sub0 rfl ⟨rfl, rfl, rfl, trivial⟩ trivial)
   · skip
     try simp at hlt
     refine AW.exit ?_
     refine AW.seq ?_
     refine AW.region ?_
     refine AWl.put (R_assign rfl (.no rfl) rfl (.const rfl)) rfl ?_
     refine AWl.nil (AW.ret ?_)
     refine Res.v rfl rfl ?_
     rfl
set_option maxRecDepth 100000 in
theorem HszPathAtomS (x : (List TPathAtom)) (a : Int) (ha : 0 ≤ a ∧ a ≤ 1048576) : FnT Tryz.prog 78 [.one (.sl 3 (x.map cPathAtom)), .one (.v (.int .i64 a))] (.a (.one (.v (.int .i64 (szPathAtomS x a))))) := by
 refine FnT.walk Tryz.func78 rfl (by kernel_rfl) Tryz.ntmps78 rfl fun hlen w0 => ?_
 try simp [cPair, cToken, cExpr, cEdge, cGraph, cStep, cWalk, cChange, cBatch, cHistory, cPositions, cAutomaton, cProductStep, cPathAtom, cConjunction, cView, cDelta, cRegistered, cRegistry] at hlen
 refine AW.seq ?_
 refine AW.region ?_
 refine AWl.put (R_assign rfl (.no rfl) rfl (.const rfl)) rfl ?_
 refine AWl.nil (AW.seq ?_)
 refine AW.region ?_
 refine AWl.put (R_move rfl (.no rfl) rfl (.tmp rfl fun _ => rfl)) rfl ?_
 refine AWl.put (R_move rfl (.no rfl) rfl (.tmp rfl fun _ => rfl)) rfl ?_
 refine AWl.put (by exact R_lenm rfl (.no rfl) rfl (.tmp rfl fun _ => rfl) (by exact .t) Tryz.underlying80) rfl ?_
 refine AWl.put (R_sub rfl (.no rfl) rfl (.tmp rfl fun _ => rfl) (.tmp rfl fun _ => rfl) (fun _ => by omega)) rfl ?_
 refine AWl.put (R_assign rfl (.no rfl) rfl (.tmp rfl fun _ => rfl)) rfl ?_
 refine AWl.nil (AW.seq ?_)
 refine AW.seq ?_
 refine AW.region ?_
 refine AWl.put (R_move rfl (.no rfl) rfl (.tmp rfl fun _ => rfl)) rfl ?_
 refine AWl.put (R_lt rfl (.no rfl) rfl (.tmp rfl fun _ => rfl) (.const rfl)) rfl ?_
 refine AWl.nil ?_
 refine AW.cond (.tmp rfl fun _ => rfl) (fun h11 => ?_) (fun h11 => ?_)
 · skip
   try simp at h11
   refine AW.seq ?_
   refine AW.region ?_
   refine AWl.put (R_assign rfl (.no rfl) rfl (.const rfl)) rfl ?_
   refine AWl.nil (AW.ret ?_)
   refine Res.v rfl rfl ?_
   unfold szPathAtomS; rw [if_pos (by omega)]
 · skip
   try simp at h11
   refine AW.skip ?_
   refine AW.seq ?_
   refine AW.seq ?_
   refine AW.region ?_
   refine AWl.put (R_assign rfl (.no rfl) rfl (.const rfl)) rfl ?_
   refine AWl.nil (AW.block ?_)
   refine AW.loop (β := Nat × Int) (fun i => (i.1 ≤ x.length ∧ 0 ≤ i.2 ∧ i.2 ≤ 1048576) ∧ szFold szPathAtom x (a - x.length) = szFold szPathAtom (x.drop i.1) i.2) (fun i => ⟨_, [(5, (true, .a (.one (.t (.v (.int .i64 (i.1 : Nat))))))), (1, (true, .a (.one (.t (.v (.int .i64 i.2)))))), (0, _)], []⟩) (fun i => x.length - i.1) ((0, a - x.length)) ⟨⟨Nat.zero_le _, by simp only []; omega, by simp only []; omega⟩, rfl⟩ (Le.sub0 rfl ⟨rfl, rfl, rfl, trivial⟩ trivial) ?_
   intro ⟨k, b⟩ ⟨hk, hf⟩
   dsimp only at hk hf
   refine AW.seq ?_
   refine AW.seq ?_
   refine AW.region ?_
   refine AWl.put (R_move rfl (.no rfl) rfl (.tmp rfl fun _ => rfl)) rfl ?_
   refine AWl.put (R_move rfl (.no rfl) rfl (.tmp rfl fun _ => rfl)) rfl ?_
   refine AWl.put (by exact R_lenm rfl (.no rfl) rfl (.tmp rfl fun _ => rfl) (by exact .t) Tryz.underlying80) rfl ?_
   refine AWl.put (R_lt rfl (.no rfl) rfl (.tmp rfl fun _ => rfl) (.tmp rfl fun _ => rfl)) rfl ?_
   refine AWl.nil ?_
   refine AW.cond (.tmp rfl fun _ => rfl) (fun hlt => ?_) (fun hlt => ?_)
   · skip
     try simp at hlt
     obtain ⟨y, hx⟩ : ∃ y, x[k]? = some y := ⟨_, List.getElem?_eq_getElem hlt⟩
     rw [szFold_drop hx] at hf
     refine AW.skip ?_
     refine AW.seq ?_
     refine AW.block ?_
     refine AW.seq ?_
     refine AW.region ?_
     refine AWl.put (R_move rfl (.no rfl) rfl (.tmp rfl fun _ => rfl)) rfl ?_
     refine AWl.put (R_move rfl (.no rfl) rfl (.tmp rfl fun _ => rfl)) rfl ?_
     refine AWl.put ((by exact R_indexAddr rfl (.no rfl) rfl (.tmp rfl fun _ => rfl) (.tmp rfl fun _ => rfl) Tryz.underlying80 ty183 (fun _ => ⟨by omega, (by exact map_get (by assumption))⟩))) rfl ?_
     refine AWl.put (by exact R_load rfl (.no rfl) rfl (.tmp rfl fun _ => rfl) ty183 rfl rfl) rfl ?_
     refine AWl.put (R_move rfl (.no rfl) rfl (.tmp rfl fun _ => rfl)) rfl ?_
     refine AWl.put (R_callz (FnT.fr (HszPathAtom _ _ (by omega))) rfl (.no rfl) rfl (.cons (.tmp rfl fun _ => rfl) rfl (.cons (.tmp rfl fun _ => rfl) rfl .nil))) rfl ?_
     refine AWl.put (R_assign rfl (.no rfl) rfl (.tmp rfl fun _ => rfl)) rfl ?_
     refine AWl.nil (AW.seq ?_)
     refine AW.region ?_
     refine AWl.put (R_move rfl (.no rfl) rfl (.tmp rfl fun _ => rfl)) rfl ?_
     refine AWl.put (R_lt rfl (.no rfl) rfl (.tmp rfl fun _ => rfl) (.const rfl)) rfl ?_
     refine AWl.nil ?_
     refine AW.cond (.tmp rfl fun _ => rfl) (fun h25 => ?_) (fun h25 => ?_)
     · skip
       try simp at h25
       refine AW.seq ?_
       refine AW.region ?_
       refine AWl.put (R_assign rfl (.no rfl) rfl (.const rfl)) rfl ?_
       refine AWl.nil (AW.ret ?_)
       refine Res.v rfl rfl ?_
       unfold szPathAtomS; rw [if_neg (by omega), hf, if_pos (by omega)]
     · skip
       try simp at h25
       have hb := szPathAtom_ok y b hk.2.1 hk.2.2
       rw [if_neg (by omega)] at hf
       refine AW.skip ?_
       refine AW.region ?_
       refine AWl.put (R_move rfl (.no rfl) rfl (.tmp rfl fun _ => rfl)) rfl ?_
       refine AWl.put (R_add rfl (.no rfl) rfl (.tmp rfl fun _ => rfl) (.const rfl) (fun _ => by omega)) rfl ?_
       refine AWl.put (R_assign rfl (.no rfl) rfl (.tmp rfl fun _ => rfl)) rfl ?_
       refine AWl.nil ?_
       refine Round.next (k + 1, szPathAtom y b) ⟨⟨by simp only []; omega, by simp only []; omega, by simp only []; omega⟩, hf⟩ (by simp only []; omega) (Le.sub0 rfl ⟨rfl, rfl, rfl, trivial⟩ trivial)
   · skip
     try simp at hlt
     refine AW.exit ?_
     refine AW.seq ?_
     refine AW.region ?_
     refine AWl.put (R_move rfl (.no rfl) rfl (.tmp rfl fun _ => rfl)) rfl ?_
     refine AWl.put (R_assign rfl (.no rfl) rfl (.tmp rfl fun _ => rfl)) rfl ?_
     refine AWl.nil (AW.ret ?_)
     refine Res.v rfl rfl ?_
     unfold szPathAtomS; rw [if_neg (by omega), hf, List.drop_eq_nil_of_le (by omega)]; rfl
set_option maxRecDepth 100000 in
theorem HtoConjunction (x : TConjunction) (hz : okConjunction x) : FnT Tryz.prog 36 [.agg (cConjunction x)] (.a (.agg (cConjunction x))) := by
 refine FnT.walk Tryz.func36 rfl (by kernel_rfl) Tryz.ntmps36 rfl fun hlen w0 => ?_
 try simp [cPair, cToken, cExpr, cEdge, cGraph, cStep, cWalk, cChange, cBatch, cHistory, cPositions, cAutomaton, cProductStep, cPathAtom, cConjunction, cView, cDelta, cRegistered, cRegistry] at hlen
 refine AW.seq ?_
 refine AW.region ?_
 refine AWl.put (R_boxz rfl rfl rfl (.tmp rfl fun _ => rfl) (ts := _) (by rfl)) rfl ?_
 refine AWl.add (R_alloc 2 rfl rfl rfl in87 rfl rfl rfl) rfl ?_
 refine AWl.nil (AW.seq ?_)
 refine AW.region ?_
 refine AWl.add (R_alloc 3 rfl rfl rfl in87 rfl rfl rfl) rfl ?_
 refine AWl.nil (AW.seq ?_)
 refine AW.region ?_
 refine AWl.put (by exact R_fieldAddr rfl (.no rfl) rfl (.tmp rfl fun _ => rfl) fl82_0) rfl ?_
 refine AWl.put (by exact R_load rfl (.no rfl) rfl (.tmp rfl fun _ => rfl) ty3 rfl rfl) rfl ?_
 refine AWl.put (by exact R_fieldAddr_pp rfl (.no rfl) rfl (.tmp rfl fun _ => rfl) fl87_0) rfl ?_
 refine AWl.chgb (R_store_pb rfl rfl rfl (.tmp rfl fun _ => rfl) (.tmp rfl fun _ => rfl) rfl ty3 rfl rfl rfl (by kernel_rfl) rfl) ?_
 refine AWl.nil (AW.seq ?_)
 refine AW.region ?_
 refine AWl.put (by exact R_fieldAddr rfl (.no rfl) rfl (.tmp rfl fun _ => rfl) fl82_1) rfl ?_
 refine AWl.put (by exact R_load rfl (.no rfl) rfl (.tmp rfl fun _ => rfl) ty80 rfl rfl) rfl ?_
 refine AWl.adds (R_call 900 (HtoPathAtomS _ (by exact hz.1)) rfl rfl rfl (.cons (.tmp rfl fun _ => rfl) rfl .nil) rfl rfl) rfl ?_
 refine AWl.put (by exact R_fieldAddr_pp rfl (.no rfl) rfl (.tmp rfl fun _ => rfl) fl87_1) rfl ?_
 refine AWl.chgb (R_store_pb rfl rfl rfl (.tmp rfl fun _ => rfl) (.tmp rfl fun _ => rfl) rfl ty85 rfl rfl rfl (by kernel_rfl) rfl) ?_
 refine AWl.nil (AW.seq ?_)
 refine AW.region ?_
 refine AWl.put (by exact R_load_pp rfl (.no rfl) rfl (.tmp rfl fun _ => rfl) rfl ty87 rfl rfl) rfl ?_
 refine AWl.chgb (R_store_pb rfl rfl rfl (.tmp rfl fun _ => rfl) (.tmp rfl fun _ => rfl) rfl ty87 rfl rfl rfl (by kernel_rfl) rfl) ?_
 refine AWl.nil (AW.ret ?_)
 refine Res.one rfl (.cell rfl rfl ty87 rfl rfl .nil) rfl ?_
 rfl
set_option maxRecDepth 100000 in
theorem HeqConjunction (x : TConjunction) : FnT Tryz.prog 39 [.agg (cConjunction x), .agg (cConjunction x)] (.a (.one (.v (.bool true)))) := by
 refine FnT.walk Tryz.func39 rfl (by kernel_rfl) Tryz.ntmps39 rfl fun hlen w0 => ?_
 try simp [cPair, cToken, cExpr, cEdge, cGraph, cStep, cWalk, cChange, cBatch, cHistory, cPositions, cAutomaton, cProductStep, cPathAtom, cConjunction, cView, cDelta, cRegistered, cRegistry] at hlen
 refine AW.seq ?_
 refine AW.region ?_
 refine AWl.put (R_boxz rfl rfl rfl (.tmp rfl fun _ => rfl) (ts := _) (by rfl)) rfl ?_
 refine AWl.put (R_boxz rfl rfl rfl (.tmp rfl fun _ => rfl) (ts := _) (by rfl)) rfl ?_
 refine AWl.put (R_assign rfl (.no rfl) rfl (.const rfl)) rfl ?_
 refine AWl.nil (AW.seq ?_)
 refine AW.seq ?_
 refine AW.region ?_
 refine AWl.put (by exact R_fieldAddr rfl (.no rfl) rfl (.tmp rfl fun _ => rfl) fl87_0) rfl ?_
 refine AWl.put (by exact R_load rfl (.no rfl) rfl (.tmp rfl fun _ => rfl) ty3 rfl rfl) rfl ?_
 refine AWl.put (by exact R_fieldAddr rfl (.no rfl) rfl (.tmp rfl fun _ => rfl) fl87_0) rfl ?_
 refine AWl.put (by exact R_load rfl (.no rfl) rfl (.tmp rfl fun _ => rfl) ty3 rfl rfl) rfl ?_
 refine AWl.put (R_ne rfl (.no rfl) rfl (.tmp rfl fun _ => rfl) (.tmp rfl fun _ => rfl)) rfl ?_
 refine AWl.nil ?_
 refine AW.cond (.tmp rfl fun _ => rfl) (fun h9 => ?_) (fun h9 => ?_)
 · exact absurd h9 (by simp)
 · skip
   try simp at h9
   refine AW.skip ?_
   refine AW.seq ?_
   refine AW.seq ?_
   refine AW.region ?_
   refine AWl.put (by exact R_fieldAddr rfl (.no rfl) rfl (.tmp rfl fun _ => rfl) fl87_1) rfl ?_
   refine AWl.put (by exact R_load rfl (.no rfl) rfl (.tmp rfl fun _ => rfl) ty85 rfl rfl) rfl ?_
   refine AWl.put (by exact R_fieldAddr rfl (.no rfl) rfl (.tmp rfl fun _ => rfl) fl87_1) rfl ?_
   refine AWl.put (by exact R_load rfl (.no rfl) rfl (.tmp rfl fun _ => rfl) ty85 rfl rfl) rfl ?_
   refine AWl.put (R_callz (FnT.fr (HeqPathAtomS _)) rfl (.no rfl) rfl (.cons (.tmp rfl fun _ => rfl) rfl (.cons (.tmp rfl fun _ => rfl) rfl .nil))) rfl ?_
   refine AWl.put (R_not rfl (.no rfl) rfl (.tmp rfl fun _ => rfl)) rfl ?_
   refine AWl.nil ?_
   refine AW.cond (.tmp rfl fun _ => rfl) (fun h15 => ?_) (fun h15 => ?_)
   · exact absurd h15 (by simp)
   · skip
     try simp at h15
     refine AW.skip ?_
     refine AW.seq ?_
     refine AW.region ?_
     refine AWl.put (R_assign rfl (.no rfl) rfl (.const rfl)) rfl ?_
     refine AWl.nil (AW.ret ?_)
     refine Res.v rfl rfl ?_
     rfl
set_option maxRecDepth 100000 in
theorem HszConjunction (x : TConjunction) (a : Int) (ha : 0 ≤ a ∧ a ≤ 1048576) : FnT Tryz.prog 34 [.agg (cConjunction x), .one (.v (.int .i64 a))] (.a (.one (.v (.int .i64 (szConjunction x a))))) := by
 refine FnT.walk Tryz.func34 rfl (by kernel_rfl) Tryz.ntmps34 rfl fun hlen w0 => ?_
 try simp [cPair, cToken, cExpr, cEdge, cGraph, cStep, cWalk, cChange, cBatch, cHistory, cPositions, cAutomaton, cProductStep, cPathAtom, cConjunction, cView, cDelta, cRegistered, cRegistry] at hlen
 have hb0 := szPathAtomS_ok x.Atoms a
 refine AW.seq ?_
 refine AW.region ?_
 refine AWl.put (R_boxz rfl rfl rfl (.tmp rfl fun _ => rfl) (ts := _) (by rfl)) rfl ?_
 refine AWl.put (R_assign rfl (.no rfl) rfl (.const rfl)) rfl ?_
 refine AWl.nil (AW.seq ?_)
 refine AW.region ?_
 refine AWl.put (by exact R_fieldAddr rfl (.no rfl) rfl (.tmp rfl fun _ => rfl) fl82_1) rfl ?_
 refine AWl.put (by exact R_load rfl (.no rfl) rfl (.tmp rfl fun _ => rfl) ty80 rfl rfl) rfl ?_
 refine AWl.put (R_move rfl (.no rfl) rfl (.tmp rfl fun _ => rfl)) rfl ?_
 refine AWl.put (R_callz (FnT.fr (HszPathAtomS _ _ (by omega))) rfl (.no rfl) rfl (.cons (.tmp rfl fun _ => rfl) rfl (.cons (.tmp rfl fun _ => rfl) rfl .nil))) rfl ?_
 refine AWl.put (R_assign rfl (.no rfl) rfl (.tmp rfl fun _ => rfl)) rfl ?_
 refine AWl.nil (AW.seq ?_)
 refine AW.seq ?_
 refine AW.region ?_
 refine AWl.put (R_move rfl (.no rfl) rfl (.tmp rfl fun _ => rfl)) rfl ?_
 refine AWl.put (R_lt rfl (.no rfl) rfl (.tmp rfl fun _ => rfl) (.const rfl)) rfl ?_
 refine AWl.nil ?_
 refine AW.cond (.tmp rfl fun _ => rfl) (fun h10 => ?_) (fun h10 => ?_)
 · skip
   try simp at h10
   refine AW.seq ?_
   refine AW.region ?_
   refine AWl.put (R_assign rfl (.no rfl) rfl (.const rfl)) rfl ?_
   refine AWl.nil (AW.ret ?_)
   refine Res.v rfl rfl ?_
   simp only [szConjunction, szSeq]; grind
 · skip
   try simp at h10
   refine AW.skip ?_
   refine AW.seq ?_
   refine AW.region ?_
   refine AWl.put (R_move rfl (.no rfl) rfl (.tmp rfl fun _ => rfl)) rfl ?_
   refine AWl.put (R_assign rfl (.no rfl) rfl (.tmp rfl fun _ => rfl)) rfl ?_
   refine AWl.nil (AW.ret ?_)
   refine Res.v rfl rfl ?_
   simp only [szConjunction, szSeq]; grind
end Go.Proofs.YtoealglkenhphaaGreat
