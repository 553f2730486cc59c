import Derived.Test.YtbkhopfpejhnlaaGreatDoorB136ta
set_option linter.unusedVariables false
set_option linter.unusedSimpArgs false
set_option maxHeartbeats 1000000
set_option maxRecDepth 100000
namespace Go.Q
open Go.RowKit Go.D
end Go.Q
namespace Go.Proofs.YtbkhopfpejhnlaaGreatDoor
open Go.RowKit Go.Q Go.D
set_option maxRecDepth 100000 in
theorem specl6Batch (gr : TGraph) (mm : Int) (hg : validG gr = true) (hm : 0 ≤ mm ∧ mm ≤ 7) : FnD Tryz.prog 58 [.agg (cGraph gr), .one (.v (.int .i64 mm))] (fun b : TBatch => b.Changes.length ≤ 7) (fun b => .a (.agg (cBatch b))) := by
 refine FnD.walk Tryz.func58 U (by kernel_rfl) Tryz.ntmps58 U (fun g => rfl) fun w0 g => ?_
 have hgz := validG_z hg
 refine AW.sr ?_
 refine AWl.p (R_boxz U U U (.tm U) (ts := _) (by rfl)) U ?_
 refine AWl.add (R_alloc 6 U U U in47 U U U) U ?_
 refine AWl.nil (AW.sr ?_)
 refine AWl.p (R_build (ps := []) U U U in47 U U st47 .nil U) U ?_
 refine AWl.nilA (i := 14) 20001 5 0 U U U ?_
 refine AWl.add (R_alloc 7 U U U in47 U U U) U ?_
 refine AWl.chgb (R_store_pb U U U (.tm U) (.tm U) U ty47 U U U (by kernel_rfl) U) ?_
 refine AWl.nil (AW.sr ?_)
 refine AWl.p (by exact R_load U (.no U) U (.tm U) ty83 U U) U ?_
 refine AWl.adds (R_call 1600 (specl3Copy gr (by omega) (by omega)) U U U (.cons (.tm U) U .nil) U U) U ?_
 refine AWl.add (R_alloc 8 U U U in83 U U U) U ?_
 refine AWl.chgb (R_store_pb U U U (.tm U) (.tm U) U ty83 U U U (by kernel_rfl) U) ?_
 refine AWl.nil (AW.seq ?_)
 refine AW.sr ?_
 refine AWl.mv ?_
 refine AWl.mv ?_
 refine AWl.p (R_add U (.no U) U (.tm U) (.const U) (fun _ => by omega)) U ?_
 refine AWl.opE (R_calld 2000 (specl1Below _) U U U (.tm U) U U (.cons (.tm U) U .nil) (fun _ => rfl) (fun _ => rfl)) ?_
 rintro _ ⟨z20, hz20, rfl⟩
 try dsimp only at hz20
 refine AWl.av ?_
 refine AWl.nil (AW.block ?_)
 refine AW.loop3 (fun (n : Int) (X : TGraph) (cs : List TChange) => ((n ≤ 7 - cs.length ∧ cs.length ≤ 7) ∧ validG X = true) ∧ True) (fun (n : Int) (X : TGraph) (cs : List TChange) => ⟨_, [(9, (true, .a (.one (.t (.v (.int .i64 n)))))), (0, _), (6, _), (7, _), (8, _)], [(6, .box [.t (.v (.slice none 0 0))]), (7, .box [.rf 20001]), (20001, .row 5 (cs.map cChange)), (8, .box [.rf 1600, .rf 1601]), (1600, .row 1 (X.Values.map cInt)), (1601, .row 4 (X.Edges.map cEdge)), (888888, .cur g)]⟩) (fun (n : Int) (X : TGraph) (cs : List TChange) => n.toNat) (z20) (gr) ([]) ⟨⟨by simp; omega, hg⟩, Y⟩ (Le.sub0 U ⟨U, U, U, U, U, Y⟩ ⟨U, U, U, U, U, U, U, Y⟩) ?_
 rintro n X cs ⟨hk, he⟩
 refine AW.seq ?_
 refine AW.sr ?_
 refine AWl.mv ?_
 refine AWl.p (R_gt U (.no U) U (.tm U) (.const U)) U ?_
 refine AWl.nil ?_
 refine AW.cond (.tm U) (fun h22 => ?_) (fun h22 => ?_)
 · skip
   try simp at h22
   refine AW.skip ?_
   refine AW.seq ?_
   refine AW.block ?_
   refine AW.sr ?_
   refine AWl.mv ?_
   refine AWl.p (by exact R_load_pp U (.no U) U (.tm U) U ty83 U U) U ?_
   refine AWl.opE (R_calld 2700 (specl3Some X) U U U (.tm U) U U (.cons (.tm U) U .nil) (fun _ => rfl) (fun _ => rfl)) ?_
   rintro _ ⟨z27, hz27, rfl⟩
   try dsimp only at hz27
   refine AWl.p (R_build (ps := [(0, .const (.bool true)), (1, .tmp 27)]) U U U in97 U U st97 (.cons (.const U) U U fp97_0 (.cons (.tm U) U U fp97_1 .nil)) U) U ?_
   refine AWl.add (R_alloc 10 U U U in97 U U U) U ?_
   refine AWl.chgb (R_store_pb U U U (.tm U) (.tm U) U ty97 U U U (by kernel_rfl) U) ?_
   refine AWl.nil (AW.seq ?_)
   refine AW.seq ?_
   refine AW.le (σ' := ⟨_, [(0, _), (6, _), (7, _), (8, _), (9, _), (10, _)], [(6, _), (7, _), (20001, _), (8, _), (1600, _), (1601, _), (888888, _), (10, _)]⟩) (Le.sub0 U ⟨U, U, U, U, U, U, Y⟩ ⟨U, U, U, U, U, U, U, U, Y⟩) ?_
   refine AW.region ?_
   refine AWl.p (by exact R_fieldAddr_pp U (.no U) U (.tm U) fl83_1) U ?_
   refine AWl.p (by exact R_load_pp U (.no U) U (.tm U) U ty81 U U) U ?_
   refine AWl.p (by exact R_lenm U (.no U) U (.tm U) (by exact .rf U) Tryz.underlying81) U ?_
   refine AWl.p (R_gt U (.no U) U (.tm U) (.const U)) U ?_
   refine AWl.mv ?_
   refine AWl.p (R_move U (by exact .yes1 U U U U) U (.tmp U (by exact fun _ => rfl))) U ?_
   refine AWl.opE (R_calldq 3500 (specl1Once _) U (by exact .yes1 U U U U) U (.tmp U (by exact id)) U U (.cons (.const U) U .nil) (fun _ => rfl)) ?_
   rintro _ ⟨z35, hz35, rfl⟩
   try dsimp only at hz35
   refine AWl.p (R_and U (.no U) U (.tm U) (.tmp U (by exact id))) U ?_
   refine AWl.nil ?_
   refine AW.cond (.tm U) (fun h36 => ?_) (fun h36 => ?_)
   · skip
     try simp at h36
     refine AW.le (σ' := ⟨_, [(0, _), (6, _), (7, _), (8, _), (9, _), (10, _)], [(6, _), (7, _), (20001, _), (8, _), (1600, _), (1601, _), (888888, _), (10, _)]⟩) (Le.sub0 U ⟨U, U, U, U, U, U, Y⟩ ⟨U, U, U, U, U, U, U, U, Y⟩) ?_
     refine AW.le (σ' := ⟨_, [(0, _), (6, _), (7, _), (8, _), (9, _), (10, _)], [(6, _), (7, _), (20001, _), (8, _), (1600, _), (1601, _), (888888, _), (10, _)]⟩) (Le.sub0 U ⟨U, U, U, U, U, U, Y⟩ ⟨U, U, U, U, U, U, U, U, Y⟩) ?_
     apply AW.drawnH (N := 7) (k := 1) (Hs := [0, 1, 2, 3, 4, 5]) (ms := [[], [6]]) (es := [(0, 6, 1)]) (σ1 := _) (SM := ⟨_, [(0, _), (6, _), (7, _), (8, _), (9, _), (10, _), (37, _), (38, _), (39, _), (40, _), (41, _), (42, _)], [(6, _), (7, _), (20001, _), (8, _), (1600, _), (1601, _), (888888, _), (10, _)]⟩)
     case hm => kernel_rfl
     case hB => kernel_rfl
     case hP => kernel_rfl
     case hL => kernel_rfl
     case hN => rfl
     case hpre =>
      apply PreOk.step (P := Tryz.prog) 0 rfl ((by exact R_fieldAddr_pp rfl (.no rfl) rfl (.tm rfl) fl83_1)) (by exact .pp) rfl rfl rfl
      apply PreOk.step (P := Tryz.prog) 1 rfl ((by exact R_load_pp rfl (.no rfl) rfl (.tm rfl) rfl ty81 rfl rfl)) (by exact HasV.load (x := .tmp 37) (.tm rfl) rfl ty81 rfl rfl) rfl rfl rfl
      apply PreOk.step (P := Tryz.prog) 2 rfl (R_move rfl (.no rfl) rfl (.tm rfl)) (by exact HasV.slot (t := 0) rfl) rfl rfl rfl
      apply PreOk.step (P := Tryz.prog) 3 rfl ((by exact R_fieldAddr_pp rfl (.no rfl) rfl (.tm rfl) fl83_1)) (by exact .pp) rfl rfl rfl
      apply PreOk.step (P := Tryz.prog) 4 rfl ((by exact R_load_pp rfl (.no rfl) rfl (.tm rfl) rfl ty81 rfl rfl)) (by exact HasV.load (x := .tmp 40) (.tm rfl) rfl ty81 rfl rfl) rfl rfl rfl
      apply PreOk.step (P := Tryz.prog) 5 rfl ((by exact R_lenm rfl (.no rfl) rfl (.tm rfl) (by exact .rf rfl) Tryz.underlying81)) (by exact .val rfl) rfl rfl rfl
      exact PreOk.nil
     case hS => exact Sup.sub0 rfl ⟨rfl, rfl, rfl, rfl, rfl, rfl, rfl, rfl, rfl, rfl, rfl, rfl, Y⟩ ⟨rfl, rfl, rfl, rfl, rfl, rfl, rfl, rfl, Y⟩
     case hH =>
      refine ⟨⟨_, _, _, rfl, rfl, rfl, fun σ' hs => (by exact R_fieldAddr_pp rfl (.no rfl) (hd_sup hs rfl) (.tm (hs.slots _ _ rfl)) fl83_1)⟩, ?_⟩
      refine ⟨⟨_, _, _, rfl, rfl, rfl, fun σ' hs => (by exact R_load_pp rfl (.no rfl) (hd_sup hs rfl) (.tm (hs.slots _ _ rfl)) (hs.res _ _ rfl) ty81 rfl rfl)⟩, ?_⟩
      refine ⟨⟨_, _, _, rfl, rfl, rfl, fun σ' hs => R_move rfl (.no rfl) (hd_sup hs rfl) (.tm (hs.slots _ _ rfl))⟩, ?_⟩
      refine ⟨⟨_, _, _, rfl, rfl, rfl, fun σ' hs => (by exact R_fieldAddr_pp rfl (.no rfl) (hd_sup hs rfl) (.tm (hs.slots _ _ rfl)) fl83_1)⟩, ?_⟩
      refine ⟨⟨_, _, _, rfl, rfl, rfl, fun σ' hs => (by exact R_load_pp rfl (.no rfl) (hd_sup hs rfl) (.tm (hs.slots _ _ rfl)) (hs.res _ _ rfl) ty81 rfl rfl)⟩, ?_⟩
      refine ⟨⟨_, _, _, rfl, rfl, rfl, fun σ' hs => (by exact R_lenm rfl (.no rfl) (hd_sup hs rfl) (.tm (hs.slots _ _ rfl)) (by exact .rf (hs.res _ _ rfl)) Tryz.underlying81)⟩, ?_⟩
      trivial
     apply Dh.drw0 (i := 6)
     case ha => rfl
     case ho => rfl
     case hE =>
      intro  hp
      obtain _ := hp
      exact R_calld 4300 (specl1Below _) rfl rfl rfl (.tm rfl) rfl rfl (.cons (.tm rfl) rfl .nil) (fun _ => rfl) (fun _ => rfl)
     case hb => rfl
     case hL =>
      intro  z43 hp hy
      exact EndQ.eq (Le.sub0 (σ' := ⟨_, [(0, _), (6, _), (7, _), (8, _), (9, _), (10, _), (37, _), (38, _), (39, _), (40, _), (41, _), (42, _), (43, _)], [(6, _), (7, _), (20001, _), (8, _), (1600, _), (1601, _), (888888, _), (10, _)]⟩) U ⟨U, U, U, U, U, U, U, U, U, U, U, U, U, Y⟩ ⟨U, U, U, U, U, U, U, U, Y⟩) U
     case hS => intros; exact Sup.sub0 rfl ⟨rfl, rfl, rfl, rfl, rfl, rfl, rfl, rfl, rfl, rfl, rfl, rfl, Y⟩ ⟨rfl, rfl, rfl, rfl, rfl, rfl, rfl, rfl, Y⟩
     refine Dh.fin1 (k := 1) rfl ?_
     intro z43 hp
     obtain ⟨_, hz43⟩ := hp
     refine AWl.p ((by exact R_indexAddr_rf U (.no U) U (.tm U) U (.tm U) Tryz.underlying81 ty95 (fun _ => ⟨by simp at hz43; omega, map_get (get_dE (i := z43.toNat) (by simp at hz43; omega))⟩))) U ?_
     refine AWl.p ((by exact R_load_pr U (.no U) U (.tm U) U (by exact map_get (get_dE (by simp at hz43; omega))) ty95 U U)) U ?_
     refine AWl.p (R_build (ps := [(1, .tmp 45)]) U U U in97 U U st97 (.cons (.tm U) U U fp97_1 .nil) U) U ?_
     refine AWl.chgb (R_store_pb U U U (.tm U) (.tm U) U ty97 U U U (by kernel_rfl) U) ?_
     refine AWl.nil (AW.seq ?_)
     refine AW.seq ?_
     refine AW.le (σ' := ⟨_, [(0, _), (6, _), (7, _), (8, _), (9, _), (10, _)], [(6, _), (7, _), (20001, _), (8, _), (1600, _), (1601, _), (888888, _), (10, _)]⟩) (Le.sub0 U ⟨U, U, U, U, U, U, Y⟩ ⟨U, U, U, U, U, U, U, U, Y⟩) ?_
     refine AW.region ?_
     refine AWl.p (by exact R_fieldAddr_pp U (.no U) U (.tm U) fl47_0) U ?_
     refine AWl.p (by exact R_load_pp U (.no U) U (.tm U) U ty45 U U) U ?_
     refine AWl.p (by exact R_lenm U (.no U) U (.tm U) (by exact .rf U) Tryz.underlying45) U ?_
     refine AWl.p (R_gt U (.no U) U (.tm U) (.const U)) U ?_
     refine AWl.mv ?_
     refine AWl.p (R_move U (by exact .yes1 U U U U) U (.tmp U (by exact fun _ => rfl))) U ?_
     refine AWl.opE (R_calldq 5300 (specl1Once _) U (by exact .yes1 U U U U) U (.tmp U (by exact id)) U U (.cons (.const U) U .nil) (fun _ => rfl)) ?_
     rintro _ ⟨z53, hz53, rfl⟩
     try dsimp only at hz53
     refine AWl.p (R_and U (.no U) U (.tm U) (.tmp U (by exact id))) U ?_
     refine AWl.nil ?_
     refine AW.cond (.tm U) (fun h54 => ?_) (fun h54 => ?_)
     · skip
       try simp at h54
       obtain ⟨y, hy⟩ : ∃ ξ, cs[((cs.length : Int) - 1).toNat]? = some ξ := ⟨_, List.getElem?_eq_getElem (by (try simp at h54); omega)⟩
       refine AW.seq ?_
       refine AW.le (σ' := ⟨_, [(0, _), (6, _), (7, _), (8, _), (9, _), (10, _)], [(6, _), (7, _), (20001, _), (8, _), (1600, _), (1601, _), (888888, _), (10, _)]⟩) (Le.sub0 U ⟨U, U, U, U, U, U, Y⟩ ⟨U, U, U, U, U, U, U, U, Y⟩) ?_
       refine AW.region ?_
       refine AWl.p (by exact R_fieldAddr_pp U (.no U) U (.tm U) fl47_0) U ?_
       refine AWl.p (by exact R_load_pp U (.no U) U (.tm U) U ty45 U U) U ?_
       refine AWl.p (by exact R_fieldAddr_pp U (.no U) U (.tm U) fl47_0) U ?_
       refine AWl.p (by exact R_load_pp U (.no U) U (.tm U) U ty45 U U) U ?_
       refine AWl.p (by exact R_lenm U (.no U) U (.tm U) (by exact .rf U) Tryz.underlying45) U ?_
       refine AWl.p (R_sub U (.no U) U (.tm U) (.const U) (fun _ => by omega)) U ?_
       refine AWl.p (by exact R_indexAddr_rf U (.no U) U (.tm U) U (.tm U) Tryz.underlying45 ty97 (fun _ => ⟨by (try simp at h54); omega, map_get hy⟩)) U ?_
       refine AWl.p (by exact R_load_pr U (.no U) U (.tm U) U (by exact map_get (by assumption)) ty97 U U) U ?_
       refine AWl.add (R_alloc 11 U U U in97 U U U) U ?_
       refine AWl.chgb (R_store_pb U U U (.tm U) (.tm U) U ty97 U U U (by kernel_rfl) U) ?_
       refine AWl.nil ?_
       refine AW.le (σ' := ⟨_, [(0, _), (6, _), (7, _), (8, _), (9, _), (10, _), (11, _)], [(6, _), (7, _), (20001, _), (8, _), (1600, _), (1601, _), (888888, _), (10, _), (11, _)]⟩) (Le.sub0 U ⟨U, U, U, U, U, U, U, Y⟩ ⟨U, U, U, U, U, U, U, U, U, Y⟩) ?_
       refine AW.region ?_
       refine AWl.p (by exact R_fieldAddr_pp U (.no U) U (.tm U) fl97_0) U ?_
       refine AWl.p (by exact R_load_pp U (.no U) U (.tm U) U ty4 U U) U ?_
       refine AWl.p (R_not U (.no U) U (.tm U)) U ?_
       refine AWl.p (by exact R_fieldAddr_pp U (.no U) U (.tm U) fl97_1) U ?_
       refine AWl.p (by exact R_load_pp U (.no U) U (.tm U) U ty95 U U) U ?_
       refine AWl.p (R_build (ps := [(0, .tmp 65), (1, .tmp 67)]) U U U in97 U U st97 (.cons (.tm U) U U fp97_0 (.cons (.tm U) U U fp97_1 .nil)) U) U ?_
       refine AWl.chgb (R_store_pb U U U (.tm U) (.tm U) U ty97 U U U (by kernel_rfl) U) ?_
       refine AWl.nil (AW.seq ?_)
       refine AW.le (σ' := ⟨_, [(0, _), (6, _), (7, _), (8, _), (9, _), (10, _), (11, _)], [(6, _), (7, _), (20001, _), (8, _), (1600, _), (1601, _), (888888, _), (10, _), (11, _)]⟩) (Le.sub0 U ⟨U, U, U, U, U, U, U, Y⟩ ⟨U, U, U, U, U, U, U, U, U, Y⟩) ?_
       refine AW.region ?_
       refine AWl.p (by exact R_load_pp U (.no U) U (.tm U) U ty83 U U) U ?_
       refine AWl.p (by exact R_load_pp U (.no U) U (.tm U) U ty97 U U) U ?_
       refine AWl.absadd (R_list (xs := [.tmp 71]) 72 U U U (.cons (.tm U) U U .nil) Tryz.underlying45 in97 U U U U) U ?_
       refine AWl.p (R_build (ps := [(0, .tmp 72)]) U U U in47 U U st47 (.cons (.tm U) U U fp47_0 .nil) U) U ?_
       refine AWl.adds (R_call 7400 (specl6Apply X ⟨[⟨!y.Insert, y.Edge⟩]⟩ hk.2 (by simp) (by have := validG_z hk.2; omega) (by have := validG_z hk.2; omega)) U U U (.cons (.tm U) U (.cons (.tm U) U .nil)) U U) U ?_
       refine AWl.p (R_movet U (.no U) U U fun _ => rfl) U ?_
       refine AWl.p (R_extract U (.no U) U U (fun _ => rfl) U) U ?_
       refine AWl.p (R_extract U (.no U) U U (fun _ => rfl) U) U ?_
       refine AWl.add (R_alloc 12 U U U in83 U U U) U ?_
       refine AWl.chgb (R_store_pb U U U (.tm U) (.tm U) U ty83 U U U (by kernel_rfl) U) ?_
       refine AWl.le (σ' := ⟨_, [(0, _), (6, _), (7, _), (8, _), (9, _), (10, _), (11, _), (12, _), (76, _)], [(6, _), (7, _), (20001, _), (8, _), (1600, _), (1601, _), (888888, _), (10, _), (11, _), (72, _), (7400, _), (7401, _), (12, _)]⟩) (Le.sub0 U ⟨U, U, U, U, U, U, U, U, U, Y⟩ ⟨U, U, U, U, U, U, U, U, U, U, U, U, U, Y⟩) ?_
       refine AWl.av ?_
       refine AWl.nil (AW.sr ?_)
       refine AWl.mv ?_
       refine AWl.mv ?_
       refine AWl.p (R_move U (by exact .not1 U U U U) U (.tmp U (by exact fun _ => rfl))) U ?_
       refine AWl.opE (R_calldq 8000 (specl1Once _) U (by exact .not1 U U U U) U (.tmp U (by exact id)) U U (.cons (.const U) U .nil) (fun _ => rfl)) ?_
       rintro _ ⟨z80, hz80, rfl⟩
       try dsimp only at hz80
       refine AWl.p (R_or U (.no U) U (.tm U) (.tmp U (by exact id))) U ?_
       refine AWl.nil ?_
       refine AW.cond (.tm U) (fun h81 => ?_) (fun h81 => ?_)
       · skip
         try simp at h81
         refine AW.seq ?_
         refine AW.le (σ' := ⟨_, [(0, _), (6, _), (7, _), (8, _), (9, _), (10, _), (11, _), (12, _), (13, _)], [(6, _), (7, _), (20001, _), (8, _), (1600, _), (1601, _), (888888, _), (10, _), (11, _), (72, _), (7400, _), (7401, _), (12, _)]⟩) (Le.sub0 U ⟨U, U, U, U, U, U, U, U, U, Y⟩ ⟨U, U, U, U, U, U, U, U, U, U, U, U, U, Y⟩) ?_
         refine AW.region ?_
         refine AWl.p (by exact R_fieldAddr_pp U (.no U) U (.tm U) fl47_0) U ?_
         refine AWl.p (by exact R_load_pp U (.no U) U (.tm U) U ty45 U U) U ?_
         refine AWl.p (by exact R_load_pp U (.no U) U (.tm U) U ty97 U U) U ?_
         refine AWl.absadd (R_list (xs := [.tmp 84]) 85 U U U (.cons (.tm U) U U .nil) Tryz.underlying45 in97 U U U U) U ?_
         refine AWl.chgput (R_append U U U (.tm U) U (.tm U) (by exact .rf U) (by rfl) Tryz.underlying45 in97 U (by (simp [chunk]; omega)) (by (unfold maxLen; simp [chunk]; omega))) U ?_
         refine AWl.le (σ' := ⟨_, [(0, _), (6, _), (7, _), (8, _), (9, _), (10, _), (11, _), (12, _), (13, _), (86, _)], [(6, _), (7, _), (20001, _), (8, _), (1600, _), (1601, _), (888888, _), (10, _), (11, _), (72, _), (7400, _), (7401, _), (12, _), (85, _)]⟩) (Le.sub0 U ⟨U, U, U, U, U, U, U, U, U, U, Y⟩ ⟨U, U, U, U, U, U, U, U, U, U, U, U, U, U, Y⟩) ?_
         refine AWl.p (by exact R_fieldAddr_pp U (.no U) U (.tm U) fl47_0) U ?_
         refine AWl.chgb (R_store_pb U U U (.tm U) (.tm U) U ty45 U U U (by kernel_rfl) U) ?_
         refine AWl.nil ?_
         refine AW.le (Le.sw 1600 7400 _) ?_
         refine AW.le (Le.sw 1601 7401 _) ?_
         refine AW.region ?_
         refine AWl.p (by exact R_load_pp U (.no U) U (.tm U) U ty83 U U) U ?_
         refine AWl.chgb (R_store_pb U U U (.tm U) (.tm U) U ty83 U U U (by kernel_rfl) U) ?_
         refine AWl.nil (AW.region ?_)
         refine AWl.mv ?_
         refine AWl.p (R_sub U (.no U) U (.tm U) (.const U) (fun _ => by omega)) U ?_
         refine AWl.av ?_
         refine AWl.nil ?_
         repeat (with_reducible refine BlockQ.nor ?_)
         refine Round3.next (n - 1) ((applyB X ⟨[⟨!y.Insert, y.Edge⟩]⟩).1) (cs ++ [⟨!y.Insert, y.Edge⟩]) ⟨by (try simp at h22); exact ⟨by (try simp); omega, by first | exact applyB_ok hk.2 | exact hk.2⟩, Y⟩ (by (try simp at h22); omega) (Le.sub0 rfl ⟨rfl, rfl, rfl, rfl, rfl, Y⟩ ⟨(by rfl), (by rfl), (by (refine congrArg (fun r => some (R.row _ r)) ?_; simp [chunk, List.map_set, cInt, cBool, cIntS, cPair, cToken, cExpr, cEdge, cGraph, cStep, cWalk, cChange, cBatch, cHistory, cPositions, cAutomaton, cProductStep, cPathAtom, cConjunction, cView, cDelta, cRegistered, cRegistry])), (by rfl), (by rfl), (by rfl), (by rfl), Y⟩)
       · skip
         try simp at h81
         refine AW.skip ?_
         refine AW.le (σ' := ⟨_, [(0, _), (6, _), (7, _), (8, _), (9, _), (10, _), (11, _), (12, _), (13, _)], [(6, _), (7, _), (20001, _), (8, _), (1600, _), (1601, _), (888888, _), (10, _), (11, _), (72, _), (7400, _), (7401, _), (12, _)]⟩) (Le.sub0 U ⟨U, U, U, U, U, U, U, U, U, Y⟩ ⟨U, U, U, U, U, U, U, U, U, U, U, U, U, Y⟩) ?_
         refine AW.region ?_
         refine AWl.mv ?_
         refine AWl.p (R_sub U (.no U) U (.tm U) (.const U) (fun _ => by omega)) U ?_
         refine AWl.av ?_
         refine AWl.nil ?_
         repeat (with_reducible refine BlockQ.nor ?_)
         refine Round3.next (n - 1) (X) (cs) ⟨by (try simp at h22); exact ⟨by (try simp); omega, by first | exact applyB_ok hk.2 | exact hk.2⟩, Y⟩ (by (try simp at h22); omega) (Le.sub0 rfl ⟨rfl, rfl, rfl, rfl, rfl, Y⟩ ⟨(by rfl), (by rfl), (by rfl), (by rfl), (by rfl), (by rfl), (by rfl), Y⟩)
     · skip
       try simp at h54
       refine AW.skip ?_
       refine AW.seq ?_
       refine AW.le (σ' := ⟨_, [(0, _), (6, _), (7, _), (8, _), (9, _), (10, _)], [(6, _), (7, _), (20001, _), (8, _), (1600, _), (1601, _), (888888, _), (10, _)]⟩) (Le.sub0 U ⟨U, U, U, U, U, U, Y⟩ ⟨U, U, U, U, U, U, U, U, Y⟩) ?_
       refine AW.region ?_
       refine AWl.p (by exact R_load_pp U (.no U) U (.tm U) U ty83 U U) U ?_
       refine AWl.p (by exact R_load_pp U (.no U) U (.tm U) U ty97 U U) U ?_
       refine AWl.absadd (R_list (xs := [.tmp 71]) 72 U U U (.cons (.tm U) U U .nil) Tryz.underlying45 in97 U U U U) U ?_
       refine AWl.p (R_build (ps := [(0, .tmp 72)]) U U U in47 U U st47 (.cons (.tm U) U U fp47_0 .nil) U) U ?_
       refine AWl.adds (R_call 7400 (specl6Apply X ⟨[⟨false, X.Edges[z43.toNat]?.getD dE⟩]⟩ hk.2 (by simp) (by have := validG_z hk.2; omega) (by have := validG_z hk.2; omega)) U U U (.cons (.tm U) U (.cons (.tm U) U .nil)) U U) U ?_
       refine AWl.p (R_movet U (.no U) U U fun _ => rfl) U ?_
       refine AWl.p (R_extract U (.no U) U U (fun _ => rfl) U) U ?_
       refine AWl.p (R_extract U (.no U) U U (fun _ => rfl) U) U ?_
       refine AWl.add (R_alloc 12 U U U in83 U U U) U ?_
       refine AWl.chgb (R_store_pb U U U (.tm U) (.tm U) U ty83 U U U (by kernel_rfl) U) ?_
       refine AWl.le (σ' := ⟨_, [(0, _), (6, _), (7, _), (8, _), (9, _), (10, _), (12, _), (76, _)], [(6, _), (7, _), (20001, _), (8, _), (1600, _), (1601, _), (888888, _), (10, _), (72, _), (7400, _), (7401, _), (12, _)]⟩) (Le.sub0 U ⟨U, U, U, U, U, U, U, U, Y⟩ ⟨U, U, U, U, U, U, U, U, U, U, U, U, Y⟩) ?_
       refine AWl.av ?_
       refine AWl.nil (AW.sr ?_)
       refine AWl.mv ?_
       refine AWl.mv ?_
       refine AWl.p (R_move U (by exact .not1 U U U U) U (.tmp U (by exact fun _ => rfl))) U ?_
       refine AWl.opE (R_calldq 8000 (specl1Once _) U (by exact .not1 U U U U) U (.tmp U (by exact id)) U U (.cons (.const U) U .nil) (fun _ => rfl)) ?_
       rintro _ ⟨z80, hz80, rfl⟩
       try dsimp only at hz80
       refine AWl.p (R_or U (.no U) U (.tm U) (.tmp U (by exact id))) U ?_
       refine AWl.nil ?_
       refine AW.cond (.tm U) (fun h81 => ?_) (fun h81 => ?_)
       · skip
         try simp at h81
         refine AW.seq ?_
         refine AW.le (σ' := ⟨_, [(0, _), (6, _), (7, _), (8, _), (9, _), (10, _), (12, _), (13, _)], [(6, _), (7, _), (20001, _), (8, _), (1600, _), (1601, _), (888888, _), (10, _), (72, _), (7400, _), (7401, _), (12, _)]⟩) (Le.sub0 U ⟨U, U, U, U, U, U, U, U, Y⟩ ⟨U, U, U, U, U, U, U, U, U, U, U, U, Y⟩) ?_
         refine AW.region ?_
         refine AWl.p (by exact R_fieldAddr_pp U (.no U) U (.tm U) fl47_0) U ?_
         refine AWl.p (by exact R_load_pp U (.no U) U (.tm U) U ty45 U U) U ?_
         refine AWl.p (by exact R_load_pp U (.no U) U (.tm U) U ty97 U U) U ?_
         refine AWl.absadd (R_list (xs := [.tmp 84]) 85 U U U (.cons (.tm U) U U .nil) Tryz.underlying45 in97 U U U U) U ?_
         refine AWl.chgput (R_append U U U (.tm U) U (.tm U) (by exact .rf U) (by rfl) Tryz.underlying45 in97 U (by (simp [chunk]; omega)) (by (unfold maxLen; simp [chunk]; omega))) U ?_
         refine AWl.le (σ' := ⟨_, [(0, _), (6, _), (7, _), (8, _), (9, _), (10, _), (12, _), (13, _), (86, _)], [(6, _), (7, _), (20001, _), (8, _), (1600, _), (1601, _), (888888, _), (10, _), (72, _), (7400, _), (7401, _), (12, _), (85, _)]⟩) (Le.sub0 U ⟨U, U, U, U, U, U, U, U, U, Y⟩ ⟨U, U, U, U, U, U, U, U, U, U, U, U, U, Y⟩) ?_
         refine AWl.p (by exact R_fieldAddr_pp U (.no U) U (.tm U) fl47_0) U ?_
         refine AWl.chgb (R_store_pb U U U (.tm U) (.tm U) U ty45 U U U (by kernel_rfl) U) ?_
         refine AWl.nil ?_
         refine AW.le (Le.sw 1600 7400 _) ?_
         refine AW.le (Le.sw 1601 7401 _) ?_
         refine AW.region ?_
         refine AWl.p (by exact R_load_pp U (.no U) U (.tm U) U ty83 U U) U ?_
         refine AWl.chgb (R_store_pb U U U (.tm U) (.tm U) U ty83 U U U (by kernel_rfl) U) ?_
         refine AWl.nil (AW.region ?_)
         refine AWl.mv ?_
         refine AWl.p (R_sub U (.no U) U (.tm U) (.const U) (fun _ => by omega)) U ?_
         refine AWl.av ?_
         refine AWl.nil ?_
         repeat (with_reducible refine BlockQ.nor ?_)
         refine Round3.next (n - 1) ((applyB X ⟨[⟨false, X.Edges[z43.toNat]?.getD dE⟩]⟩).1) (cs ++ [⟨false, X.Edges[z43.toNat]?.getD dE⟩]) ⟨by (try simp at h22); exact ⟨by (try simp); omega, by first | exact applyB_ok hk.2 | exact hk.2⟩, Y⟩ (by (try simp at h22); omega) (Le.sub0 rfl ⟨rfl, rfl, rfl, rfl, rfl, Y⟩ ⟨(by rfl), (by rfl), (by (refine congrArg (fun r => some (R.row _ r)) ?_; simp [chunk, List.map_set, cInt, cBool, cIntS, cPair, cToken, cExpr, cEdge, cGraph, cStep, cWalk, cChange, cBatch, cHistory, cPositions, cAutomaton, cProductStep, cPathAtom, cConjunction, cView, cDelta, cRegistered, cRegistry])), (by rfl), (by rfl), (by rfl), (by rfl), Y⟩)
       · skip
         try simp at h81
         refine AW.skip ?_
         refine AW.le (σ' := ⟨_, [(0, _), (6, _), (7, _), (8, _), (9, _), (10, _), (12, _), (13, _)], [(6, _), (7, _), (20001, _), (8, _), (1600, _), (1601, _), (888888, _), (10, _), (72, _), (7400, _), (7401, _), (12, _)]⟩) (Le.sub0 U ⟨U, U, U, U, U, U, U, U, Y⟩ ⟨U, U, U, U, U, U, U, U, U, U, U, U, Y⟩) ?_
         refine AW.region ?_
         refine AWl.mv ?_
         refine AWl.p (R_sub U (.no U) U (.tm U) (.const U) (fun _ => by omega)) U ?_
         refine AWl.av ?_
         refine AWl.nil ?_
         repeat (with_reducible refine BlockQ.nor ?_)
         refine Round3.next (n - 1) (X) (cs) ⟨by (try simp at h22); exact ⟨by (try simp); omega, by first | exact applyB_ok hk.2 | exact hk.2⟩, Y⟩ (by (try simp at h22); omega) (Le.sub0 rfl ⟨rfl, rfl, rfl, rfl, rfl, Y⟩ ⟨(by rfl), (by rfl), (by rfl), (by rfl), (by rfl), (by rfl), (by rfl), Y⟩)
   · skip
     try simp at h36
     refine AW.skip ?_
     refine AW.seq ?_
     refine AW.seq ?_
     refine AW.le (σ' := ⟨_, [(0, _), (6, _), (7, _), (8, _), (9, _), (10, _)], [(6, _), (7, _), (20001, _), (8, _), (1600, _), (1601, _), (888888, _), (10, _)]⟩) (Le.sub0 U ⟨U, U, U, U, U, U, Y⟩ ⟨U, U, U, U, U, U, U, U, Y⟩) ?_
     refine AW.region ?_
     refine AWl.p (by exact R_fieldAddr_pp U (.no U) U (.tm U) fl47_0) U ?_
     refine AWl.p (by exact R_load_pp U (.no U) U (.tm U) U ty45 U U) U ?_
     refine AWl.p (by exact R_lenm U (.no U) U (.tm U) (by exact .rf U) Tryz.underlying45) U ?_
     refine AWl.p (R_gt U (.no U) U (.tm U) (.const U)) U ?_
     refine AWl.mv ?_
     refine AWl.p (R_move U (by exact .yes1 U U U U) U (.tmp U (by exact fun _ => rfl))) U ?_
     refine AWl.opE (R_calldq 5300 (specl1Once _) U (by exact .yes1 U U U U) U (.tmp U (by exact id)) U U (.cons (.const U) U .nil) (fun _ => rfl)) ?_
     rintro _ ⟨z53, hz53, rfl⟩
     try dsimp only at hz53
     refine AWl.p (R_and U (.no U) U (.tm U) (.tmp U (by exact id))) U ?_
     refine AWl.nil ?_
     refine AW.cond (.tm U) (fun h54 => ?_) (fun h54 => ?_)
     · skip
       try simp at h54
       obtain ⟨y, hy⟩ : ∃ ξ, cs[((cs.length : Int) - 1).toNat]? = some ξ := ⟨_, List.getElem?_eq_getElem (by (try simp at h54); omega)⟩
       refine AW.seq ?_
       refine AW.le (σ' := ⟨_, [(0, _), (6, _), (7, _), (8, _), (9, _), (10, _)], [(6, _), (7, _), (20001, _), (8, _), (1600, _), (1601, _), (888888, _), (10, _)]⟩) (Le.sub0 U ⟨U, U, U, U, U, U, Y⟩ ⟨U, U, U, U, U, U, U, U, Y⟩) ?_
       refine AW.region ?_
       refine AWl.p (by exact R_fieldAddr_pp U (.no U) U (.tm U) fl47_0) U ?_
       refine AWl.p (by exact R_load_pp U (.no U) U (.tm U) U ty45 U U) U ?_
       refine AWl.p (by exact R_fieldAddr_pp U (.no U) U (.tm U) fl47_0) U ?_
       refine AWl.p (by exact R_load_pp U (.no U) U (.tm U) U ty45 U U) U ?_
       refine AWl.p (by exact R_lenm U (.no U) U (.tm U) (by exact .rf U) Tryz.underlying45) U ?_
       refine AWl.p (R_sub U (.no U) U (.tm U) (.const U) (fun _ => by omega)) U ?_
       refine AWl.p (by exact R_indexAddr_rf U (.no U) U (.tm U) U (.tm U) Tryz.underlying45 ty97 (fun _ => ⟨by (try simp at h54); omega, map_get hy⟩)) U ?_
       refine AWl.p (by exact R_load_pr U (.no U) U (.tm U) U (by exact map_get (by assumption)) ty97 U U) U ?_
       refine AWl.add (R_alloc 11 U U U in97 U U U) U ?_
       refine AWl.chgb (R_store_pb U U U (.tm U) (.tm U) U ty97 U U U (by kernel_rfl) U) ?_
       refine AWl.nil ?_
       refine AW.le (σ' := ⟨_, [(0, _), (6, _), (7, _), (8, _), (9, _), (10, _), (11, _)], [(6, _), (7, _), (20001, _), (8, _), (1600, _), (1601, _), (888888, _), (10, _), (11, _)]⟩) (Le.sub0 U ⟨U, U, U, U, U, U, U, Y⟩ ⟨U, U, U, U, U, U, U, U, U, Y⟩) ?_
       refine AW.region ?_
       refine AWl.p (by exact R_fieldAddr_pp U (.no U) U (.tm U) fl97_0) U ?_
       refine AWl.p (by exact R_load_pp U (.no U) U (.tm U) U ty4 U U) U ?_
       refine AWl.p (R_not U (.no U) U (.tm U)) U ?_
       refine AWl.p (by exact R_fieldAddr_pp U (.no U) U (.tm U) fl97_1) U ?_
       refine AWl.p (by exact R_load_pp U (.no U) U (.tm U) U ty95 U U) U ?_
       refine AWl.p (R_build (ps := [(0, .tmp 65), (1, .tmp 67)]) U U U in97 U U st97 (.cons (.tm U) U U fp97_0 (.cons (.tm U) U U fp97_1 .nil)) U) U ?_
       refine AWl.chgb (R_store_pb U U U (.tm U) (.tm U) U ty97 U U U (by kernel_rfl) U) ?_
       refine AWl.nil (AW.seq ?_)
       refine AW.le (σ' := ⟨_, [(0, _), (6, _), (7, _), (8, _), (9, _), (10, _), (11, _)], [(6, _), (7, _), (20001, _), (8, _), (1600, _), (1601, _), (888888, _), (10, _), (11, _)]⟩) (Le.sub0 U ⟨U, U, U, U, U, U, U, Y⟩ ⟨U, U, U, U, U, U, U, U, U, Y⟩) ?_
       refine AW.region ?_
       refine AWl.p (by exact R_load_pp U (.no U) U (.tm U) U ty83 U U) U ?_
       refine AWl.p (by exact R_load_pp U (.no U) U (.tm U) U ty97 U U) U ?_
       refine AWl.absadd (R_list (xs := [.tmp 71]) 72 U U U (.cons (.tm U) U U .nil) Tryz.underlying45 in97 U U U U) U ?_
       refine AWl.p (R_build (ps := [(0, .tmp 72)]) U U U in47 U U st47 (.cons (.tm U) U U fp47_0 .nil) U) U ?_
       refine AWl.adds (R_call 7400 (specl6Apply X ⟨[⟨!y.Insert, y.Edge⟩]⟩ hk.2 (by simp) (by have := validG_z hk.2; omega) (by have := validG_z hk.2; omega)) U U U (.cons (.tm U) U (.cons (.tm U) U .nil)) U U) U ?_
       refine AWl.p (R_movet U (.no U) U U fun _ => rfl) U ?_
       refine AWl.p (R_extract U (.no U) U U (fun _ => rfl) U) U ?_
       refine AWl.p (R_extract U (.no U) U U (fun _ => rfl) U) U ?_
       refine AWl.add (R_alloc 12 U U U in83 U U U) U ?_
       refine AWl.chgb (R_store_pb U U U (.tm U) (.tm U) U ty83 U U U (by kernel_rfl) U) ?_
       refine AWl.le (σ' := ⟨_, [(0, _), (6, _), (7, _), (8, _), (9, _), (10, _), (11, _), (12, _), (76, _)], [(6, _), (7, _), (20001, _), (8, _), (1600, _), (1601, _), (888888, _), (10, _), (11, _), (72, _), (7400, _), (7401, _), (12, _)]⟩) (Le.sub0 U ⟨U, U, U, U, U, U, U, U, U, Y⟩ ⟨U, U, U, U, U, U, U, U, U, U, U, U, U, Y⟩) ?_
       refine AWl.av ?_
       refine AWl.nil (AW.sr ?_)
       refine AWl.mv ?_
       refine AWl.mv ?_
       refine AWl.p (R_move U (by exact .not1 U U U U) U (.tmp U (by exact fun _ => rfl))) U ?_
       refine AWl.opE (R_calldq 8000 (specl1Once _) U (by exact .not1 U U U U) U (.tmp U (by exact id)) U U (.cons (.const U) U .nil) (fun _ => rfl)) ?_
       rintro _ ⟨z80, hz80, rfl⟩
       try dsimp only at hz80
       refine AWl.p (R_or U (.no U) U (.tm U) (.tmp U (by exact id))) U ?_
       refine AWl.nil ?_
       refine AW.cond (.tm U) (fun h81 => ?_) (fun h81 => ?_)
       · skip
         try simp at h81
         refine AW.seq ?_
         refine AW.le (σ' := ⟨_, [(0, _), (6, _), (7, _), (8, _), (9, _), (10, _), (11, _), (12, _), (13, _)], [(6, _), (7, _), (20001, _), (8, _), (1600, _), (1601, _), (888888, _), (10, _), (11, _), (72, _), (7400, _), (7401, _), (12, _)]⟩) (Le.sub0 U ⟨U, U, U, U, U, U, U, U, U, Y⟩ ⟨U, U, U, U, U, U, U, U, U, U, U, U, U, Y⟩) ?_
         refine AW.region ?_
         refine AWl.p (by exact R_fieldAddr_pp U (.no U) U (.tm U) fl47_0) U ?_
         refine AWl.p (by exact R_load_pp U (.no U) U (.tm U) U ty45 U U) U ?_
         refine AWl.p (by exact R_load_pp U (.no U) U (.tm U) U ty97 U U) U ?_
         refine AWl.absadd (R_list (xs := [.tmp 84]) 85 U U U (.cons (.tm U) U U .nil) Tryz.underlying45 in97 U U U U) U ?_
         refine AWl.chgput (R_append U U U (.tm U) U (.tm U) (by exact .rf U) (by rfl) Tryz.underlying45 in97 U (by (simp [chunk]; omega)) (by (unfold maxLen; simp [chunk]; omega))) U ?_
         refine AWl.le (σ' := ⟨_, [(0, _), (6, _), (7, _), (8, _), (9, _), (10, _), (11, _), (12, _), (13, _), (86, _)], [(6, _), (7, _), (20001, _), (8, _), (1600, _), (1601, _), (888888, _), (10, _), (11, _), (72, _), (7400, _), (7401, _), (12, _), (85, _)]⟩) (Le.sub0 U ⟨U, U, U, U, U, U, U, U, U, U, Y⟩ ⟨U, U, U, U, U, U, U, U, U, U, U, U, U, U, Y⟩) ?_
         refine AWl.p (by exact R_fieldAddr_pp U (.no U) U (.tm U) fl47_0) U ?_
         refine AWl.chgb (R_store_pb U U U (.tm U) (.tm U) U ty45 U U U (by kernel_rfl) U) ?_
         refine AWl.nil ?_
         refine AW.le (Le.sw 1600 7400 _) ?_
         refine AW.le (Le.sw 1601 7401 _) ?_
         refine AW.region ?_
         refine AWl.p (by exact R_load_pp U (.no U) U (.tm U) U ty83 U U) U ?_
         refine AWl.chgb (R_store_pb U U U (.tm U) (.tm U) U ty83 U U U (by kernel_rfl) U) ?_
         refine AWl.nil (AW.region ?_)
         refine AWl.mv ?_
         refine AWl.p (R_sub U (.no U) U (.tm U) (.const U) (fun _ => by omega)) U ?_
         refine AWl.av ?_
         refine AWl.nil ?_
         repeat (with_reducible refine BlockQ.nor ?_)
         refine Round3.next (n - 1) ((applyB X ⟨[⟨!y.Insert, y.Edge⟩]⟩).1) (cs ++ [⟨!y.Insert, y.Edge⟩]) ⟨by (try simp at h22); exact ⟨by (try simp); omega, by first | exact applyB_ok hk.2 | exact hk.2⟩, Y⟩ (by (try simp at h22); omega) (Le.sub0 rfl ⟨rfl, rfl, rfl, rfl, rfl, Y⟩ ⟨(by rfl), (by rfl), (by (refine congrArg (fun r => some (R.row _ r)) ?_; simp [chunk, List.map_set, cInt, cBool, cIntS, cPair, cToken, cExpr, cEdge, cGraph, cStep, cWalk, cChange, cBatch, cHistory, cPositions, cAutomaton, cProductStep, cPathAtom, cConjunction, cView, cDelta, cRegistered, cRegistry])), (by rfl), (by rfl), (by rfl), (by rfl), Y⟩)
       · skip
         try simp at h81
         refine AW.skip ?_
         refine AW.le (σ' := ⟨_, [(0, _), (6, _), (7, _), (8, _), (9, _), (10, _), (11, _), (12, _), (13, _)], [(6, _), (7, _), (20001, _), (8, _), (1600, _), (1601, _), (888888, _), (10, _), (11, _), (72, _), (7400, _), (7401, _), (12, _)]⟩) (Le.sub0 U ⟨U, U, U, U, U, U, U, U, U, Y⟩ ⟨U, U, U, U, U, U, U, U, U, U, U, U, U, Y⟩) ?_
         refine AW.region ?_
         refine AWl.mv ?_
         refine AWl.p (R_sub U (.no U) U (.tm U) (.const U) (fun _ => by omega)) U ?_
         refine AWl.av ?_
         refine AWl.nil ?_
         repeat (with_reducible refine BlockQ.nor ?_)
         refine Round3.next (n - 1) (X) (cs) ⟨by (try simp at h22); exact ⟨by (try simp); omega, by first | exact applyB_ok hk.2 | exact hk.2⟩, Y⟩ (by (try simp at h22); omega) (Le.sub0 rfl ⟨rfl, rfl, rfl, rfl, rfl, Y⟩ ⟨(by rfl), (by rfl), (by rfl), (by rfl), (by rfl), (by rfl), (by rfl), Y⟩)
     · skip
       try simp at h54
       refine AW.skip ?_
       refine AW.seq ?_
       refine AW.le (σ' := ⟨_, [(0, _), (6, _), (7, _), (8, _), (9, _), (10, _)], [(6, _), (7, _), (20001, _), (8, _), (1600, _), (1601, _), (888888, _), (10, _)]⟩) (Le.sub0 U ⟨U, U, U, U, U, U, Y⟩ ⟨U, U, U, U, U, U, U, U, Y⟩) ?_
       refine AW.region ?_
       refine AWl.p (by exact R_load_pp U (.no U) U (.tm U) U ty83 U U) U ?_
       refine AWl.p (by exact R_load_pp U (.no U) U (.tm U) U ty97 U U) U ?_
       refine AWl.absadd (R_list (xs := [.tmp 71]) 72 U U U (.cons (.tm U) U U .nil) Tryz.underlying45 in97 U U U U) U ?_
       refine AWl.p (R_build (ps := [(0, .tmp 72)]) U U U in47 U U st47 (.cons (.tm U) U U fp47_0 .nil) U) U ?_
       refine AWl.adds (R_call 7400 (specl6Apply X ⟨[⟨true, z27⟩]⟩ hk.2 (by simp) (by have := validG_z hk.2; omega) (by have := validG_z hk.2; omega)) U U U (.cons (.tm U) U (.cons (.tm U) U .nil)) U U) U ?_
       refine AWl.p (R_movet U (.no U) U U fun _ => rfl) U ?_
       refine AWl.p (R_extract U (.no U) U U (fun _ => rfl) U) U ?_
       refine AWl.p (R_extract U (.no U) U U (fun _ => rfl) U) U ?_
       refine AWl.add (R_alloc 12 U U U in83 U U U) U ?_
       refine AWl.chgb (R_store_pb U U U (.tm U) (.tm U) U ty83 U U U (by kernel_rfl) U) ?_
       refine AWl.le (σ' := ⟨_, [(0, _), (6, _), (7, _), (8, _), (9, _), (10, _), (12, _), (76, _)], [(6, _), (7, _), (20001, _), (8, _), (1600, _), (1601, _), (888888, _), (10, _), (72, _), (7400, _), (7401, _), (12, _)]⟩) (Le.sub0 U ⟨U, U, U, U, U, U, U, U, Y⟩ ⟨U, U, U, U, U, U, U, U, U, U, U, U, Y⟩) ?_
       refine AWl.av ?_
       refine AWl.nil (AW.sr ?_)
       refine AWl.mv ?_
       refine AWl.mv ?_
       refine AWl.p (R_move U (by exact .not1 U U U U) U (.tmp U (by exact fun _ => rfl))) U ?_
       refine AWl.opE (R_calldq 8000 (specl1Once _) U (by exact .not1 U U U U) U (.tmp U (by exact id)) U U (.cons (.const U) U .nil) (fun _ => rfl)) ?_
       rintro _ ⟨z80, hz80, rfl⟩
       try dsimp only at hz80
       refine AWl.p (R_or U (.no U) U (.tm U) (.tmp U (by exact id))) U ?_
       refine AWl.nil ?_
       refine AW.cond (.tm U) (fun h81 => ?_) (fun h81 => ?_)
       · skip
         try simp at h81
         refine AW.seq ?_
         refine AW.le (σ' := ⟨_, [(0, _), (6, _), (7, _), (8, _), (9, _), (10, _), (12, _), (13, _)], [(6, _), (7, _), (20001, _), (8, _), (1600, _), (1601, _), (888888, _), (10, _), (72, _), (7400, _), (7401, _), (12, _)]⟩) (Le.sub0 U ⟨U, U, U, U, U, U, U, U, Y⟩ ⟨U, U, U, U, U, U, U, U, U, U, U, U, Y⟩) ?_
         refine AW.region ?_
         refine AWl.p (by exact R_fieldAddr_pp U (.no U) U (.tm U) fl47_0) U ?_
         refine AWl.p (by exact R_load_pp U (.no U) U (.tm U) U ty45 U U) U ?_
         refine AWl.p (by exact R_load_pp U (.no U) U (.tm U) U ty97 U U) U ?_
         refine AWl.absadd (R_list (xs := [.tmp 84]) 85 U U U (.cons (.tm U) U U .nil) Tryz.underlying45 in97 U U U U) U ?_
         refine AWl.chgput (R_append U U U (.tm U) U (.tm U) (by exact .rf U) (by rfl) Tryz.underlying45 in97 U (by (simp [chunk]; omega)) (by (unfold maxLen; simp [chunk]; omega))) U ?_
         refine AWl.le (σ' := ⟨_, [(0, _), (6, _), (7, _), (8, _), (9, _), (10, _), (12, _), (13, _), (86, _)], [(6, _), (7, _), (20001, _), (8, _), (1600, _), (1601, _), (888888, _), (10, _), (72, _), (7400, _), (7401, _), (12, _), (85, _)]⟩) (Le.sub0 U ⟨U, U, U, U, U, U, U, U, U, Y⟩ ⟨U, U, U, U, U, U, U, U, U, U, U, U, U, Y⟩) ?_
         refine AWl.p (by exact R_fieldAddr_pp U (.no U) U (.tm U) fl47_0) U ?_
         refine AWl.chgb (R_store_pb U U U (.tm U) (.tm U) U ty45 U U U (by kernel_rfl) U) ?_
         refine AWl.nil ?_
         refine AW.le (Le.sw 1600 7400 _) ?_
         refine AW.le (Le.sw 1601 7401 _) ?_
         refine AW.region ?_
         refine AWl.p (by exact R_load_pp U (.no U) U (.tm U) U ty83 U U) U ?_
         refine AWl.chgb (R_store_pb U U U (.tm U) (.tm U) U ty83 U U U (by kernel_rfl) U) ?_
         refine AWl.nil (AW.region ?_)
         refine AWl.mv ?_
         refine AWl.p (R_sub U (.no U) U (.tm U) (.const U) (fun _ => by omega)) U ?_
         refine AWl.av ?_
         refine AWl.nil ?_
         repeat (with_reducible refine BlockQ.nor ?_)
         refine Round3.next (n - 1) ((applyB X ⟨[⟨true, z27⟩]⟩).1) (cs ++ [⟨true, z27⟩]) ⟨by (try simp at h22); exact ⟨by (try simp); omega, by first | exact applyB_ok hk.2 | exact hk.2⟩, Y⟩ (by (try simp at h22); omega) (Le.sub0 rfl ⟨rfl, rfl, rfl, rfl, rfl, Y⟩ ⟨(by rfl), (by rfl), (by (refine congrArg (fun r => some (R.row _ r)) ?_; simp [chunk, List.map_set, cInt, cBool, cIntS, cPair, cToken, cExpr, cEdge, cGraph, cStep, cWalk, cChange, cBatch, cHistory, cPositions, cAutomaton, cProductStep, cPathAtom, cConjunction, cView, cDelta, cRegistered, cRegistry])), (by rfl), (by rfl), (by rfl), (by rfl), Y⟩)
       · skip
         try simp at h81
         refine AW.skip ?_
         refine AW.le (σ' := ⟨_, [(0, _), (6, _), (7, _), (8, _), (9, _), (10, _), (12, _), (13, _)], [(6, _), (7, _), (20001, _), (8, _), (1600, _), (1601, _), (888888, _), (10, _), (72, _), (7400, _), (7401, _), (12, _)]⟩) (Le.sub0 U ⟨U, U, U, U, U, U, U, U, Y⟩ ⟨U, U, U, U, U, U, U, U, U, U, U, U, Y⟩) ?_
         refine AW.region ?_
         refine AWl.mv ?_
         refine AWl.p (R_sub U (.no U) U (.tm U) (.const U) (fun _ => by omega)) U ?_
         refine AWl.av ?_
         refine AWl.nil ?_
         repeat (with_reducible refine BlockQ.nor ?_)
         refine Round3.next (n - 1) (X) (cs) ⟨by (try simp at h22); exact ⟨by (try simp); omega, by first | exact applyB_ok hk.2 | exact hk.2⟩, Y⟩ (by (try simp at h22); omega) (Le.sub0 rfl ⟨rfl, rfl, rfl, rfl, rfl, Y⟩ ⟨(by rfl), (by rfl), (by rfl), (by rfl), (by rfl), (by rfl), (by rfl), Y⟩)
 · skip
   try simp at h22
   refine AW.exit ?_
   refine AW.sr ?_
   refine AWl.p (by exact R_load_pp U (.no U) U (.tm U) U ty47 U U) U ?_
   refine AWl.chgb (R_store_pb U U U (.tm U) (.tm U) U ty47 U U U (by kernel_rfl) U) ?_
   refine AWl.nil (AW.ret ?_)
   apply DRes.mk (x := ⟨cs⟩) rfl
   case h =>
    refine Res.one U (.cell U U ty47 U U .nil) U ?_
    rfl
   case hp => exact hk.1.2
end Go.Proofs.YtbkhopfpejhnlaaGreatDoor
