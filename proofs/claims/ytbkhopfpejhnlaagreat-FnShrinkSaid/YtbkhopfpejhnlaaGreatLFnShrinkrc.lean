import Derived.Test.YtbkhopfpejhnlaaGreatRows
import Derived.Test.YtbkhopfpejhnlaaGreatOpenBrc
import Derived.Test.YtbkhopfpejhnlaaGreatB132rc
set_option linter.unusedVariables false
set_option linter.unusedSimpArgs false
namespace Go.Proofs.YtbkhopfpejhnlaaGreat
open Go.RowKit Go.Q Go.D Go.ChangeShapes Go.WideShapes Go.ChangeAt Go.Deep
open Go.ChangeMaps (open_string shut_string)
set_option maxRecDepth 100000 in
set_option maxHeartbeats 1000000 in
theorem lawFnShrink (bs : List Int) (hb : ∀ n ∈ bs, 0 ≤ n ∧ n < 256) : FnT Tryz.prog 3 [.one (.sl 1 (byR bs))] (.a (.one (.v (.bool true)))) := by
 refine FnT.walk Tryz.func3 U (by kernel_rfl) Tryz.ntmps3 U fun hlen w0 => ?_
 try simp [cPair, cToken, cExpr, cEdge, cGraph] at hlen
 clear hlen
 refine AW.sr ?_
 refine AWl.ac ?_
 refine AWl.nil (AW.seq ?_)
 refine AW.sr ?_
 refine AWl.mv ?_
 refine AWl.p (R_callz (FnT.fr (lawsbig bs)) U (.no U) U (.cons (.tm U) U .nil)) U ?_
 refine AWl.nil ?_
 refine AW.cond (.tm U) (fun h16 => ?_) (fun h16 => ?_)
 · skip
   try simp at h16
   refine AW.sr ?_
   refine AWl.ac ?_
   refine AWl.nil (AW.ret ?_)
   refine Res.v U U ?_
   rfl
 · skip
   try simp at h16
   refine AW.skip ?_
   refine AW.sr ?_
   refine AWl.mv ?_
   refine AWl.opE (R_calleX ((specDrawShrinkRefutation bs hb).fr) U U U (.cons (.tm U) U .nil)) ?_
   rintro _ ⟨z19, hz19, rfl⟩
   try dsimp only at hz19
   refine AWl.p (R_movet U (.no U) U U fun _ => rfl) U ?_
   refine AWl.p (R_extract U (.no U) U U (fun _ => rfl) U) U ?_
   refine AWl.p (R_extract U (.no U) U U (fun _ => rfl) U) U ?_
   refine AWl.p (R_extract U (.no U) U U (fun _ => rfl) U) U ?_
   refine AWl.p (R_extract U (.no U) U U (fun _ => rfl) U) U ?_
   refine AWl.p (R_extract U (.no U) U U (fun _ => rfl) U) U ?_
   refine AWl.add (R_alloc 3 U U U in27 U U U) U ?_
   refine AWl.add (R_alloc 4 U U U in30 U U U) U ?_
   refine AWl.add (R_alloc 5 U U U in30 U U U) U ?_
   refine AWl.chgb (R_store_pb U U U (.tm U) (.tm U) U ty27 U U U (by kernel_rfl) U) ?_
   refine AWl.chgb (R_store_pb U U U (.tm U) (.tm U) U ty30 U U U (by kernel_rfl) U) ?_
   refine AWl.chgb (R_store_pb U U U (.tm U) (.tm U) U ty30 U U U (by kernel_rfl) U) ?_
   refine AWl.av ?_
   refine AWl.av ?_
   refine AWl.nil (AW.sr ?_)
   refine AWl.p (by exact R_load_pp U (.no U) U (.tm U) U ty27 U U) U ?_
   refine AWl.p (by exact R_load_pp U (.no U) U (.tm U) U ty30 U U) U ?_
   refine AWl.p (by exact R_load_pp U (.no U) U (.tm U) U ty30 U U) U ?_
   refine AWl.mv ?_
   refine AWl.mv ?_
   refine AWl.p (R_callz (FnT.fr (implShrinkRefutation z19.1 z19.2.1 z19.2.2.1 z19.2.2.2.1 z19.2.2.2.2 (by have := hz19.1; omega) (by have := hz19.2; omega))) U (.no U) U (.cons (.tm U) U (.cons (.tm U) U (.cons (.tm U) U (.cons (.tm U) U (.cons (.tm U) U .nil)))))) U ?_
   refine AWl.p (R_movet U (.no U) U U fun _ => rfl) U ?_
   refine AWl.p (R_extract U (.no U) U U (fun _ => rfl) U) U ?_
   refine AWl.p (R_extract U (.no U) U U (fun _ => rfl) U) U ?_
   refine AWl.add (R_alloc 8 U U U in27 U U U) U ?_
   refine AWl.chgb (R_store_pb U U U (.tm U) (.tm U) U ty27 U U U (by kernel_rfl) U) ?_
   refine AWl.av ?_
   refine AWl.nil (AW.sr ?_)
   refine AWl.p (by exact R_load_pp U (.no U) U (.tm U) U ty27 U U) U ?_
   refine AWl.p (by exact R_load_pp U (.no U) U (.tm U) U ty30 U U) U ?_
   refine AWl.p (by exact R_load_pp U (.no U) U (.tm U) U ty30 U U) U ?_
   refine AWl.mv ?_
   refine AWl.mv ?_
   refine AWl.p (R_callz (FnT.fr (specShrinkRefutation z19.1 z19.2.1 z19.2.2.1 z19.2.2.2.1 z19.2.2.2.2 (by have := hz19.1; omega) (by have := hz19.2; omega))) U (.no U) U (.cons (.tm U) U (.cons (.tm U) U (.cons (.tm U) U (.cons (.tm U) U (.cons (.tm U) U .nil)))))) U ?_
   refine AWl.p (R_movet U (.no U) U U fun _ => rfl) U ?_
   refine AWl.p (R_extract U (.no U) U U (fun _ => rfl) U) U ?_
   refine AWl.p (R_extract U (.no U) U U (fun _ => rfl) U) U ?_
   refine AWl.add (R_alloc 10 U U U in27 U U U) U ?_
   refine AWl.chgb (R_store_pb U U U (.tm U) (.tm U) U ty27 U U U (by kernel_rfl) U) ?_
   refine AWl.av ?_
   refine AWl.nil (AW.seq ?_)
   refine AW.sr ?_
   refine AWl.mv ?_
   refine AWl.mv ?_
   refine AWl.p (R_neb U (.no U) U (.tm U) (.tm U) Tryz.underlying4) U ?_
   refine AWl.mv ?_
   refine AWl.p (by exact R_load_pp U (by exact .not1 U U U U) U (.tmp U (by exact fun _ => rfl)) U ty27 U U) U ?_
   refine AWl.p (by exact R_load_pp U (by exact .not1 U U U U) U (.tmp U (by exact fun _ => rfl)) U ty27 U U) U ?_
   refine AWl.p (R_callq U (by exact .not1 U U U U) U (.cons (.tmp U (by exact id)) U (.cons (.tmp U (by exact id)) U .nil)) fun hq => FnT.fr (implEqualGraphs' _ _)) U ?_
   refine AWl.p (R_not U (by exact .not1 U U U U) U (.tmp U (by exact id))) U ?_
   refine AWl.p (R_or U (.no U) U (.tm U) (.tmp U (by exact id))) U ?_
   refine AWl.mv ?_
   refine AWl.p (R_move U (by exact .not1 U U U U) U (.tmp U (by exact fun _ => rfl))) U ?_
   refine AWl.p (by exact R_load_pp U (by exact .not1 U U U U) U (.tmp U (by exact fun _ => rfl)) U ty27 U U) U ?_
   refine AWl.p (by exact R_load_pp U (by exact .not1 U U U U) U (.tmp U (by exact fun _ => rfl)) U ty30 U U) U ?_
   refine AWl.p (by exact R_load_pp U (by exact .not1 U U U U) U (.tmp U (by exact fun _ => rfl)) U ty30 U U) U ?_
   refine AWl.p (R_move U (by exact .not1 U U U U) U (.tmp U (by exact fun _ => rfl))) U ?_
   refine AWl.p (R_move U (by exact .not1 U U U U) U (.tmp U (by exact fun _ => rfl))) U ?_
   refine AWl.p (R_callq U (by exact .not1 U U U U) U (.cons (.tmp U (by exact id)) U (.cons (.tmp U (by exact id)) U (.cons (.tmp U (by exact id)) U (.cons (.tmp U (by exact id)) U (.cons (.tmp U (by exact id)) U .nil))))) fun hq => FnT.fr (implIsRefutation z19.1 z19.2.1 z19.2.2.1 z19.2.2.2.1 z19.2.2.2.2)) U ?_
   refine AWl.p (R_neb U (by exact .not1 U U U U) U (.tmp U (by exact id)) (.tmp U (by exact id)) Tryz.underlying4) U ?_
   refine AWl.p (R_or U (.no U) U (.tm U) (.tmp U (by exact id))) U ?_
   refine AWl.nil ?_
   refine AW.cond (.tm U) (fun h61 => ?_) (fun h61 => ?_)
   · exact absurd h61 (by simp [shrinkR_2])
   · skip
     try simp at h61
     refine AW.skip ?_
     refine AW.seq ?_
     refine AW.sr ?_
     refine AWl.mv ?_
     refine AWl.p (R_not U (.no U) U (.tm U)) U ?_
     refine AWl.nil ?_
     refine AW.cond (.tm U) (fun h63 => ?_) (fun h63 => ?_)
     · skip
       skip
       refine AW.sr ?_
       refine AWl.ac ?_
       refine AWl.nil (AW.ret ?_)
       refine Res.v U U ?_
       rfl
     · skip
       skip
       have hr : refut z19.1 z19.2.1 z19.2.2.1 z19.2.2.2.1 z19.2.2.2.2 = true := (by rw [← shrinkR_2]; simpa using h63)
       have hsl := shrinkR_small z19.1 z19.2.1 z19.2.2.1 z19.2.2.2.1 z19.2.2.2.2
       have hed := Nat.le_trans hsl.2 hz19.2
       refine AW.skip ?_
       refine AW.seq ?_
       refine AW.sr ?_
       refine AWl.ac ?_
       refine AWl.nil (AW.block ?_)
       refine AW.loop1 (fun (k : Nat) => (k ≤ (shrinkR z19.1 z19.2.1 z19.2.2.1 z19.2.2.2.1 z19.2.2.2.2).1.Edges.length) ∧ True) (fun (k : Nat) => ⟨_, [(12, (true, .a (.one (.t (.v (.int .i64 (k : Nat))))))), (4, _), (5, _), (6, _), (7, _), (8, _)], [(3, .box [.t (.sl 1 (z19.1.Values.map cInt)), .t (.sl 4 (z19.1.Edges.map cEdge))]), (4, .box [.t (.sl 4 (z19.2.1.Tokens.map cToken))]), (5, .box [.t (.sl 4 (z19.2.2.1.Tokens.map cToken))]), (8, .box [.t (.sl 1 ((shrinkR z19.1 z19.2.1 z19.2.2.1 z19.2.2.2.1 z19.2.2.2.2).1.Values.map cInt)), .t (.sl 4 ((shrinkR z19.1 z19.2.1 z19.2.2.1 z19.2.2.2.1 z19.2.2.2.2).1.Edges.map cEdge))])]⟩) (fun (k : Nat) => (shrinkR z19.1 z19.2.1 z19.2.2.1 z19.2.2.2.1 z19.2.2.2.2).1.Edges.length - k) (0) ⟨Nat.zero_le _, Y⟩ (Le.sub0 U ⟨U, U, U, U, U, U, Y⟩ ⟨U, U, U, U, Y⟩) ?_
       rintro k ⟨hk, he⟩
       refine AW.seq ?_
       refine AW.sr ?_
       refine AWl.mv ?_
       refine AWl.p (by exact R_fieldAddr_pp U (.no U) U (.tm U) fl27_1) U ?_
       refine AWl.p (by exact R_load_pp U (.no U) U (.tm U) U ty25 U U) U ?_
       refine AWl.p (by exact R_lenm U (.no U) U (.tm U) (by exact .t) Tryz.underlying25) U ?_
       refine AWl.p (R_lt U (.no U) U (.tm U) (.tm U)) U ?_
       refine AWl.nil ?_
       refine AW.cond (.tm U) (fun h68 => ?_) (fun h68 => ?_)
       · skip
         try simp at h68
         obtain ⟨e, he⟩ : ∃ ξ, (shrinkR z19.1 z19.2.1 z19.2.2.1 z19.2.2.2.1 z19.2.2.2.2).1.Edges[k]? = some ξ := ⟨_, List.getElem?_eq_getElem (by omega)⟩
         refine AW.skip ?_
         refine AW.seq ?_
         refine AW.block ?_
         refine AW.seq ?_
         refine AW.le (σ' := ⟨_, [(4, _), (5, _), (6, _), (7, _), (8, _), (12, _), (68, _)], [(3, _), (4, _), (5, _), (8, _)]⟩) (Le.sub0 U ⟨U, U, U, U, U, U, U, Y⟩ ⟨U, U, U, U, Y⟩) ?_
         apply AW.drawnH (N := 13) (k := 13) (Hs := [0, 1, 2, 3, 4, 5, 6]) (ms := [[], [7], [11], [7, 8], [7, 11], [7, 8, 9], [7, 8, 10], [7, 8, 11], [7, 8, 9, 10], [7, 8, 9, 11], [7, 8, 10, 11], [7, 8, 9, 10, 11], [7, 8, 9, 11, 12], [7, 8, 9, 10, 11, 12]]) (es := [(0, 7, 1), (0, 11, 2), (1, 8, 3), (1, 11, 4), (2, 7, 4), (3, 9, 5), (3, 10, 6), (3, 11, 7), (4, 8, 7), (5, 10, 8), (6, 9, 8), (5, 11, 9), (7, 9, 9), (6, 11, 10), (7, 10, 10), (8, 11, 11), (9, 10, 11), (10, 9, 11), (9, 12, 12), (11, 12, 13), (12, 10, 13)]) (σ1 := _) (SM := ⟨_, [(4, _), (5, _), (6, _), (7, _), (8, _), (12, _), (68, _), (72, _), (73, _), (74, _), (75, _), (76, _), (77, _), (78, _)], [(3, _), (4, _), (5, _), (8, _)]⟩)
         case hm => kernel_rfl
         case hB => kernel_rfl
         case hP => kernel_rfl
         case hL => kernel_rfl
         case hN => rfl
         case hpre =>
          apply PreOk.step (P := Tryz.prog) 0 rfl ((by exact R_load_pp rfl (.no rfl) rfl (.tm rfl) rfl ty27 rfl rfl)) (by exact HasV.load (x := .tmp 8) (.tm rfl) rfl ty27 rfl rfl) rfl rfl rfl
          apply PreOk.step (P := Tryz.prog) 1 rfl ((by exact R_fieldAddr_pp rfl (.no rfl) rfl (.tm rfl) fl27_1)) (by exact .pp) rfl rfl rfl
          apply PreOk.step (P := Tryz.prog) 2 rfl ((by exact R_load_pp rfl (.no rfl) rfl (.tm rfl) rfl ty25 rfl rfl)) (by exact HasV.load (x := .tmp 73) (.tm rfl) rfl ty25 rfl rfl) rfl rfl rfl
          apply PreOk.step (P := Tryz.prog) 3 rfl (R_move rfl (.no rfl) rfl (.tm rfl)) (by exact HasV.slot (t := 12) rfl) rfl rfl rfl
          apply PreOk.step (P := Tryz.prog) 4 rfl ((by exact R_indexAddr rfl (.no rfl) rfl (.tm rfl) (.tm rfl) Tryz.underlying25 ty39 (fun _ => ⟨by omega, (map_get he)⟩))) (by exact HasV.ix (x := .tmp 74) (.tm rfl) (y := .tmp 75) (.tm rfl) Tryz.underlying25 ty39 (fun _ => ⟨by omega, (map_get he)⟩)) rfl rfl rfl
          apply PreOk.step (P := Tryz.prog) 5 rfl ((by exact R_fieldAddr rfl (.no rfl) rfl (.tm rfl) fl39_0)) (by exact HasV.ad (x := .tmp 76) (.tm rfl)) rfl rfl rfl
          apply PreOk.step (P := Tryz.prog) 6 rfl ((by exact R_load rfl (.no rfl) rfl (.tm rfl) ty3 rfl rfl)) (by exact HasV.ld (x := .tmp 77) (.tm rfl) rfl rfl) rfl rfl rfl
          exact PreOk.nil
         case hS => exact Sup.sub0 rfl ⟨rfl, rfl, rfl, rfl, rfl, rfl, rfl, rfl, rfl, rfl, rfl, rfl, rfl, rfl, Y⟩ ⟨rfl, rfl, rfl, rfl, Y⟩
         case hH =>
          refine ⟨⟨_, _, _, rfl, rfl, rfl, fun σ' hs => (by exact R_load_pp rfl (.no rfl) (hd_sup hs rfl) (.tm (hs.slots _ _ rfl)) (hs.res _ _ rfl) ty27 rfl rfl)⟩, ?_⟩
          refine ⟨⟨_, _, _, rfl, rfl, rfl, fun σ' hs => (by exact R_fieldAddr_pp rfl (.no rfl) (hd_sup hs rfl) (.tm (hs.slots _ _ rfl)) fl27_1)⟩, ?_⟩
          refine ⟨⟨_, _, _, rfl, rfl, rfl, fun σ' hs => (by exact R_load_pp rfl (.no rfl) (hd_sup hs rfl) (.tm (hs.slots _ _ rfl)) (hs.res _ _ rfl) ty25 rfl rfl)⟩, ?_⟩
          refine ⟨⟨_, _, _, rfl, rfl, rfl, fun σ' hs => R_move rfl (.no rfl) (hd_sup hs rfl) (.tm (hs.slots _ _ rfl))⟩, ?_⟩
          refine ⟨⟨_, _, _, rfl, rfl, rfl, fun σ' hs => (by exact R_indexAddr rfl (.no rfl) (hd_sup hs rfl) (.tm (hs.slots _ _ rfl)) (.tm (hs.slots _ _ rfl)) Tryz.underlying25 ty39 (fun _ => ⟨by omega, (map_get he)⟩))⟩, ?_⟩
          refine ⟨⟨_, _, _, rfl, rfl, rfl, fun σ' hs => (by exact R_fieldAddr rfl (.no rfl) (hd_sup hs rfl) (.tm (hs.slots _ _ rfl)) fl39_0)⟩, ?_⟩
          refine ⟨⟨_, _, _, rfl, rfl, rfl, fun σ' hs => (by exact R_load rfl (.no rfl) (hd_sup hs rfl) (.tm (hs.slots _ _ rfl)) ty3 rfl rfl)⟩, ?_⟩
          trivial
         apply Dh.new0 (i := 7)
         case ha | ho | hb => rfl
         case hE =>
          intro w9  hp
          obtain _ := hp
          refine AWl.p (R_callz (FnT.fr (specDeleteEdge (shrinkR z19.1 z19.2.1 z19.2.2.1 z19.2.2.2.1 z19.2.2.2.2).1 e.ID (by have := hz19.1; omega) (by have := hz19.2; omega))) U (.no U) U (.cons (.tm U) U (.cons (.tm U) U .nil))) U ?_
          refine AWl.nil ?_
          exact EndQ.eq (Le.sub0 (σ' := ⟨_, [(4, _), (5, _), (6, _), (7, _), (8, _), (12, _), (68, _), (72, _), (73, _), (74, _), (75, _), (76, _), (77, _), (78, _), (79, _)], [(3, _), (4, _), (5, _), (8, _)]⟩) U ⟨U, U, U, U, U, U, U, U, U, U, U, U, U, U, U, Y⟩ ⟨U, U, U, U, Y⟩) U
         case hS => intros; exact Sup.sub0 rfl ⟨rfl, rfl, rfl, rfl, rfl, rfl, rfl, rfl, rfl, rfl, rfl, rfl, rfl, rfl, Y⟩ ⟨rfl, rfl, rfl, rfl, Y⟩
         apply Dh.new0 (i := 11)
         case ha | ho | hb => rfl
         case hE =>
          intro w9  hp
          obtain _ := hp
          refine AWl.add (R_alloc 13 U U U in27 U U U) U ?_
          refine AWl.nil ?_
          exact EndQ.eq (Le.sub0 (σ' := ⟨_, [(4, _), (5, _), (6, _), (7, _), (8, _), (12, _), (13, _), (68, _), (72, _), (73, _), (74, _), (75, _), (76, _), (77, _), (78, _)], [(3, _), (4, _), (5, _), (8, _), (13, _)]⟩) U ⟨U, U, U, U, U, U, U, U, U, U, U, U, U, U, U, Y⟩ ⟨U, U, U, U, U, Y⟩) U
         case hS => intros; exact Sup.sub0 rfl ⟨rfl, rfl, rfl, rfl, rfl, rfl, rfl, rfl, rfl, rfl, rfl, rfl, rfl, rfl, Y⟩ ⟨rfl, rfl, rfl, rfl, Y⟩
         apply Dh.new0 (i := 8)
         case ha | ho | hb => rfl
         case hE =>
          intro w9  hp
          obtain _ := hp
          refine AWl.p (R_movet U (.no U) U U fun _ => rfl) U ?_
          refine AWl.nil ?_
          exact EndQ.eq (Le.sub0 (σ' := ⟨_, [(4, _), (5, _), (6, _), (7, _), (8, _), (12, _), (68, _), (71, _), (72, _), (73, _), (74, _), (75, _), (76, _), (77, _), (78, _)], [(3, _), (4, _), (5, _), (8, _)]⟩) U ⟨U, U, U, U, U, U, U, U, U, U, U, U, U, U, U, Y⟩ ⟨U, U, U, U, Y⟩) U
         case hS => intros; exact Sup.sub0 rfl ⟨rfl, rfl, rfl, rfl, rfl, rfl, rfl, rfl, rfl, rfl, rfl, rfl, rfl, rfl, Y⟩ ⟨rfl, rfl, rfl, rfl, Y⟩
         apply Dh.new0 (i := 11)
         case ha | ho | hb => rfl
         case hE =>
          intro w9  hp
          obtain _ := hp
          refine AWl.add (R_alloc 13 U U U in27 U U U) U ?_
          refine AWl.nil ?_
          exact EndQ.eq (Le.sub0 (σ' := ⟨_, [(4, _), (5, _), (6, _), (7, _), (8, _), (12, _), (13, _), (68, _), (72, _), (73, _), (74, _), (75, _), (76, _), (77, _), (78, _), (79, _)], [(3, _), (4, _), (5, _), (8, _), (13, _)]⟩) U ⟨U, U, U, U, U, U, U, U, U, U, U, U, U, U, U, U, Y⟩ ⟨U, U, U, U, U, Y⟩) U
         case hS => intros; exact Sup.sub0 rfl ⟨rfl, rfl, rfl, rfl, rfl, rfl, rfl, rfl, rfl, rfl, rfl, rfl, rfl, rfl, Y⟩ ⟨rfl, rfl, rfl, rfl, Y⟩
         apply Dh.old0 (i := 7)
         case ha | ho | hb => rfl
         case hE =>
          intro w9  hp
          obtain _ := hp
          refine AWl.p (R_callz (FnT.fr (specDeleteEdge (shrinkR z19.1 z19.2.1 z19.2.2.1 z19.2.2.2.1 z19.2.2.2.2).1 e.ID (by have := hz19.1; omega) (by have := hz19.2; omega))) U (.no U) U (.cons (.tm U) U (.cons (.tm U) U .nil))) U ?_
          exact AWl.nil (Le.sub0 U ⟨U, U, U, U, U, U, U, U, U, U, U, U, U, U, U, U, Y⟩ ⟨U, U, U, U, U, Y⟩)
         apply Dh.new0 (i := 9)
         case ha | ho | hb => rfl
         case hE =>
          intro w9  hp
          obtain _ := hp
          refine AWl.p (R_extract U (.no U) U U (fun _ => rfl) U) U ?_
          refine AWl.nil ?_
          exact EndQ.eq (Le.sub0 (σ' := ⟨_, [(4, _), (5, _), (6, _), (7, _), (8, _), (12, _), (68, _), (71, _), (72, _), (73, _), (74, _), (75, _), (76, _), (77, _), (78, _), (80, _)], [(3, _), (4, _), (5, _), (8, _)]⟩) U ⟨U, U, U, U, U, U, U, U, U, U, U, U, U, U, U, U, Y⟩ ⟨U, U, U, U, Y⟩) U
         case hS => intros; exact Sup.sub0 rfl ⟨rfl, rfl, rfl, rfl, rfl, rfl, rfl, rfl, rfl, rfl, rfl, rfl, rfl, rfl, Y⟩ ⟨rfl, rfl, rfl, rfl, Y⟩
         apply Dh.new0 (i := 10)
         case ha | ho | hb => rfl
         case hE =>
          intro w9  hp
          obtain _ := hp
          refine AWl.p (R_extract U (.no U) U U (fun _ => rfl) U) U ?_
          refine AWl.nil ?_
          exact EndQ.eq (Le.sub0 (σ' := ⟨_, [(4, _), (5, _), (6, _), (7, _), (8, _), (12, _), (68, _), (71, _), (72, _), (73, _), (74, _), (75, _), (76, _), (77, _), (78, _), (81, _)], [(3, _), (4, _), (5, _), (8, _)]⟩) U ⟨U, U, U, U, U, U, U, U, U, U, U, U, U, U, U, U, Y⟩ ⟨U, U, U, U, Y⟩) U
         case hS => intros; exact Sup.sub0 rfl ⟨rfl, rfl, rfl, rfl, rfl, rfl, rfl, rfl, rfl, rfl, rfl, rfl, rfl, rfl, Y⟩ ⟨rfl, rfl, rfl, rfl, Y⟩
         apply Dh.new0 (i := 11)
         case ha | ho | hb => rfl
         case hE =>
          intro w9  hp
          obtain _ := hp
          refine AWl.add (R_alloc 13 U U U in27 U U U) U ?_
          refine AWl.nil ?_
          exact EndQ.eq (Le.sub0 (σ' := ⟨_, [(4, _), (5, _), (6, _), (7, _), (8, _), (12, _), (13, _), (68, _), (71, _), (72, _), (73, _), (74, _), (75, _), (76, _), (77, _), (78, _)], [(3, _), (4, _), (5, _), (8, _), (13, _)]⟩) U ⟨U, U, U, U, U, U, U, U, U, U, U, U, U, U, U, U, Y⟩ ⟨U, U, U, U, U, Y⟩) U
         case hS => intros; exact Sup.sub0 rfl ⟨rfl, rfl, rfl, rfl, rfl, rfl, rfl, rfl, rfl, rfl, rfl, rfl, rfl, rfl, Y⟩ ⟨rfl, rfl, rfl, rfl, Y⟩
         apply Dh.old0 (i := 8)
         case ha | ho | hb => rfl
         case hE =>
          intro w9  hp
          obtain _ := hp
          refine AWl.p (R_movet U (.no U) U U fun _ => rfl) U ?_
          exact AWl.nil (Le.sub0 U ⟨U, U, U, U, U, U, U, U, U, U, U, U, U, U, U, U, Y⟩ ⟨U, U, U, U, U, Y⟩)
         apply Dh.new0 (i := 10)
         case ha | ho | hb => rfl
         case hE =>
          intro w9  hp
          obtain _ := hp
          refine AWl.p (R_extract U (.no U) U U (fun _ => rfl) U) U ?_
          refine AWl.nil ?_
          exact EndQ.eq (Le.sub0 (σ' := ⟨_, [(4, _), (5, _), (6, _), (7, _), (8, _), (12, _), (68, _), (72, _), (73, _), (74, _), (75, _), (76, _), (77, _), (78, _), (80, _), (81, _)], [(3, _), (4, _), (5, _), (8, _)]⟩) U ⟨U, U, U, U, U, U, U, U, U, U, U, U, U, U, U, U, Y⟩ ⟨U, U, U, U, Y⟩) U
         case hS => intros; exact Sup.sub0 rfl ⟨rfl, rfl, rfl, rfl, rfl, rfl, rfl, rfl, rfl, rfl, rfl, rfl, rfl, rfl, Y⟩ ⟨rfl, rfl, rfl, rfl, Y⟩
         apply Dh.old0 (i := 9)
         case ha | ho | hb => rfl
         case hE =>
          intro w9  hp
          obtain _ := hp
          refine AWl.p (R_extract U (.no U) U U (fun _ => rfl) U) U ?_
          exact AWl.nil (Le.sub0 U ⟨U, U, U, U, U, U, U, U, U, U, U, U, U, U, U, U, Y⟩ ⟨U, U, U, U, Y⟩)
         apply Dh.new0 (i := 11)
         case ha | ho | hb => rfl
         case hE =>
          intro w9  hp
          obtain _ := hp
          refine AWl.add (R_alloc 13 U U U in27 U U U) U ?_
          refine AWl.nil ?_
          exact EndQ.eq (Le.sub0 (σ' := ⟨_, [(4, _), (5, _), (6, _), (7, _), (8, _), (12, _), (13, _), (68, _), (71, _), (72, _), (73, _), (74, _), (75, _), (76, _), (77, _), (78, _), (80, _)], [(3, _), (4, _), (5, _), (8, _), (13, _)]⟩) U ⟨U, U, U, U, U, U, U, U, U, U, U, U, U, U, U, U, U, Y⟩ ⟨U, U, U, U, U, Y⟩) U
         case hS => intros; exact Sup.sub0 rfl ⟨rfl, rfl, rfl, rfl, rfl, rfl, rfl, rfl, rfl, rfl, rfl, rfl, rfl, rfl, Y⟩ ⟨rfl, rfl, rfl, rfl, Y⟩
         apply Dh.old0 (i := 9)
         case ha | ho | hb => rfl
         case hE =>
          intro w9  hp
          obtain _ := hp
          refine AWl.p (R_extract U (.no U) U U (fun _ => rfl) U) U ?_
          exact AWl.nil (Le.sub0 U ⟨U, U, U, U, U, U, U, U, U, U, U, U, U, U, U, U, U, Y⟩ ⟨U, U, U, U, U, Y⟩)
         apply Dh.new0 (i := 11)
         case ha | ho | hb => rfl
         case hE =>
          intro w9  hp
          obtain _ := hp
          refine AWl.add (R_alloc 13 U U U in27 U U U) U ?_
          refine AWl.nil ?_
          exact EndQ.eq (Le.sub0 (σ' := ⟨_, [(4, _), (5, _), (6, _), (7, _), (8, _), (12, _), (13, _), (68, _), (71, _), (72, _), (73, _), (74, _), (75, _), (76, _), (77, _), (78, _), (81, _)], [(3, _), (4, _), (5, _), (8, _), (13, _)]⟩) U ⟨U, U, U, U, U, U, U, U, U, U, U, U, U, U, U, U, U, Y⟩ ⟨U, U, U, U, U, Y⟩) U
         case hS => intros; exact Sup.sub0 rfl ⟨rfl, rfl, rfl, rfl, rfl, rfl, rfl, rfl, rfl, rfl, rfl, rfl, rfl, rfl, Y⟩ ⟨rfl, rfl, rfl, rfl, Y⟩
         apply Dh.old0 (i := 10)
         case ha | ho | hb => rfl
         case hE =>
          intro w9  hp
          obtain _ := hp
          refine AWl.p (R_extract U (.no U) U U (fun _ => rfl) U) U ?_
          exact AWl.nil (Le.sub0 U ⟨U, U, U, U, U, U, U, U, U, U, U, U, U, U, U, U, U, Y⟩ ⟨U, U, U, U, U, Y⟩)
         apply Dh.new0 (i := 11)
         case ha | ho | hb => rfl
         case hE =>
          intro w9  hp
          obtain _ := hp
          refine AWl.add (R_alloc 13 U U U in27 U U U) U ?_
          refine AWl.nil ?_
          exact EndQ.eq (Le.sub0 (σ' := ⟨_, [(4, _), (5, _), (6, _), (7, _), (8, _), (12, _), (13, _), (68, _), (72, _), (73, _), (74, _), (75, _), (76, _), (77, _), (78, _), (80, _), (81, _)], [(3, _), (4, _), (5, _), (8, _), (13, _)]⟩) U ⟨U, U, U, U, U, U, U, U, U, U, U, U, U, U, U, U, U, Y⟩ ⟨U, U, U, U, U, Y⟩) U
         case hS => intros; exact Sup.sub0 rfl ⟨rfl, rfl, rfl, rfl, rfl, rfl, rfl, rfl, rfl, rfl, rfl, rfl, rfl, rfl, Y⟩ ⟨rfl, rfl, rfl, rfl, Y⟩
         apply Dh.old0 (i := 10)
         case ha | ho | hb => rfl
         case hE =>
          intro w9  hp
          obtain _ := hp
          refine AWl.p (R_extract U (.no U) U U (fun _ => rfl) U) U ?_
          exact AWl.nil (Le.sub0 U ⟨U, U, U, U, U, U, U, U, U, U, U, U, U, U, U, U, U, Y⟩ ⟨U, U, U, U, U, Y⟩)
         apply Dh.old0 (i := 9)
         case ha | ho | hb => rfl
         case hE =>
          intro w9  hp
          obtain _ := hp
          refine AWl.p (R_extract U (.no U) U U (fun _ => rfl) U) U ?_
          exact AWl.nil (Le.sub0 U ⟨U, U, U, U, U, U, U, U, U, U, U, U, U, U, U, U, U, Y⟩ ⟨U, U, U, U, U, Y⟩)
         apply Dh.new0 (i := 12)
         case ha | ho | hb => rfl
         case hE =>
          intro w9  hp
          obtain _ := hp
          refine AWl.chgb (R_store_pb U U U (.tm U) (.tm U) U ty27 U U U (by kernel_rfl) U) ?_
          refine AWl.nil ?_
          exact EndQ.eq (Le.sub0 (σ' := ⟨_, [(4, _), (5, _), (6, _), (7, _), (8, _), (12, _), (13, _), (68, _), (71, _), (72, _), (73, _), (74, _), (75, _), (76, _), (77, _), (78, _)], [(3, _), (4, _), (5, _), (8, _), (13, _)]⟩) U ⟨U, U, U, U, U, U, U, U, U, U, U, U, U, U, U, U, Y⟩ ⟨U, U, U, U, U, Y⟩) U
         case hS => intros; exact Sup.sub0 rfl ⟨rfl, rfl, rfl, rfl, rfl, rfl, rfl, rfl, rfl, rfl, rfl, rfl, rfl, rfl, Y⟩ ⟨rfl, rfl, rfl, rfl, Y⟩
         apply Dh.new0 (i := 12)
         case ha | ho | hb => rfl
         case hE =>
          intro w9  hp
          obtain _ := hp
          refine AWl.chgb (R_store_pb U U U (.tm U) (.tm U) U ty27 U U U (by kernel_rfl) U) ?_
          refine AWl.nil ?_
          exact EndQ.eq (Le.sub0 (σ' := ⟨_, [(4, _), (5, _), (6, _), (7, _), (8, _), (12, _), (13, _), (68, _), (72, _), (73, _), (74, _), (75, _), (76, _), (77, _), (78, _), (81, _)], [(3, _), (4, _), (5, _), (8, _), (13, _)]⟩) U ⟨U, U, U, U, U, U, U, U, U, U, U, U, U, U, U, U, Y⟩ ⟨U, U, U, U, U, Y⟩) U
         case hS => intros; exact Sup.sub0 rfl ⟨rfl, rfl, rfl, rfl, rfl, rfl, rfl, rfl, rfl, rfl, rfl, rfl, rfl, rfl, Y⟩ ⟨rfl, rfl, rfl, rfl, Y⟩
         apply Dh.old0 (i := 10)
         case ha | ho | hb => rfl
         case hE =>
          intro w9  hp
          obtain _ := hp
          refine AWl.p (R_extract U (.no U) U U (fun _ => rfl) U) U ?_
          exact AWl.nil (Le.sub0 U ⟨U, U, U, U, U, U, U, U, U, U, U, U, U, U, U, U, Y⟩ ⟨U, U, U, U, U, Y⟩)
         refine Dh.fin0 (k := 13) rfl ?_
         intro  hp
         obtain _ := hp
         refine AWl.av ?_
         refine AWl.nil (AW.sr ?_)
         refine AWl.p (by exact R_load_pp U (.no U) U (.tm U) U ty27 U U) U ?_
         refine AWl.p (by exact R_load_pp U (.no U) U (.tm U) U ty30 U U) U ?_
         refine AWl.p (by exact R_load_pp U (.no U) U (.tm U) U ty30 U U) U ?_
         refine AWl.mv ?_
         refine AWl.mv ?_
         refine AWl.p (R_callz (FnT.fr (implIsRefutation (delG (shrinkR z19.1 z19.2.1 z19.2.2.1 z19.2.2.2.1 z19.2.2.2.2).1 e.ID).1 z19.2.1 z19.2.2.1 z19.2.2.2.1 z19.2.2.2.2)) U (.no U) U (.cons (.tm U) U (.cons (.tm U) U (.cons (.tm U) U (.cons (.tm U) U (.cons (.tm U) U .nil)))))) U ?_
         refine AWl.nil ?_
         refine AW.cond (.tm U) (fun h87 => ?_) (fun h87 => ?_)
         · exact absurd h87 (by simp [shrink_min hr (List.mem_of_getElem? he)])
         · skip
           try simp at h87
           refine AW.skip ?_
           refine AW.region ?_
           refine AWl.mv ?_
           refine AWl.p (R_add U (.no U) U (.tm U) (.const U) (fun _ => by omega)) U ?_
           refine AWl.av ?_
           refine AWl.nil ?_
           repeat (with_reducible refine BlockQ.nor ?_)
           refine Round1.next (k + 1) ⟨by omega, Y⟩ (by omega) (Le.sub0 rfl ⟨rfl, rfl, rfl, rfl, rfl, rfl, Y⟩ ⟨(by rfl), (by rfl), (by rfl), (by rfl), Y⟩)
       · skip
         try simp at h68
         refine AW.exit ?_
         refine AW.sr ?_
         refine AWl.p (by exact R_load_pp U (.no U) U (.tm U) U ty27 U U) U ?_
         refine AWl.p (by exact R_load_pp U (.no U) U (.tm U) U ty30 U U) U ?_
         refine AWl.p (by exact R_load_pp U (.no U) U (.tm U) U ty30 U U) U ?_
         refine AWl.mv ?_
         refine AWl.mv ?_
         refine AWl.p (R_callz (FnT.fr (implIsRefutation (shrinkR z19.1 z19.2.1 z19.2.2.1 z19.2.2.2.1 z19.2.2.2.2).1 z19.2.1 z19.2.2.1 z19.2.2.2.1 z19.2.2.2.2)) U (.no U) U (.cons (.tm U) U (.cons (.tm U) U (.cons (.tm U) U (.cons (.tm U) U (.cons (.tm U) U .nil)))))) U ?_
         refine AWl.av ?_
         refine AWl.nil (AW.ret ?_)
         refine Res.v U U ?_
         exact congrArg Value.bool (shrink_ref hr)
namespace LFnShrink
theorem opensByte : OpensT cByte Tryz.prog 5 := opensTByte Tryz.underlying5
theorem opensByteS : OpensT (fun (l : List (Fin 256)) => [T.sl 1 (l.map cByte)]) Tryz.prog 22 := opensTSlice (c := cByte) Tryz.underlying22 (by kernel_rfl) (by decide) (fun _ => rfl) opensByte
theorem ownFnShrink : ownKnob Tryz.prog.godebug = none := by kernel_rfl
theorem laidOutFnShrink : laidOutB Tryz.prog = true := by kernel_rfl
set_option maxRecDepth 100000 in
theorem liftedFnShrink (os : Os) (started : os.Started) (H : Type) (enc : TypeId × Value → H) :
 ReturnsInHanded {} Tryz.checked os 3 .any (Rows.fnShrinkSpec.pre6 enc Tryz.prog Tryz.f3 Rows.fnShrinkRow.domain false) (Rows.fnShrinkSpec.post enc Tryz.prog Tryz.f3 false true false false) := by
 refine returnsInHanded_of_change_shaped (C := Tryz.checked) ownFnShrink started (by kernel_rfl) Tryz.func3
  (ChangeSpec.witness6 (enc := enc) (C := Tryz.checked) false ⟨#[], #[.slice none 0 0], []⟩ 8 (by kernel_rfl) (by kernel_rfl) (by kernel_rfl) (by kernel_rfl)) ?_
 intro W base args ds gs before hval0 hW hcnd _ hsh _
 have hgood : Go.Q.Good W [] := Go.Q.good_of ⟨hsh, trivial, trivial⟩
 have hval : ∀ (j : Nat) t v, Tryz.f3.params[j]? = some t → args[j]? = some v → Value.okWide Tryz.prog W .any base t v := hval0
 have hW' := hW
 obtain ⟨p, q, hA0, hV, rfl, hfz, hnd⟩ := hW
 have hA : DataW.TrodAll enc Tryz.prog W 0 (fun _ => true) true Tryz.f3.params.toList args.toList ds p := hA0
 rw [Tryz.params3] at hA hval
 obtain ⟨v0, vs0, d0, ds0, p0, q0, hargs, rfl, rfl, h0, r0⟩ := trodAll_cons hA
 obtain ⟨rfl, rfl, rfl⟩ := trodAll_nil r0
 obtain rfl : args = #[v0] := by cases args; simp_all
 obtain ⟨rfl, rfl⟩ := trodVars_none hV
 obtain ⟨a0, len0, cap0, rfl⟩ := okWide_slice Tryz.underlying22 (hval 0 22 v0 rfl rfl)
 have k0 := h0
 have lt0 : ∀ x ∈ p0, x.block < W.heap.size := by obtain ⟨m, hm⟩ := k0; exact DataW.trod_lt m _ _ _ hm
 obtain ⟨x0, F0, hs0⟩ := OpensT.vl opensByteS h0
 clear hA0 hval0
 refine ((lawFnShrink _ (fin_range x0)).2 W _ _ hgood ⟨_, _, _, _, rfl, (show V0r false W (.one _) _ _ from C_fin (Cs_one_inv hs0)), ⟨rfl, rfl⟩, rfl⟩).mono fun e W' ⟨v, F, he, hv, _, _, bel⟩ => ?_
 have hv2 : v = .bool true := by unfold Vr V0r C at hv; exact hv.1
 subst hv2
 subst he
 exact ⟨_, rfl, _, _, _, [], _, [], hW', trodAll_mk1 (shut_bool Tryz.underlying4 _), (trodAll_cons_mk (Below.trod laidOutFnShrink (by kernel_rfl) (of_decide_eq_true (by kernel_rfl)) k0 bel lt0) trodAll_mk0), rfl, Below.frame bel _, fun h => by cases h⟩
theorem jfa : (Rows.fnShrinkRow.inPlace == Tryz.prog.inPlace 3) = true := by kernel_rfl
theorem jfb : (Rows.fnShrinkRow.unfollowed == Tryz.prog.unfollowed 3) = true := by kernel_rfl
theorem jfc : (Rows.fnShrinkRow.recurses == Tryz.prog.recurses 3) = true := by kernel_rfl
theorem jfd : (Rows.fnShrinkRow.named == Tryz.prog.varsNamed 3) = true := by kernel_rfl
theorem jfe : mapsRowed Tryz.prog = true := by kernel_rfl
theorem jff : joinedFacts Tryz.prog 3 Tryz.f3 Rows.fnShrinkSpec Rows.fnShrinkRow = true := by
 unfold joinedFacts
 rw [laidOutFnShrink, jfa, jfb, jfc, jfd, jfe]
 kernel_rfl
set_option maxRecDepth 100000 in
theorem provedFnShrink : Rows.FnShrinkSaid :=
 OpenClaim.holds_of_wide 3 Tryz.f3 rfl rfl rfl rfl rfl rfl rfl ⟨rfl, rfl, rfl, rfl, rfl⟩ rfl rfl rfl rfl rfl (by kernel_rfl) Tryz.func3 jff
  (of_decide_eq_true (by kernel_rfl)) (by unfold Func.isWrapper; first | (rw [if_pos (by decide +kernel)]; kernel_rfl) | (rw [if_neg (by decide +kernel)]; exact ⟨rfl, rfl⟩))
  (fun os started H enc _ => liftedFnShrink os started H enc)
#print axioms provedFnShrink
end LFnShrink
end Go.Proofs.YtbkhopfpejhnlaaGreat
