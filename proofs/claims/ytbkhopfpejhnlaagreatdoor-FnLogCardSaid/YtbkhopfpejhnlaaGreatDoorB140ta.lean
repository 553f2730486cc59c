import Derived.Test.YtbkhopfpejhnlaaGreatDoorB138ta
import Derived.Test.YtbkhopfpejhnlaaGreatDoorB139ta
import Derived.Test.YtbkhopfpejhnlaaGreatDoorB86ta
import Derived.Test.YtbkhopfpejhnlaaGreatDoorB137ta
set_option linter.unusedVariables false
set_option linter.unusedSimpArgs false
set_option maxHeartbeats 1000000
set_option maxRecDepth 100000
namespace Go.Q
open Go.RowKit Go.D
theorem lastV_le (h : THistory) : 0 ≤ lastV h ∧ lastV h ≤ 999 := by
 unfold lastV
 split
 · rename_i hv; have := validH_r hv; omega
 · omega
end Go.Q
namespace Go.Proofs.YtbkhopfpejhnlaaGreatDoor
open Go.RowKit Go.Q Go.D
set_option maxRecDepth 100000 in
theorem specl7History : FrD Tryz.prog 71 [] goodH (fun h => .a (.agg (cHistory h))) := by
 refine FrD.walk Tryz.func71 rfl (by kernel_rfl) Tryz.ntmps71 rfl (fun g => rfl) fun w0 g => ?_
 refine AW.sr ?_
 refine AWl.add (R_alloc 2 U U U in102 U U U) U ?_
 refine AWl.nil (AW.sr ?_)
 refine AWl.mv ?_
 refine AWl.opE (R_calld 800 (specl3GraphV) U U U (.tm U) U U .nil (fun _ => rfl) (fun _ => rfl)) ?_
 rintro _ ⟨z8, hz8, rfl⟩
 try dsimp only at hz8
 refine AWl.mv ?_
 refine AWl.opE (R_calld 1000 (specl1Below _) U U U (.tm U) U U (.cons (.const U) U .nil) (fun _ => rfl) (fun _ => rfl)) ?_
 rintro _ ⟨z10, hz10, rfl⟩
 try dsimp only at hz10
 refine AWl.p (R_add U (.no U) U (.const U) (.tm U) (fun _ => by omega)) U ?_
 refine AWl.opE (R_callX 1200 (specNewHistory z8 (1 + z10) hz8 (by omega) (by omega)) U U U (.cons (.tm U) U (.cons (.tm U) U .nil)) U) ?_
 rintro _ ⟨z12, hz12, rfl⟩
 try dsimp only at hz12
 refine AWl.p (R_movet U (.no U) U U fun _ => rfl) U ?_
 refine AWl.p (R_extract U (.no U) U U (fun _ => rfl) U) U ?_
 refine AWl.p (R_extract U (.no U) U U (fun _ => rfl) U) U ?_
 refine AWl.add (R_alloc 3 U U U in102 U U U) U ?_
 refine AWl.chgb (R_store_pb U U U (.tm U) (.tm U) U ty102 U U U (by kernel_rfl) U) ?_
 refine AWl.le (σ' := ⟨_, [(0, _), (2, _), (3, _), (14, _)], [(888888, _), (2, _), (800, _), (801, _), (1200, _), (3, _)]⟩) (Le.sub0 U ⟨U, U, U, U, Y⟩ ⟨U, U, U, U, U, U, Y⟩) ?_
 refine AWl.av ?_
 refine AWl.nil (AW.seq ?_)
 refine AW.sr ?_
 refine AWl.mv ?_
 refine AWl.mv ?_
 refine AWl.absadd (R_list (xs := [.const (.int .i64 (3)), .const (.int .i64 (5)), .const (.int .i64 (10))]) 17 U U U (.cons (.const U) U U (.cons (.const U) U U (.cons (.const U) U U .nil))) Tryz.underlying55 in3 U U U U) U ?_
 refine AWl.opE (R_calld 1800 (specl1PickInt [3, 5, 10] (by decide)) U U U (.tm U) U U (.cons (.tm U) U .nil) (fun _ => rfl) (fun _ => rfl)) ?_
 rintro _ ⟨z18, hz18, rfl⟩
 try dsimp only at hz18
 refine AWl.opE (R_calld 1900 (specl1Below _) U U U (.tm U) U U (.cons (.tm U) U .nil) (fun _ => rfl) (fun _ => rfl)) ?_
 rintro _ ⟨z19, hz19, rfl⟩
 try dsimp only at hz19
 refine AWl.av ?_
 refine AWl.nil (AW.block ?_)
 refine AW.loop2 (fun (n : Int) (H : THistory) => (n ≤ 10 ∧ goodH H) ∧ True) (fun (n : Int) (H : THistory) => ⟨_, [(5, (true, .a (.one (.t (.v (.int .i64 n)))))), (0, _), (2, _), (3, _)], [(2, .box [.t (.v (.int .i64 0)), .t (.v (.slice none 0 0))]), (3, .box [.t (.v (.int .i64 H.First)), .vw 1200 (.sl 2 (H.Graphs.map cGraph))]), (1200, .opq), (888888, .cur g)]⟩) (fun (n : Int) (H : THistory) => n.toNat) (z19) (z12.1) ⟨⟨by simp at hz18 hz19; omega, hz12⟩, Y⟩ (Le.sub0 U ⟨U, U, U, U, Y⟩ ⟨U, U, U, U, Y⟩) ?_
 rintro n H ⟨hk, he⟩
 refine AW.seq ?_
 refine AW.sr ?_
 refine AWl.mv ?_
 refine AWl.p (R_gt U (.no U) U (.tm U) (.const U)) U ?_
 refine AWl.nil ?_
 refine AW.cond (.tm U) (fun h21 => ?_) (fun h21 => ?_)
 · skip
   try simp at h21
   obtain ⟨x, hx⟩ : ∃ ξ, H.Graphs[((H.Graphs.length : Int) - 1).toNat]? = some ξ := ⟨_, List.getElem?_eq_getElem (by have := hk.2.1; omega)⟩
   have hb8 := hk.2.2.1
   refine AW.skip ?_
   refine AW.seq ?_
   refine AW.block ?_
   refine AW.le (σ' := ⟨_, [(0, _), (2, _), (3, _), (5, _), (20, _), (21, _)], [(2, _), (3, _), (1200, _), (888888, _)]⟩) (Le.sub0 U ⟨U, U, U, U, U, U, Y⟩ ⟨U, U, U, U, Y⟩) ?_
   apply AW.drawnH (N := 16) (k := 28) (Hs := [1, 2, 4]) (ms := [[], [0], [3], [5], [0, 3], [0, 5], [3, 5], [5, 6], [0, 3, 5], [0, 5, 6], [3, 5, 6], [5, 6, 7], [0, 3, 5, 6], [0, 5, 6, 7], [3, 5, 6, 7], [0, 3, 5, 6, 7], [3, 5, 6, 7, 8], [0, 3, 5, 6, 7, 8], [3, 5, 6, 7, 8, 9], [0, 3, 5, 6, 7, 8, 9], [3, 5, 6, 7, 8, 9, 10], [0, 3, 5, 6, 7, 8, 9, 10], [0, 3, 5, 6, 7, 8, 9, 10, 11], [0, 3, 5, 6, 7, 8, 9, 10, 11, 12], [0, 3, 5, 6, 7, 8, 9, 10, 11, 12, 13], [0, 3, 5, 6, 7, 8, 9, 10, 11, 12, 14], [0, 3, 5, 6, 7, 8, 9, 10, 11, 12, 13, 14], [0, 3, 5, 6, 7, 8, 9, 10, 11, 12, 13, 15], [0, 3, 5, 6, 7, 8, 9, 10, 11, 12, 13, 14, 15]]) (es := [(0, 0, 1), (0, 3, 2), (0, 5, 3), (1, 3, 4), (2, 0, 4), (1, 5, 5), (3, 0, 5), (2, 5, 6), (3, 3, 6), (3, 6, 7), (4, 5, 8), (5, 3, 8), (6, 0, 8), (5, 6, 9), (7, 0, 9), (6, 6, 10), (7, 3, 10), (7, 7, 11), (8, 6, 12), (9, 3, 12), (10, 0, 12), (9, 7, 13), (11, 0, 13), (10, 7, 14), (11, 3, 14), (12, 7, 15), (13, 3, 15), (14, 0, 15), (14, 8, 16), (15, 8, 17), (16, 0, 17), (16, 9, 18), (17, 9, 19), (18, 0, 19), (18, 10, 20), (19, 10, 21), (20, 0, 21), (21, 11, 22), (22, 12, 23), (23, 13, 24), (23, 14, 25), (24, 14, 26), (25, 13, 26), (24, 15, 27), (26, 15, 28), (27, 14, 28)]) (σ1 := _) (SM := ⟨_, [(0, _), (2, _), (3, _), (5, _), (20, _), (21, _), (26, _), (27, _), (29, _)], [(2, _), (1200, _), (888888, _)]⟩)
   case hm => kernel_rfl
   case hB => kernel_rfl
   case hP => kernel_rfl
   case hL => kernel_rfl
   case hN => rfl
   case hpre =>
    apply PreOk.step (P := Tryz.prog) 1 rfl (R_move rfl (.no rfl) rfl (.tm rfl)) (by exact HasV.slot (t := 0) rfl) rfl rfl rfl
    apply PreOk.step (P := Tryz.prog) 2 rfl ((by exact R_fieldAddr_pp rfl (.no rfl) rfl (.tm rfl) fl102_1)) (by exact .pp) rfl rfl rfl
    apply PreOk.step (P := Tryz.prog) 4 rfl ((by exact R_fieldAddr_pp rfl (.no rfl) rfl (.tm rfl) fl102_1)) (by exact .pp) rfl rfl rfl
    exact PreOk.nil
   case hS => exact Sup.sub0 rfl ⟨rfl, rfl, rfl, rfl, rfl, rfl, rfl, rfl, rfl, Y⟩ ⟨rfl, rfl, rfl, Y⟩
   case hH =>
    refine ⟨⟨_, _, _, rfl, rfl, rfl, fun σ' hs => R_move rfl (.no rfl) (hd_sup hs rfl) (.tm (hs.slots _ _ rfl))⟩, ?_⟩
    refine ⟨⟨_, _, _, rfl, rfl, rfl, fun σ' hs => (by exact R_fieldAddr_pp rfl (.no rfl) (hd_sup hs rfl) (.tm (hs.slots _ _ rfl)) fl102_1)⟩, ?_⟩
    refine ⟨⟨_, _, _, rfl, rfl, rfl, fun σ' hs => (by exact R_fieldAddr_pp rfl (.no rfl) (hd_sup hs rfl) (.tm (hs.slots _ _ rfl)) fl102_1)⟩, ?_⟩
    trivial
   apply Dh.new0 (i := 0)
   case ha | ho | hb => rfl
   case hE =>
    intro w9  hp
    obtain _ := hp
    refine AWl.p (by exact R_load_pp U (.no U) U (.tm U) U ty102 U U) U ?_
    refine AWl.nil ?_
    exact EndQ.eq (Le.sub0 (σ' := ⟨_, [(0, _), (2, _), (3, _), (5, _), (20, _), (21, _), (25, _), (26, _), (27, _), (29, _)], [(2, _), (3, _), (1200, _), (888888, _)]⟩) U ⟨U, U, U, U, U, U, U, U, U, U, Y⟩ ⟨U, U, U, U, Y⟩) U
   case hS => intros; exact Sup.sub0 rfl ⟨rfl, rfl, rfl, rfl, rfl, rfl, rfl, rfl, rfl, Y⟩ ⟨rfl, rfl, rfl, Y⟩
   apply Dh.new0 (i := 3)
   case ha | ho | hb => rfl
   case hE =>
    intro w9  hp
    obtain _ := hp
    refine AWl.p (by exact R_load_pp U (.no U) U (.tm U) U ty100 U U) U ?_
    refine AWl.nil ?_
    exact EndQ.eq (Le.sub0 (σ' := ⟨_, [(0, _), (2, _), (3, _), (5, _), (20, _), (21, _), (26, _), (27, _), (28, _), (29, _)], [(2, _), (3, _), (1200, _), (888888, _)]⟩) U ⟨U, U, U, U, U, U, U, U, U, U, Y⟩ ⟨U, U, U, U, Y⟩) U
   case hS => intros; exact Sup.sub0 rfl ⟨rfl, rfl, rfl, rfl, rfl, rfl, rfl, rfl, rfl, Y⟩ ⟨rfl, rfl, rfl, Y⟩
   apply Dh.new0 (i := 5)
   case ha | ho | hb => rfl
   case hE =>
    intro w9  hp
    obtain _ := hp
    refine AWl.p (by exact R_load_pp U (.no U) U (.tm U) U ty100 U U) U ?_
    refine AWl.nil ?_
    exact EndQ.eq (Le.sub0 (σ' := ⟨_, [(0, _), (2, _), (3, _), (5, _), (20, _), (21, _), (26, _), (27, _), (29, _), (30, _)], [(2, _), (3, _), (1200, _), (888888, _)]⟩) U ⟨U, U, U, U, U, U, U, U, U, U, Y⟩ ⟨U, U, U, U, Y⟩) U
   case hS => intros; exact Sup.sub0 rfl ⟨rfl, rfl, rfl, rfl, rfl, rfl, rfl, rfl, rfl, Y⟩ ⟨rfl, rfl, rfl, Y⟩
   apply Dh.new0 (i := 3)
   case ha | ho | hb => rfl
   case hE =>
    intro w9  hp
    obtain _ := hp
    refine AWl.p (by exact R_load_pp U (.no U) U (.tm U) U ty100 U U) U ?_
    refine AWl.nil ?_
    exact EndQ.eq (Le.sub0 (σ' := ⟨_, [(0, _), (2, _), (3, _), (5, _), (20, _), (21, _), (25, _), (26, _), (27, _), (28, _), (29, _)], [(2, _), (3, _), (1200, _), (888888, _)]⟩) U ⟨U, U, U, U, U, U, U, U, U, U, U, Y⟩ ⟨U, U, U, U, Y⟩) U
   case hS => intros; exact Sup.sub0 rfl ⟨rfl, rfl, rfl, rfl, rfl, rfl, rfl, rfl, rfl, Y⟩ ⟨rfl, rfl, rfl, Y⟩
   apply Dh.old0 (i := 0)
   case ha | ho | hb => rfl
   case hE =>
    intro w9  hp
    obtain _ := hp
    refine AWl.p (by exact R_load_pp U (.no U) U (.tm U) U ty102 U U) U ?_
    exact AWl.nil (Le.sub0 U ⟨U, U, U, U, U, U, U, U, U, U, U, Y⟩ ⟨U, U, U, U, Y⟩)
   apply Dh.new0 (i := 5)
   case ha | ho | hb => rfl
   case hE =>
    intro w9  hp
    obtain _ := hp
    refine AWl.p (by exact R_load_pp U (.no U) U (.tm U) U ty100 U U) U ?_
    refine AWl.nil ?_
    exact EndQ.eq (Le.sub0 (σ' := ⟨_, [(0, _), (2, _), (3, _), (5, _), (20, _), (21, _), (25, _), (26, _), (27, _), (29, _), (30, _)], [(2, _), (3, _), (1200, _), (888888, _)]⟩) U ⟨U, U, U, U, U, U, U, U, U, U, U, Y⟩ ⟨U, U, U, U, Y⟩) U
   case hS => intros; exact Sup.sub0 rfl ⟨rfl, rfl, rfl, rfl, rfl, rfl, rfl, rfl, rfl, Y⟩ ⟨rfl, rfl, rfl, Y⟩
   apply Dh.old0 (i := 0)
   case ha | ho | hb => rfl
   case hE =>
    intro w9  hp
    obtain _ := hp
    refine AWl.p (by exact R_load_pp U (.no U) U (.tm U) U ty102 U U) U ?_
    exact AWl.nil (Le.sub0 U ⟨U, U, U, U, U, U, U, U, U, U, U, Y⟩ ⟨U, U, U, U, Y⟩)
   apply Dh.new0 (i := 5)
   case ha | ho | hb => rfl
   case hE =>
    intro w9  hp
    obtain _ := hp
    refine AWl.p (by exact R_load_pp U (.no U) U (.tm U) U ty100 U U) U ?_
    refine AWl.nil ?_
    exact EndQ.eq (Le.sub0 (σ' := ⟨_, [(0, _), (2, _), (3, _), (5, _), (20, _), (21, _), (26, _), (27, _), (28, _), (29, _), (30, _)], [(2, _), (3, _), (1200, _), (888888, _)]⟩) U ⟨U, U, U, U, U, U, U, U, U, U, U, Y⟩ ⟨U, U, U, U, Y⟩) U
   case hS => intros; exact Sup.sub0 rfl ⟨rfl, rfl, rfl, rfl, rfl, rfl, rfl, rfl, rfl, Y⟩ ⟨rfl, rfl, rfl, Y⟩
   apply Dh.old0 (i := 3)
   case ha | ho | hb => rfl
   case hE =>
    intro w9  hp
    obtain _ := hp
    refine AWl.p (by exact R_load_pp U (.no U) U (.tm U) U ty100 U U) U ?_
    exact AWl.nil (Le.sub0 U ⟨U, U, U, U, U, U, U, U, U, U, U, Y⟩ ⟨U, U, U, U, Y⟩)
   apply Dh.new0 (i := 6)
   case ha | ho | hb => rfl
   case hE =>
    intro w9  hp
    obtain _ := hp
    refine AWl.p (by exact R_lenm U (.no U) U (.tm U) (by exact .vw) Tryz.underlying100) U ?_
    refine AWl.nil ?_
    exact EndQ.eq (Le.sub0 (σ' := ⟨_, [(0, _), (2, _), (3, _), (5, _), (20, _), (21, _), (26, _), (27, _), (29, _), (31, _)], [(2, _), (3, _), (1200, _), (888888, _)]⟩) U ⟨U, U, U, U, U, U, U, U, U, U, Y⟩ ⟨U, U, U, U, Y⟩) U
   case hS => intros; exact Sup.sub0 rfl ⟨rfl, rfl, rfl, rfl, rfl, rfl, rfl, rfl, rfl, Y⟩ ⟨rfl, rfl, rfl, Y⟩
   apply Dh.new0 (i := 5)
   case ha | ho | hb => rfl
   case hE =>
    intro w9  hp
    obtain _ := hp
    refine AWl.p (by exact R_load_pp U (.no U) U (.tm U) U ty100 U U) U ?_
    refine AWl.nil ?_
    exact EndQ.eq (Le.sub0 (σ' := ⟨_, [(0, _), (2, _), (3, _), (5, _), (20, _), (21, _), (25, _), (26, _), (27, _), (28, _), (29, _), (30, _)], [(2, _), (3, _), (1200, _), (888888, _)]⟩) U ⟨U, U, U, U, U, U, U, U, U, U, U, U, Y⟩ ⟨U, U, U, U, Y⟩) U
   case hS => intros; exact Sup.sub0 rfl ⟨rfl, rfl, rfl, rfl, rfl, rfl, rfl, rfl, rfl, Y⟩ ⟨rfl, rfl, rfl, Y⟩
   apply Dh.old0 (i := 3)
   case ha | ho | hb => rfl
   case hE =>
    intro w9  hp
    obtain _ := hp
    refine AWl.p (by exact R_load_pp U (.no U) U (.tm U) U ty100 U U) U ?_
    exact AWl.nil (Le.sub0 U ⟨U, U, U, U, U, U, U, U, U, U, U, U, Y⟩ ⟨U, U, U, U, Y⟩)
   apply Dh.old0 (i := 0)
   case ha | ho | hb => rfl
   case hE =>
    intro w9  hp
    obtain _ := hp
    refine AWl.p (by exact R_load_pp U (.no U) U (.tm U) U ty102 U U) U ?_
    exact AWl.nil (Le.sub0 U ⟨U, U, U, U, U, U, U, U, U, U, U, U, Y⟩ ⟨U, U, U, U, Y⟩)
   apply Dh.new0 (i := 6)
   case ha | ho | hb => rfl
   case hE =>
    intro w9  hp
    obtain _ := hp
    refine AWl.p (by exact R_lenm U (.no U) U (.tm U) (by exact .vw) Tryz.underlying100) U ?_
    refine AWl.nil ?_
    exact EndQ.eq (Le.sub0 (σ' := ⟨_, [(0, _), (2, _), (3, _), (5, _), (20, _), (21, _), (25, _), (26, _), (27, _), (29, _), (31, _)], [(2, _), (3, _), (1200, _), (888888, _)]⟩) U ⟨U, U, U, U, U, U, U, U, U, U, U, Y⟩ ⟨U, U, U, U, Y⟩) U
   case hS => intros; exact Sup.sub0 rfl ⟨rfl, rfl, rfl, rfl, rfl, rfl, rfl, rfl, rfl, Y⟩ ⟨rfl, rfl, rfl, Y⟩
   apply Dh.old0 (i := 0)
   case ha | ho | hb => rfl
   case hE =>
    intro w9  hp
    obtain _ := hp
    refine AWl.p (by exact R_load_pp U (.no U) U (.tm U) U ty102 U U) U ?_
    exact AWl.nil (Le.sub0 U ⟨U, U, U, U, U, U, U, U, U, U, U, Y⟩ ⟨U, U, U, U, Y⟩)
   apply Dh.new0 (i := 6)
   case ha | ho | hb => rfl
   case hE =>
    intro w9  hp
    obtain _ := hp
    refine AWl.p (by exact R_lenm U (.no U) U (.tm U) (by exact .vw) Tryz.underlying100) U ?_
    refine AWl.nil ?_
    exact EndQ.eq (Le.sub0 (σ' := ⟨_, [(0, _), (2, _), (3, _), (5, _), (20, _), (21, _), (26, _), (27, _), (28, _), (29, _), (31, _)], [(2, _), (3, _), (1200, _), (888888, _)]⟩) U ⟨U, U, U, U, U, U, U, U, U, U, U, Y⟩ ⟨U, U, U, U, Y⟩) U
   case hS => intros; exact Sup.sub0 rfl ⟨rfl, rfl, rfl, rfl, rfl, rfl, rfl, rfl, rfl, Y⟩ ⟨rfl, rfl, rfl, Y⟩
   apply Dh.old0 (i := 3)
   case ha | ho | hb => rfl
   case hE =>
    intro w9  hp
    obtain _ := hp
    refine AWl.p (by exact R_load_pp U (.no U) U (.tm U) U ty100 U U) U ?_
    exact AWl.nil (Le.sub0 U ⟨U, U, U, U, U, U, U, U, U, U, U, Y⟩ ⟨U, U, U, U, Y⟩)
   apply Dh.new0 (i := 7)
   case ha | ho | hb => rfl
   case hE =>
    intro w9  hp
    obtain _ := hp
    refine AWl.p (R_sub U (.no U) U (.tm U) (.const U) (fun _ => by omega)) U ?_
    refine AWl.nil ?_
    exact EndQ.eq (Le.sub0 (σ' := ⟨_, [(0, _), (2, _), (3, _), (5, _), (20, _), (21, _), (26, _), (27, _), (29, _), (32, _)], [(2, _), (3, _), (1200, _), (888888, _)]⟩) U ⟨U, U, U, U, U, U, U, U, U, U, Y⟩ ⟨U, U, U, U, Y⟩) U
   case hS => intros; exact Sup.sub0 rfl ⟨rfl, rfl, rfl, rfl, rfl, rfl, rfl, rfl, rfl, Y⟩ ⟨rfl, rfl, rfl, Y⟩
   apply Dh.new0 (i := 6)
   case ha | ho | hb => rfl
   case hE =>
    intro w9  hp
    obtain _ := hp
    refine AWl.p (by exact R_lenm U (.no U) U (.tm U) (by exact .vw) Tryz.underlying100) U ?_
    refine AWl.nil ?_
    exact EndQ.eq (Le.sub0 (σ' := ⟨_, [(0, _), (2, _), (3, _), (5, _), (20, _), (21, _), (25, _), (26, _), (27, _), (28, _), (29, _), (31, _)], [(2, _), (3, _), (1200, _), (888888, _)]⟩) U ⟨U, U, U, U, U, U, U, U, U, U, U, U, Y⟩ ⟨U, U, U, U, Y⟩) U
   case hS => intros; exact Sup.sub0 rfl ⟨rfl, rfl, rfl, rfl, rfl, rfl, rfl, rfl, rfl, Y⟩ ⟨rfl, rfl, rfl, Y⟩
   apply Dh.old0 (i := 3)
   case ha | ho | hb => rfl
   case hE =>
    intro w9  hp
    obtain _ := hp
    refine AWl.p (by exact R_load_pp U (.no U) U (.tm U) U ty100 U U) U ?_
    exact AWl.nil (Le.sub0 U ⟨U, U, U, U, U, U, U, U, U, U, U, U, Y⟩ ⟨U, U, U, U, Y⟩)
   apply Dh.old0 (i := 0)
   case ha | ho | hb => rfl
   case hE =>
    intro w9  hp
    obtain _ := hp
    refine AWl.p (by exact R_load_pp U (.no U) U (.tm U) U ty102 U U) U ?_
    exact AWl.nil (Le.sub0 U ⟨U, U, U, U, U, U, U, U, U, U, U, U, Y⟩ ⟨U, U, U, U, Y⟩)
   apply Dh.new0 (i := 7)
   case ha | ho | hb => rfl
   case hE =>
    intro w9  hp
    obtain _ := hp
    refine AWl.p (R_sub U (.no U) U (.tm U) (.const U) (fun _ => by omega)) U ?_
    refine AWl.nil ?_
    exact EndQ.eq (Le.sub0 (σ' := ⟨_, [(0, _), (2, _), (3, _), (5, _), (20, _), (21, _), (25, _), (26, _), (27, _), (29, _), (32, _)], [(2, _), (3, _), (1200, _), (888888, _)]⟩) U ⟨U, U, U, U, U, U, U, U, U, U, U, Y⟩ ⟨U, U, U, U, Y⟩) U
   case hS => intros; exact Sup.sub0 rfl ⟨rfl, rfl, rfl, rfl, rfl, rfl, rfl, rfl, rfl, Y⟩ ⟨rfl, rfl, rfl, Y⟩
   apply Dh.old0 (i := 0)
   case ha | ho | hb => rfl
   case hE =>
    intro w9  hp
    obtain _ := hp
    refine AWl.p (by exact R_load_pp U (.no U) U (.tm U) U ty102 U U) U ?_
    exact AWl.nil (Le.sub0 U ⟨U, U, U, U, U, U, U, U, U, U, U, Y⟩ ⟨U, U, U, U, Y⟩)
   apply Dh.new0 (i := 7)
   case ha | ho | hb => rfl
   case hE =>
    intro w9  hp
    obtain _ := hp
    refine AWl.p (R_sub U (.no U) U (.tm U) (.const U) (fun _ => by omega)) U ?_
    refine AWl.nil ?_
    exact EndQ.eq (Le.sub0 (σ' := ⟨_, [(0, _), (2, _), (3, _), (5, _), (20, _), (21, _), (26, _), (27, _), (28, _), (29, _), (32, _)], [(2, _), (3, _), (1200, _), (888888, _)]⟩) U ⟨U, U, U, U, U, U, U, U, U, U, U, Y⟩ ⟨U, U, U, U, Y⟩) U
   case hS => intros; exact Sup.sub0 rfl ⟨rfl, rfl, rfl, rfl, rfl, rfl, rfl, rfl, rfl, Y⟩ ⟨rfl, rfl, rfl, Y⟩
   apply Dh.old0 (i := 3)
   case ha | ho | hb => rfl
   case hE =>
    intro w9  hp
    obtain _ := hp
    refine AWl.p (by exact R_load_pp U (.no U) U (.tm U) U ty100 U U) U ?_
    exact AWl.nil (Le.sub0 U ⟨U, U, U, U, U, U, U, U, U, U, U, Y⟩ ⟨U, U, U, U, Y⟩)
   apply Dh.new0 (i := 7)
   case ha | ho | hb => rfl
   case hE =>
    intro w9  hp
    obtain _ := hp
    refine AWl.p (R_sub U (.no U) U (.tm U) (.const U) (fun _ => by omega)) U ?_
    refine AWl.nil ?_
    exact EndQ.eq (Le.sub0 (σ' := ⟨_, [(0, _), (2, _), (3, _), (5, _), (20, _), (21, _), (25, _), (26, _), (27, _), (28, _), (29, _), (32, _)], [(2, _), (3, _), (1200, _), (888888, _)]⟩) U ⟨U, U, U, U, U, U, U, U, U, U, U, U, Y⟩ ⟨U, U, U, U, Y⟩) U
   case hS => intros; exact Sup.sub0 rfl ⟨rfl, rfl, rfl, rfl, rfl, rfl, rfl, rfl, rfl, Y⟩ ⟨rfl, rfl, rfl, Y⟩
   apply Dh.old0 (i := 3)
   case ha | ho | hb => rfl
   case hE =>
    intro w9  hp
    obtain _ := hp
    refine AWl.p (by exact R_load_pp U (.no U) U (.tm U) U ty100 U U) U ?_
    exact AWl.nil (Le.sub0 U ⟨U, U, U, U, U, U, U, U, U, U, U, U, Y⟩ ⟨U, U, U, U, Y⟩)
   apply Dh.old0 (i := 0)
   case ha | ho | hb => rfl
   case hE =>
    intro w9  hp
    obtain _ := hp
    refine AWl.p (by exact R_load_pp U (.no U) U (.tm U) U ty102 U U) U ?_
    exact AWl.nil (Le.sub0 U ⟨U, U, U, U, U, U, U, U, U, U, U, U, Y⟩ ⟨U, U, U, U, Y⟩)
   apply Dh.new0 (i := 8)
   case ha | ho | hb => rfl
   case hE =>
    intro w9  hp
    obtain _ := hp
    refine AWl.p (by exact R_indexAddr_vw U (.no U) U (.tm U) (.tm U) Tryz.underlying100 ty83 (fun _ => ⟨by have := hk.2.1; omega, map_get hx⟩)) U ?_
    refine AWl.nil ?_
    exact EndQ.eq (Le.sub0 (σ' := ⟨_, [(0, _), (2, _), (3, _), (5, _), (20, _), (21, _), (26, _), (27, _), (29, _), (33, _)], [(2, _), (3, _), (1200, _), (888888, _)]⟩) U ⟨U, U, U, U, U, U, U, U, U, U, Y⟩ ⟨U, U, U, U, Y⟩) U
   case hS => intros; exact Sup.sub0 rfl ⟨rfl, rfl, rfl, rfl, rfl, rfl, rfl, rfl, rfl, Y⟩ ⟨rfl, rfl, rfl, Y⟩
   apply Dh.new0 (i := 8)
   case ha | ho | hb => rfl
   case hE =>
    intro w9  hp
    obtain _ := hp
    refine AWl.p (by exact R_indexAddr_vw U (.no U) U (.tm U) (.tm U) Tryz.underlying100 ty83 (fun _ => ⟨by have := hk.2.1; omega, map_get hx⟩)) U ?_
    refine AWl.nil ?_
    exact EndQ.eq (Le.sub0 (σ' := ⟨_, [(0, _), (2, _), (3, _), (5, _), (20, _), (21, _), (25, _), (26, _), (27, _), (29, _), (33, _)], [(2, _), (3, _), (1200, _), (888888, _)]⟩) U ⟨U, U, U, U, U, U, U, U, U, U, U, Y⟩ ⟨U, U, U, U, Y⟩) U
   case hS => intros; exact Sup.sub0 rfl ⟨rfl, rfl, rfl, rfl, rfl, rfl, rfl, rfl, rfl, Y⟩ ⟨rfl, rfl, rfl, Y⟩
   apply Dh.old0 (i := 0)
   case ha | ho | hb => rfl
   case hE =>
    intro w9  hp
    obtain _ := hp
    refine AWl.p (by exact R_load_pp U (.no U) U (.tm U) U ty102 U U) U ?_
    exact AWl.nil (Le.sub0 U ⟨U, U, U, U, U, U, U, U, U, U, U, Y⟩ ⟨U, U, U, U, Y⟩)
   apply Dh.new0 (i := 9)
   case ha | ho | hb => rfl
   case hE =>
    intro w9  hp
    obtain _ := hp
    refine AWl.p (by exact R_load_vw U (.no U) U (.tm U) ty83 U U) U ?_
    refine AWl.nil ?_
    exact EndQ.eq (Le.sub0 (σ' := ⟨_, [(0, _), (2, _), (3, _), (5, _), (20, _), (21, _), (26, _), (27, _), (29, _), (34, _)], [(2, _), (3, _), (1200, _), (888888, _)]⟩) U ⟨U, U, U, U, U, U, U, U, U, U, Y⟩ ⟨U, U, U, U, Y⟩) U
   case hS => intros; exact Sup.sub0 rfl ⟨rfl, rfl, rfl, rfl, rfl, rfl, rfl, rfl, rfl, Y⟩ ⟨rfl, rfl, rfl, Y⟩
   apply Dh.new0 (i := 9)
   case ha | ho | hb => rfl
   case hE =>
    intro w9  hp
    obtain _ := hp
    refine AWl.p (by exact R_load_vw U (.no U) U (.tm U) ty83 U U) U ?_
    refine AWl.nil ?_
    exact EndQ.eq (Le.sub0 (σ' := ⟨_, [(0, _), (2, _), (3, _), (5, _), (20, _), (21, _), (25, _), (26, _), (27, _), (29, _), (34, _)], [(2, _), (3, _), (1200, _), (888888, _)]⟩) U ⟨U, U, U, U, U, U, U, U, U, U, U, Y⟩ ⟨U, U, U, U, Y⟩) U
   case hS => intros; exact Sup.sub0 rfl ⟨rfl, rfl, rfl, rfl, rfl, rfl, rfl, rfl, rfl, Y⟩ ⟨rfl, rfl, rfl, Y⟩
   apply Dh.old0 (i := 0)
   case ha | ho | hb => rfl
   case hE =>
    intro w9  hp
    obtain _ := hp
    refine AWl.p (by exact R_load_pp U (.no U) U (.tm U) U ty102 U U) U ?_
    exact AWl.nil (Le.sub0 U ⟨U, U, U, U, U, U, U, U, U, U, U, Y⟩ ⟨U, U, U, U, Y⟩)
   apply Dh.drw0 (i := 10)
   case ha => rfl
   case ho => rfl
   case hE =>
    intro  hp
    obtain _ := hp
    exact R_calld 3500 (specl6Batch x 4 (hk.2.2.2 x (List.mem_of_getElem? hx)) (by omega)) rfl rfl rfl (.tm rfl) rfl rfl (.cons (.tm rfl) rfl (.cons (.const rfl) rfl .nil)) (fun _ => rfl) (fun _ => rfl)
   case hb => rfl
   case hL =>
    intro  z35 hp hy
    exact EndQ.eq (Le.sub0 (σ' := ⟨_, [(0, _), (2, _), (3, _), (5, _), (20, _), (21, _), (26, _), (27, _), (29, _), (35, _)], [(2, _), (3, _), (1200, _), (888888, _), (3500, _)]⟩) U ⟨U, U, U, U, U, U, U, U, U, U, Y⟩ ⟨U, U, U, U, U, Y⟩) U
   case hS => intros; exact Sup.sub0 rfl ⟨rfl, rfl, rfl, rfl, rfl, rfl, rfl, rfl, rfl, Y⟩ ⟨rfl, rfl, rfl, Y⟩
   apply Dh.drw0 (i := 10)
   case ha => rfl
   case ho => rfl
   case hE =>
    intro  hp
    obtain _ := hp
    exact R_calld 3500 (specl6Batch x 4 (hk.2.2.2 x (List.mem_of_getElem? hx)) (by omega)) rfl rfl rfl (.tm rfl) rfl rfl (.cons (.tm rfl) rfl (.cons (.const rfl) rfl .nil)) (fun _ => rfl) (fun _ => rfl)
   case hb => rfl
   case hL =>
    intro  z35 hp hy
    exact EndQ.eq (Le.sub0 (σ' := ⟨_, [(0, _), (2, _), (3, _), (5, _), (20, _), (21, _), (25, _), (26, _), (27, _), (29, _), (35, _)], [(2, _), (3, _), (1200, _), (888888, _), (3500, _)]⟩) U ⟨U, U, U, U, U, U, U, U, U, U, U, Y⟩ ⟨U, U, U, U, U, Y⟩) U
   case hS => intros; exact Sup.sub0 rfl ⟨rfl, rfl, rfl, rfl, rfl, rfl, rfl, rfl, rfl, Y⟩ ⟨rfl, rfl, rfl, Y⟩
   apply Dh.old1 (i := 0)
   case ha | ho | hb => rfl
   case hE =>
    intro w9 z35 hp
    obtain ⟨_, hz35⟩ := hp
    refine AWl.p (by exact R_load_pp U (.no U) U (.tm U) U ty102 U U) U ?_
    exact AWl.nil (Le.sub0 U ⟨U, U, U, U, U, U, U, U, U, U, U, Y⟩ ⟨U, U, U, U, U, Y⟩)
   apply Dh.drw1 (i := 11)
   case ha => rfl
   case ho => rfl
   case hE =>
    intro z35 hp
    obtain ⟨_, hz35⟩ := hp
    exact R_callX 3600 (specAppendBatch H z35 hk.2) rfl rfl rfl (.cons (.tm rfl) rfl (.cons (.tm rfl) rfl .nil)) rfl
   case hb => rfl
   case hL =>
    intro z35 z36 hp hy
    exact EndQ.eq (Le.sub0 (σ' := ⟨_, [(0, _), (2, _), (3, _), (5, _), (20, _), (21, _), (26, _), (27, _), (29, _), (36, _)], [(2, _), (3, _), (1200, _), (888888, _), (3500, _), (3600, _)]⟩) U ⟨U, U, U, U, U, U, U, U, U, U, Y⟩ ⟨U, U, U, U, U, U, Y⟩) U
   case hS => intros; exact Sup.sub0 rfl ⟨rfl, rfl, rfl, rfl, rfl, rfl, rfl, rfl, rfl, Y⟩ ⟨rfl, rfl, rfl, Y⟩
   apply Dh.new2 (i := 12)
   case ha | ho | hb => rfl
   case hE =>
    intro w9 z35 z36 hp
    obtain ⟨⟨_, hz35⟩, hz36⟩ := hp
    refine AWl.p (R_movet U (.no U) U U fun _ => rfl) U ?_
    refine AWl.nil ?_
    exact EndQ.eq (Le.sub0 (σ' := ⟨_, [(0, _), (2, _), (3, _), (5, _), (20, _), (21, _), (24, _), (26, _), (27, _), (29, _)], [(2, _), (3, _), (1200, _), (888888, _), (3500, _), (3600, _)]⟩) U ⟨U, U, U, U, U, U, U, U, U, U, Y⟩ ⟨U, U, U, U, U, U, Y⟩) U
   case hS => intros; exact Sup.sub0 rfl ⟨rfl, rfl, rfl, rfl, rfl, rfl, rfl, rfl, rfl, Y⟩ ⟨rfl, rfl, rfl, Y⟩
   apply Dh.new2 (i := 13)
   case ha | ho | hb => rfl
   case hE =>
    intro w9 z35 z36 hp
    obtain ⟨⟨_, hz35⟩, hz36⟩ := hp
    refine AWl.p (R_extract U (.no U) U U (fun _ => rfl) U) U ?_
    refine AWl.nil ?_
    exact EndQ.eq (Le.sub0 (σ' := ⟨_, [(0, _), (2, _), (3, _), (5, _), (20, _), (21, _), (24, _), (26, _), (27, _), (29, _), (37, _)], [(2, _), (3, _), (1200, _), (888888, _), (3500, _), (3600, _)]⟩) U ⟨U, U, U, U, U, U, U, U, U, U, U, Y⟩ ⟨U, U, U, U, U, U, Y⟩) U
   case hS => intros; exact Sup.sub0 rfl ⟨rfl, rfl, rfl, rfl, rfl, rfl, rfl, rfl, rfl, Y⟩ ⟨rfl, rfl, rfl, Y⟩
   apply Dh.new2 (i := 14)
   case ha | ho | hb => rfl
   case hE =>
    intro w9 z35 z36 hp
    obtain ⟨⟨_, hz35⟩, hz36⟩ := hp
    refine AWl.p (R_extract U (.no U) U U (fun _ => rfl) U) U ?_
    refine AWl.nil ?_
    exact EndQ.eq (Le.sub0 (σ' := ⟨_, [(0, _), (2, _), (3, _), (5, _), (20, _), (21, _), (24, _), (26, _), (27, _), (29, _)], [(2, _), (3, _), (1200, _), (888888, _), (3500, _), (3600, _)]⟩) U ⟨U, U, U, U, U, U, U, U, U, U, Y⟩ ⟨U, U, U, U, U, U, Y⟩) U
   case hS => intros; exact Sup.sub0 rfl ⟨rfl, rfl, rfl, rfl, rfl, rfl, rfl, rfl, rfl, Y⟩ ⟨rfl, rfl, rfl, Y⟩
   apply Dh.new2 (i := 14)
   case ha | ho | hb => rfl
   case hE =>
    intro w9 z35 z36 hp
    obtain ⟨⟨_, hz35⟩, hz36⟩ := hp
    refine AWl.p (R_extract U (.no U) U U (fun _ => rfl) U) U ?_
    refine AWl.nil ?_
    exact EndQ.eq (Le.sub0 (σ' := ⟨_, [(0, _), (2, _), (3, _), (5, _), (20, _), (21, _), (26, _), (27, _), (29, _), (37, _)], [(2, _), (3, _), (1200, _), (888888, _), (3500, _), (3600, _)]⟩) U ⟨U, U, U, U, U, U, U, U, U, U, Y⟩ ⟨U, U, U, U, U, U, Y⟩) U
   case hS => intros; exact Sup.sub0 rfl ⟨rfl, rfl, rfl, rfl, rfl, rfl, rfl, rfl, rfl, Y⟩ ⟨rfl, rfl, rfl, Y⟩
   apply Dh.old2 (i := 13)
   case ha | ho | hb => rfl
   case hE =>
    intro w9 z35 z36 hp
    obtain ⟨⟨_, hz35⟩, hz36⟩ := hp
    refine AWl.p (R_extract U (.no U) U U (fun _ => rfl) U) U ?_
    exact AWl.nil (Le.sub0 U ⟨U, U, U, U, U, U, U, U, U, U, Y⟩ ⟨U, U, U, U, U, U, Y⟩)
   apply Dh.new2 (i := 15)
   case ha | ho | hb => rfl
   case hE =>
    intro w9 z35 z36 hp
    obtain ⟨⟨_, hz35⟩, hz36⟩ := hp
    refine AWl.chgb (R_store_pb U U U (.tm U) (.tm U) U ty102 U U U (by kernel_rfl) U) ?_
    refine AWl.nil ?_
    exact EndQ.eq (Le.sub0 (σ' := ⟨_, [(0, _), (2, _), (3, _), (5, _), (20, _), (21, _), (24, _), (26, _), (27, _), (29, _)], [(2, _), (3, _), (1200, _), (888888, _), (3500, _), (3600, _)]⟩) U ⟨U, U, U, U, U, U, U, U, U, U, Y⟩ ⟨U, U, U, U, U, U, Y⟩) U
   case hS => intros; exact Sup.sub0 rfl ⟨rfl, rfl, rfl, rfl, rfl, rfl, rfl, rfl, rfl, Y⟩ ⟨rfl, rfl, rfl, Y⟩
   apply Dh.new2 (i := 15)
   case ha | ho | hb => rfl
   case hE =>
    intro w9 z35 z36 hp
    obtain ⟨⟨_, hz35⟩, hz36⟩ := hp
    refine AWl.chgb (R_store_pb U U U (.tm U) (.tm U) U ty102 U U U (by kernel_rfl) U) ?_
    refine AWl.nil ?_
    exact EndQ.eq (Le.sub0 (σ' := ⟨_, [(0, _), (2, _), (3, _), (5, _), (20, _), (21, _), (26, _), (27, _), (29, _)], [(2, _), (3, _), (1200, _), (888888, _), (3500, _), (3600, _)]⟩) U ⟨U, U, U, U, U, U, U, U, U, Y⟩ ⟨U, U, U, U, U, U, Y⟩) U
   case hS => intros; exact Sup.sub0 rfl ⟨rfl, rfl, rfl, rfl, rfl, rfl, rfl, rfl, rfl, Y⟩ ⟨rfl, rfl, rfl, Y⟩
   apply Dh.old2 (i := 14)
   case ha | ho | hb => rfl
   case hE =>
    intro w9 z35 z36 hp
    obtain ⟨⟨_, hz35⟩, hz36⟩ := hp
    refine AWl.p (R_extract U (.no U) U U (fun _ => rfl) U) U ?_
    exact AWl.nil (Le.sub0 U ⟨U, U, U, U, U, U, U, U, U, Y⟩ ⟨U, U, U, U, U, U, Y⟩)
   refine Dh.fin2 (k := 28) rfl ?_
   intro z35 z36 hp
   obtain ⟨⟨_, hz35⟩, hz36⟩ := hp
   refine AWl.nil ?_
   refine AW.le (Le.sw 1200 3600 _) ?_
   refine AW.region ?_
   refine AWl.mv ?_
   refine AWl.p (R_sub U (.no U) U (.tm U) (.const U) (fun _ => by omega)) U ?_
   refine AWl.av ?_
   refine AWl.nil ?_
   repeat (with_reducible refine BlockQ.nor ?_)
   refine Round2.next (n - 1) (z36.1) ⟨⟨by omega, hz36⟩, Y⟩ (by (try simp at h21); omega) (Le.sub0 rfl ⟨rfl, rfl, rfl, rfl, Y⟩ ⟨(by rfl), (by rfl), (by rfl), (by rfl), Y⟩)
 · skip
   try simp at h21
   refine AW.exit ?_
   refine AW.sr ?_
   refine AWl.p (by exact R_load_pp U (.no U) U (.tm U) U ty102 U U) U ?_
   refine AWl.chgb (R_store_pb U U U (.tm U) (.tm U) U ty102 U U U (by kernel_rfl) U) ?_
   refine AWl.nil (AW.ret ?_)
   apply DRRes.mk (x := H) rfl
   case h =>
    refine ResR.one U (.cell U U ty102 U U .nil) U ?_
    rfl
   case hp => exact hk.2
set_option maxRecDepth 100000 in
theorem specl32Log (hh : THistory) (hg : goodH hh) : FnD Tryz.prog 70 [.agg (cHistory hh)] (fun s : ByteArray => s.size ≤ 600) (fun s => .a (.one (.v (.string s)))) := by
 refine FnD.walk Tryz.func70 U (by kernel_rfl) Tryz.ntmps70 U (fun g => rfl) fun w0 g => ?_
 refine AW.sr ?_
 refine AWl.p (R_boxz U U U (.tm U) (ts := _) (by rfl)) U ?_
 refine AWl.ac ?_
 refine AWl.nil (AW.sr ?_)
 refine AWl.ac ?_
 refine AWl.nil (AW.sr ?_)
 refine AWl.p (by exact R_load U (.no U) U (.tm U) ty102 U U) U ?_
 refine AWl.add (R_alloc 6 U U U in102 U U U) U ?_
 refine AWl.chgb (R_store_pb U U U (.tm U) (.tm U) U ty102 U U U (by kernel_rfl) U) ?_
 refine AWl.nil (AW.sr ?_)
 refine AWl.p (by exact R_load U (.no U) U (.tm U) ty102 U U) U ?_
 refine AWl.p (R_callz (FnT.fr (specLatestVersion hh)) U (.no U) U (.cons (.tm U) U .nil)) U ?_
 refine AWl.av ?_
 refine AWl.nil (AW.seq ?_)
 refine AW.sr ?_
 refine AWl.mv ?_
 refine AWl.opE (R_calld 1600 (specl1Below _) U U U (.tm U) U U (.cons (.const U) U .nil) (fun _ => rfl) (fun _ => rfl)) ?_
 rintro _ ⟨z16, hz16, rfl⟩
 try dsimp only at hz16
 refine AWl.av ?_
 refine AWl.nil (AW.block ?_)
 refine AW.loop4 (fun (n : Int) (s : ByteArray) (v : Int) (H : THistory) => ((0 ≤ n ∧ n ≤ 4 ∧ (s.size : Int) ≤ 130 * (4 - n) ∧ 0 ≤ v ∧ v ≤ 1003 - n) ∧ goodH H) ∧ True) (fun (n : Int) (s : ByteArray) (v : Int) (H : THistory) => ⟨_, [(8, (true, .a (.one (.t (.v (.int .i64 n)))))), (7, (true, .a (.one (.t (.v (.int .i64 v)))))), (5, (true, .a (.one (.t (.v (.string s)))))), (0, _), (4, _), (6, _)], [(6, .box [.t (.v (.int .i64 H.First)), .t (.sl 2 (H.Graphs.map cGraph))]), (888888, .cur g)]⟩) (fun (n : Int) (s : ByteArray) (v : Int) (H : THistory) => n.toNat) (z16) (⟨#[]⟩) (lastV hh) (hh) ⟨⟨by have := lastV_le hh; (have e0 : ((⟨#[]⟩ : ByteArray).size) = 0 := U); omega, hg⟩, Y⟩ (Le.sub0 U ⟨U, U, U, U, U, U, Y⟩ ⟨U, U, Y⟩) ?_
 rintro n s v H ⟨hk, he⟩
 refine AW.seq ?_
 refine AW.sr ?_
 refine AWl.mv ?_
 refine AWl.p (R_gt U (.no U) U (.tm U) (.const U)) U ?_
 refine AWl.mv ?_
 refine AWl.p (by exact R_load_pp U (by exact .yes1 U U U U) U (.tmp U (by exact fun _ => rfl)) U ty102 U U) U ?_
 refine AWl.p (R_callq U (by exact .yes1 U U U U) U (.cons (.tmp U (by exact id)) U .nil) fun hq => FnT.fr (specIsValidHistory H)) U ?_
 refine AWl.p (R_and U (.no U) U (.tm U) (.tmp U (by exact id))) U ?_
 refine AWl.nil ?_
 refine AW.cond (.tm U) (fun h22 => ?_) (fun h22 => ?_)
 · skip
   try simp at h22
   obtain ⟨x, hx⟩ : ∃ ξ, H.Graphs[((H.Graphs.length : Int) - 1).toNat]? = some ξ := ⟨_, List.getElem?_eq_getElem (by have := hk.2.1; omega)⟩
   have hb8 := hk.2.2.1
   have hb1 := hk.2.1
   refine AW.skip ?_
   refine AW.seq ?_
   refine AW.block ?_
   refine AW.seq ?_
   refine AW.le (σ' := ⟨_, [(0, _), (4, _), (5, _), (6, _), (7, _), (8, _)], [(6, _), (888888, _)]⟩) (Le.sub0 U ⟨U, U, U, U, U, U, Y⟩ ⟨U, U, Y⟩) ?_
   refine AW.region ?_
   refine AWl.mv ?_
   refine AWl.p (by exact R_fieldAddr_pp U (.no U) U (.tm U) fl102_1) U ?_
   refine AWl.p (by exact R_load_pp U (.no U) U (.tm U) U ty100 U U) U ?_
   refine AWl.p (by exact R_fieldAddr_pp U (.no U) U (.tm U) fl102_1) U ?_
   refine AWl.p (by exact R_load_pp U (.no U) U (.tm U) U ty100 U U) U ?_
   refine AWl.p (by exact R_lenm U (.no U) U (.tm U) (by exact .t) Tryz.underlying100) U ?_
   refine AWl.p (R_sub U (.no U) U (.tm U) (.const U) (fun _ => by omega)) U ?_
   refine AWl.p (by exact R_indexAddr U (.no U) U (.tm U) (.tm U) Tryz.underlying100 ty83 (fun _ => ⟨by omega, map_get hx⟩)) U ?_
   refine AWl.p (by exact R_load U (.no U) U (.tm U) ty83 U U) U ?_
   refine AWl.opE (R_calld 3400 (specl6Batch x 3 (hk.2.2.2 x (List.mem_of_getElem? hx)) (by omega)) U U U (.tm U) U U (.cons (.tm U) U (.cons (.const U) U .nil)) (fun _ => rfl) (fun _ => rfl)) ?_
   rintro _ ⟨z34, hz34, rfl⟩
   try dsimp only at hz34
   refine AWl.add (R_alloc 9 U U U in47 U U U) U ?_
   refine AWl.chgb (R_store_pb U U U (.tm U) (.tm U) U ty47 U U U (by kernel_rfl) U) ?_
   refine AWl.nil (AW.seq ?_)
   refine AW.le (σ' := ⟨_, [(0, _), (4, _), (5, _), (6, _), (7, _), (8, _), (9, _)], [(6, _), (888888, _), (3400, _), (9, _)]⟩) (Le.sub0 U ⟨U, U, U, U, U, U, U, Y⟩ ⟨U, U, U, U, Y⟩) ?_
   refine AW.region ?_
   refine AWl.p (by exact R_load_pp U (.no U) U (.tm U) U ty102 U U) U ?_
   refine AWl.p (by exact R_load_pp U (.no U) U (.tm U) U ty47 U U) U ?_
   refine AWl.opE (R_calleX ((specAppendBatch H z34 hk.2).fr) U U U (.cons (.tm U) U (.cons (.tm U) U .nil))) ?_
   rintro _ ⟨z38, hz38, rfl⟩
   try dsimp only at hz38
   refine AWl.p (R_movet U (.no U) U U fun _ => rfl) U ?_
   refine AWl.p (R_extract U (.no U) U U (fun _ => rfl) U) U ?_
   refine AWl.p (R_extract U (.no U) U U (fun _ => rfl) U) U ?_
   refine AWl.add (R_alloc 10 U U U in102 U U U) U ?_
   refine AWl.chgb (R_store_pb U U U (.tm U) (.tm U) U ty102 U U U (by kernel_rfl) U) ?_
   refine AWl.le (σ' := ⟨_, [(0, _), (4, _), (5, _), (6, _), (7, _), (8, _), (9, _), (10, _), (40, _)], [(6, _), (888888, _), (3400, _), (9, _), (10, _)]⟩) (Le.sub0 U ⟨U, U, U, U, U, U, U, U, U, Y⟩ ⟨U, U, U, U, U, Y⟩) ?_
   refine AWl.av ?_
   refine AWl.nil (AW.sr ?_)
   refine AWl.mv ?_
   refine AWl.nil ?_
   refine AW.cond (.tm U) (fun h41 => ?_) (fun h41 => ?_)
   · skip
     try simp at h41
     refine AW.sr ?_
     refine AWl.p (by exact R_load_pp U (.no U) U (.tm U) U ty102 U U) U ?_
     refine AWl.chgb (R_store_pb U U U (.tm U) (.tm U) U ty102 U U U (by kernel_rfl) U) ?_
     refine AWl.nil (AW.sr ?_)
     refine AWl.mv ?_
     refine AWl.p (R_add U (.no U) U (.tm U) (.const U) (fun _ => by omega)) U ?_
     refine AWl.av ?_
     refine AWl.nil (AW.region ?_)
     refine AWl.mv ?_
     refine AWl.mv ?_
     refine AWl.p (by exact R_load_pp U (.no U) U (.tm U) U ty47 U U) U ?_
     refine AWl.p (R_callz (FnT.fr (specEncodeRecord (v + 1) z34)) U (.no U) U (.cons (.tm U) U (.cons (.tm U) U .nil))) U ?_
     refine AWl.p (R_cat U (.no U) U (.tm U) (.tm U) (fun _ => by have := enc_len (v + 1) z34; simp only [ByteArray.size_append, bs_size]; omega)) U ?_
     refine AWl.av ?_
     refine AWl.nil ?_
     refine AW.le (σ' := ⟨_, [(0, _), (4, _), (5, _), (6, _), (7, _), (8, _), (9, _), (10, _), (11, _)], [(6, _), (888888, _), (3400, _), (9, _), (10, _)]⟩) (Le.sub0 U ⟨U, U, U, U, U, U, U, U, U, Y⟩ ⟨U, U, U, U, U, Y⟩) ?_
     refine AW.region ?_
     refine AWl.mv ?_
     refine AWl.p (R_sub U (.no U) U (.tm U) (.const U) (fun _ => by omega)) U ?_
     refine AWl.av ?_
     refine AWl.nil ?_
     repeat (with_reducible refine BlockQ.nor ?_)
     refine Round4.next (n - 1) (s ++ bs (encRec (v + 1) z34)) (v + 1) (z38.1) ⟨⟨by have := enc_len (v + 1) z34; (try simp at h22); simp only [ByteArray.size_append, bs_size]; omega, hz38⟩, Y⟩ (by (try simp at h22); omega) (Le.sub0 rfl ⟨rfl, rfl, rfl, rfl, rfl, rfl, Y⟩ ⟨(by rfl), (by rfl), Y⟩)
   · skip
     try simp at h41
     refine AW.skip ?_
     refine AW.region ?_
     refine AWl.mv ?_
     refine AWl.p (R_sub U (.no U) U (.tm U) (.const U) (fun _ => by omega)) U ?_
     refine AWl.av ?_
     refine AWl.nil ?_
     repeat (with_reducible refine BlockQ.nor ?_)
     refine Round4.next (n - 1) (s) (v) (H) ⟨⟨by (try simp at h22); omega, hk.2⟩, Y⟩ (by (try simp at h22); omega) (Le.sub0 rfl ⟨rfl, rfl, rfl, rfl, rfl, rfl, Y⟩ ⟨(by rfl), (by rfl), Y⟩)
 · skip
   try simp at h22
   refine AW.exit ?_
   refine AW.seq ?_
   refine AW.seq ?_
   refine AW.le (σ' := ⟨_, [(0, _), (4, _), (5, _), (6, _), (7, _), (8, _)], [(6, _), (888888, _)]⟩) (Le.sub0 U ⟨U, U, U, U, U, U, Y⟩ ⟨U, U, Y⟩) ?_
   refine AW.region ?_
   refine AWl.mv ?_
   refine AWl.p (R_len_s U (.no U) U (.tm U) Tryz.underlying9) U ?_
   refine AWl.p (R_gt U (.no U) U (.tm U) (.const U)) U ?_
   refine AWl.mv ?_
   refine AWl.p (R_move U (by exact .yes1 U U U U) U (.tmp U (by exact fun _ => rfl))) U ?_
   refine AWl.opE (R_calldq 5500 (specl1Once _) U (by exact .yes1 U U U U) U (.tmp U (by exact id)) U U (.cons (.const U) U .nil) (fun _ => rfl)) ?_
   rintro _ ⟨z55, hz55, rfl⟩
   try dsimp only at hz55
   refine AWl.p (R_and U (.no U) U (.tm U) (.tmp U (by exact id))) U ?_
   refine AWl.nil ?_
   refine AW.cond (.tm U) (fun h56 => ?_) (fun h56 => ?_)
   · skip
     try simp at h56
     have hs0 : 0 < s.size := Nat.pos_of_ne_zero fun e => by (have e2 : s = ByteArray.empty := (by simpa using e)); subst e2; simp at h56
     refine AW.seq ?_
     refine AW.le (σ' := ⟨_, [(0, _), (4, _), (5, _), (6, _), (7, _), (8, _)], [(6, _), (888888, _)]⟩) (Le.sub0 U ⟨U, U, U, U, U, U, Y⟩ ⟨U, U, Y⟩) ?_
     refine AW.region ?_
     refine AWl.mv ?_
     refine AWl.mv ?_
     refine AWl.mv ?_
     refine AWl.p (R_len_s U (.no U) U (.tm U) Tryz.underlying9) U ?_
     refine AWl.opE (R_calld 6100 (specl1Below _) U U U (.tm U) U U (.cons (.tm U) U .nil) (fun _ => rfl) (fun _ => rfl)) ?_
     rintro _ ⟨z61, hz61, rfl⟩
     try dsimp only at hz61
     refine AWl.p (R_strSlice (m := z61.toNat) U (.no U) U (.tm U) .no (.yes (.tm U) (fun _ => by first | omega | (simp <;> omega))) Tryz.underlying9 (fun _ => ⟨by omega, by first | omega | (simp; omega)⟩)) U ?_
     refine AWl.av ?_
     refine AWl.nil (AW.ret ?_)
     apply DRes.mk rfl
     case h =>
      refine Res.one U (.tmp U .nil) U ?_
      rfl
     case hp => exact (by simp only [ByteArray.size_extract]; omega)
   · skip
     try simp at h56
     refine AW.skip ?_
     refine AW.seq ?_
     refine AW.seq ?_
     refine AW.le (σ' := ⟨_, [(0, _), (4, _), (5, _), (6, _), (7, _), (8, _)], [(6, _), (888888, _)]⟩) (Le.sub0 U ⟨U, U, U, U, U, U, Y⟩ ⟨U, U, Y⟩) ?_
     refine AW.region ?_
     refine AWl.mv ?_
     refine AWl.opE (R_calld 6400 (specl1Once _) U U U (.tm U) U U (.cons (.const U) U .nil) (fun _ => rfl) (fun _ => rfl)) ?_
     rintro _ ⟨z64, hz64, rfl⟩
     try dsimp only at hz64
     refine AWl.nil ?_
     refine AW.cond (.tm U) (fun h64 => ?_) (fun h64 => ?_)
     · skip
       try simp at h64
       refine AW.sr ?_
       refine AWl.mv ?_
       refine AWl.mv ?_
       refine AWl.opE (R_calld 6700 (specl1Spoil s (by omega)) U U U (.tm U) U U (.cons (.tm U) U .nil) (fun _ => rfl) (fun _ => rfl)) ?_
       rintro _ ⟨z67, hz67, rfl⟩
       try dsimp only at hz67
       refine AWl.av ?_
       refine AWl.nil (AW.ret ?_)
       apply DRes.mk rfl
       case h =>
        refine Res.one U (.tmp U .nil) U ?_
        rfl
       case hp => exact (by omega)
     · skip
       try simp at h64
       refine AW.skip ?_
       refine AW.sr ?_
       refine AWl.mv ?_
       refine AWl.av ?_
       refine AWl.nil (AW.ret ?_)
       apply DRes.mk rfl
       case h =>
        refine Res.one U (.tmp U .nil) U ?_
        rfl
       case hp => exact (by omega)
end Go.Proofs.YtbkhopfpejhnlaaGreatDoor
