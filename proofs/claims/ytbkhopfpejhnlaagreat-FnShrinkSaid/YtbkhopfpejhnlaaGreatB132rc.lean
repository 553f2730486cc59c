import Derived.Test.YtbkhopfpejhnlaaGreatB127rc
import Derived.Test.YtbkhopfpejhnlaaGreatDraw5rc
import Derived.Test.YtbkhopfpejhnlaaGreatB130rc
import Derived.Test.YtbkhopfpejhnlaaGreatB31rc
import Derived.Test.YtbkhopfpejhnlaaGreatStdrc
set_option linter.unusedVariables false
set_option linter.unusedSimpArgs false
set_option maxHeartbeats 1000000
set_option maxRecDepth 100000
namespace Go.Q
open Go.RowKit Go.D
abbrev ShrX := TGraph × TExpr × TExpr × Int × Int
def shrOut (x : ShrX) : V := .tup [.agg (cGraph x.1), .agg (cExpr x.2.1), .agg (cExpr x.2.2.1), .one (.v (.int .i64 x.2.2.2.1)), .one (.v (.int .i64 x.2.2.2.2))]
def shrP (x : ShrX) : Prop := x.1.Values.length ≤ 5 ∧ x.1.Edges.length ≤ 11
theorem evalE_few (g : TGraph) (e : TExpr) : (evalE g e).1.length ≤ 1073741824 := by
 unfold evalE
 split
 · rename_i h
   simp only [Bool.and_eq_true] at h
   split
   · exact Nat.le_trans (relOf_len h.1 _) (by omega)
   · simp
 · simp
theorem shrinkR_2 (g : TGraph) (a b : TExpr) (x y : Int) : (shrinkR g a b x y).2 = refut g a b x y := by
 unfold shrinkR
 cases h : refut g a b x y <;> simp
theorem shrinkR_small (g : TGraph) (a b : TExpr) (x y : Int) : (shrinkR g a b x y).1.Values.length = g.Values.length ∧ (shrinkR g a b x y).1.Edges.length ≤ g.Edges.length := by
 unfold shrinkR
 split
 · exact shrTo_len g a b x y _
 · exact ⟨rfl, Nat.le_refl _⟩
end Go.Q
namespace Go.Proofs.YtbkhopfpejhnlaaGreat
open Go.RowKit Go.Q Go.D
set_option maxRecDepth 100000 in
theorem implEqualGraphs' (g h : TGraph) : FnT Tryz.prog 10 [.agg (cGraph g), .agg (cGraph h)] (.a (.one (.v (.bool (decide (g = h)))))) := by
 refine FnT.walk Tryz.func10 U (by kernel_rfl) Tryz.ntmps10 U fun hlen w0 => ?_
 try simp [cPair, cToken, cExpr, cEdge, cGraph] at hlen
 refine AW.sr ?_
 refine AWl.p (R_boxz U U U (.tm U) (ts := _) (by rfl)) U ?_
 refine AWl.p (R_boxz U U U (.tm U) (ts := _) (by rfl)) U ?_
 refine AWl.ac ?_
 refine AWl.nil (AW.sr ?_)
 refine AWl.p (by exact R_fieldAddr U (.no U) U (.tm U) fl27_0) U ?_
 refine AWl.p (by exact R_load U (.no U) U (.tm U) ty24 U U) U ?_
 refine AWl.p (by exact R_fieldAddr U (.no U) U (.tm U) fl27_0) U ?_
 refine AWl.p (by exact R_load U (.no U) U (.tm U) ty24 U U) U ?_
 refine AWl.p (R_callz (FnT.fr (slicesEqualInt g.Values h.Values)) U (.no U) U (.cons (.tm U) U (.cons (.tm U) U .nil))) U ?_
 refine AWl.mv ?_
 refine AWl.p (by exact R_fieldAddr U (by exact .yes1 U U U U) U (.tmp U (by exact fun _ => rfl)) fl27_1) U ?_
 refine AWl.p (by exact R_load U (by exact .yes1 U U U U) U (.tmp U (by exact id)) ty25 U U) U ?_
 refine AWl.p (by exact R_fieldAddr U (by exact .yes1 U U U U) U (.tmp U (by exact fun _ => rfl)) fl27_1) U ?_
 refine AWl.p (by exact R_load U (by exact .yes1 U U U U) U (.tmp U (by exact id)) ty25 U U) U ?_
 refine AWl.p (R_callq U (by exact .yes1 U U U U) U (.cons (.tmp U (by exact id)) U (.cons (.tmp U (by exact id)) U .nil)) fun hq => FnT.fr (slicesEqualEdge g.Edges h.Edges)) U ?_
 refine AWl.p (R_and U (.no U) U (.tm U) (.tmp U (by exact id))) U ?_
 refine AWl.av ?_
 refine AWl.nil (AW.ret ?_)
 refine Res.v U U ?_
 cases g; cases h; simp
set_option maxRecDepth 100000 in
theorem specEvaluateExpr (g : TGraph) (e : TExpr) : FnT Tryz.prog 59 [.agg (cGraph g), .agg (cExpr e)] (.tup [.one (.sl 2 ((evalE g e).1.map cPair)), .one (.v (.bool (evalE g e).2))]) := by
 refine FnT.walk Tryz.func59 U (by kernel_rfl) Tryz.ntmps59 U fun hlen w0 => ?_
 try simp [cPair, cToken, cExpr, cEdge, cGraph] at hlen
 skip
 refine AW.sr ?_
 refine AWl.p (R_boxz U U U (.tm U) (ts := _) (by rfl)) U ?_
 refine AWl.p (R_boxz U U U (.tm U) (ts := _) (by rfl)) U ?_
 refine AWl.ac ?_
 refine AWl.nilS (i := 4) 20001 2 U U ?_
 refine AWl.ac ?_
 refine AWl.nil (AW.seq ?_)
 refine AW.sr ?_
 refine AWl.p (by exact R_load U (.no U) U (.tm U) ty27 U U) U ?_
 refine AWl.p (R_callz (FnT.fr (specIsValidGraph g)) U (.no U) U (.cons (.tm U) U .nil)) U ?_
 refine AWl.p (R_not U (.no U) U (.tm U)) U ?_
 refine AWl.mv ?_
 refine AWl.p (by exact R_load U (by exact .not1 U U U U) U (.tmp U (by exact fun _ => rfl)) ty30 U U) U ?_
 refine AWl.p (R_callq U (by exact .not1 U U U U) U (.cons (.tmp U (by exact id)) U .nil) fun hq => FnT.fr (specIsValidExpr e)) U ?_
 refine AWl.p (R_not U (by exact .not1 U U U U) U (.tmp U (by exact id))) U ?_
 refine AWl.p (R_or U (.no U) U (.tm U) (.tmp U (by exact id))) U ?_
 refine AWl.nil ?_
 refine AW.cond (.tm U) (fun h13 => ?_) (fun h13 => ?_)
 · skip
   try simp at h13
   have hno : (validG g && isValidExpr e) = false := by (revert h13; cases validG g <;> cases isValidExpr e <;> simp)
   refine AW.seq ?_
   refine AW.le (σ' := ⟨_, [(0, _), (1, _), (2, _), (3, _), (4, _), (5, _)], [(20001, _)]⟩) (Le.sub0 U ⟨U, U, U, U, U, U, Y⟩ ⟨U, Y⟩) ?_
   refine AW.region ?_
   refine AWl.add (R_empty 14 U U U Tryz.underlying58 ty63 U) U ?_
   refine AWl.av ?_
   refine AWl.ac ?_
   refine AWl.nil (AW.ret ?_)
   refine Res.many U (.tmp U (.tmp U .nil)) U ?_ (by simp)
   rw [evalE_bad hno]; rfl
 · skip
   try simp at h13
   have hyes : validG g = true ∧ isValidExpr e = true := by (revert h13; cases validG g <;> cases isValidExpr e <;> simp)
   refine AW.skip ?_
   refine AW.seq ?_
   refine AW.le (σ' := ⟨_, [(0, _), (1, _), (2, _), (3, _), (4, _), (5, _)], [(20001, _)]⟩) (Le.sub0 U ⟨U, U, U, U, U, U, Y⟩ ⟨U, Y⟩) ?_
   refine AW.region ?_
   refine AWl.p (by exact R_load U (.no U) U (.tm U) ty27 U U) U ?_
   refine AWl.p (by exact R_fieldAddr U (.no U) U (.tm U) fl30_0) U ?_
   refine AWl.p (by exact R_load U (.no U) U (.tm U) ty28 U U) U ?_
   refine AWl.adds (R_call 1800 (specl16Eval g hyes.1 e hyes.2) U U U (.cons (.tm U) U (.cons (.tm U) U .nil)) U U) U ?_
   refine AWl.av ?_
   refine AWl.ac ?_
   refine AWl.nil (AW.ret ?_)
   refine Res.many U (.tmp U (.tmp U .nil)) U ?_ (by simp)
   rw [show (evalE g e).2 = true by rw [evalE_2, hyes.1, hyes.2]; rfl]; rfl
set_option maxRecDepth 100000 in
theorem specl4Node (g : TGraph) : FnD Tryz.prog 63 [.agg (cGraph g)] (fun _ : Int => True) (fun x => .a (.one (.v (.int .i64 x)))) := by
 refine FnD.walk Tryz.func63 U (by kernel_rfl) Tryz.ntmps63 U (fun g => rfl) fun w0 g => ?_
 refine AW.sr ?_
 refine AWl.p (R_boxz U U U (.tm U) (ts := _) (by rfl)) U ?_
 refine AWl.ac ?_
 refine AWl.nil (AW.seq ?_)
 refine AW.sr ?_
 refine AWl.mv ?_
 refine AWl.opE (R_calld 600 (specl1Once _) U U U (.tm U) U U (.cons (.const U) U .nil) (fun _ => rfl) (fun _ => rfl)) ?_
 rintro _ ⟨z6, hz6, rfl⟩
 try dsimp only at hz6
 refine AWl.nil ?_
 refine AW.cond (.tm U) (fun h6 => ?_) (fun h6 => ?_)
 · skip
   try simp at h6
   refine AW.sr ?_
   refine AWl.mv ?_
   refine AWl.absadd (R_list (xs := [.const (.int .i64 (-1)), .const (.int .i64 (5)), .const (.int .i64 (9223372036854775807))]) 8 U U U (.cons (.const U) U U (.cons (.const U) U U (.cons (.const U) U U .nil))) Tryz.underlying24 in3 U U U U) U ?_
   refine AWl.opE (R_calld 900 (specl1PickInt [-1, 5, 9223372036854775807] (by decide)) U U U (.tm U) U U (.cons (.tm U) U .nil) (fun _ => rfl) (fun _ => rfl)) ?_
   rintro _ ⟨z9, hz9, rfl⟩
   try dsimp only at hz9
   refine AWl.av ?_
   refine AWl.nil (AW.ret ?_)
   apply DRes.mk rfl
   case h =>
    refine Res.one U (.tmp U .nil) U ?_
    rfl
   case hp => exact trivial
 · skip
   try simp at h6
   refine AW.skip ?_
   refine AW.sr ?_
   refine AWl.mv ?_
   refine AWl.p (by exact R_fieldAddr U (.no U) U (.tm U) fl27_0) U ?_
   refine AWl.p (by exact R_load U (.no U) U (.tm U) ty24 U U) U ?_
   refine AWl.p (by exact R_lenm U (.no U) U (.tm U) (by exact .t) Tryz.underlying24) U ?_
   refine AWl.p (R_max U (.no U) U (.const U) (.tm U)) U ?_
   refine AWl.opE (R_calld 1500 (specl1Below _) U U U (.tm U) U U (.cons (.tm U) U .nil) (fun _ => rfl) (fun _ => rfl)) ?_
   rintro _ ⟨z15, hz15, rfl⟩
   try dsimp only at hz15
   refine AWl.av ?_
   refine AWl.nil (AW.ret ?_)
   apply DRes.mk rfl
   case h =>
    refine Res.one U (.tmp U .nil) U ?_
    rfl
   case hp => exact trivial
set_option maxRecDepth 100000 in
theorem specl3Graph : FnD Tryz.prog 57 [] (fun g : TGraph => g.Values.length ≤ 5 ∧ g.Edges.length ≤ 11) (fun g => .a (.agg (cGraph g))) := by
 refine FnD.walk Tryz.func57 U (by kernel_rfl) Tryz.ntmps57 U (fun g => rfl) fun w0 g => ?_
 refine AW.sr ?_
 refine AWl.add (R_alloc 2 U U U in27 U U U) U ?_
 refine AWl.nil (AW.sr ?_)
 refine AWl.p (R_build (ps := []) U U U in27 U U st27 .nil U) U ?_
 refine AWl.nilA (i := 7) 20001 1 0 U U U ?_
 refine AWl.nilA (i := 7) 20002 4 1 U U U ?_
 refine AWl.add (R_alloc 3 U U U in27 U U U) U ?_
 refine AWl.chgb (R_store_pb U U U (.tm U) (.tm U) U ty27 U U U (by kernel_rfl) U) ?_
 refine AWl.nil (AW.seq ?_)
 refine AW.sr ?_
 refine AWl.mv ?_
 refine AWl.absadd (R_list (xs := [.const (.int .i64 (2)), .const (.int .i64 (3)), .const (.int .i64 (4)), .const (.int .i64 (4)), .const (.int .i64 (5))]) 9 U U U (.cons (.const U) U U (.cons (.const U) U U (.cons (.const U) U U (.cons (.const U) U U (.cons (.const U) U U .nil))))) Tryz.underlying24 in3 U U U U) U ?_
 refine AWl.opE (R_calld 1000 (specl1PickInt [2, 3, 4, 4, 5] (by decide)) U U U (.tm U) U U (.cons (.tm U) U .nil) (fun _ => rfl) (fun _ => rfl)) ?_
 rintro _ ⟨z10, hz10, rfl⟩
 try dsimp only at hz10
 refine AWl.av ?_
 refine AWl.nil (AW.block ?_)
 refine AW.loop2 (fun (n : Int) (vs : List Int) => (n ≤ 5 - vs.length ∧ vs.length ≤ 5) ∧ True) (fun (n : Int) (vs : List Int) => ⟨_, [(4, (true, .a (.one (.t (.v (.int .i64 n)))))), (0, _), (2, _), (3, _)], [(2, .box [.t (.v (.slice none 0 0)), .t (.v (.slice none 0 0))]), (3, .box [.rf 20001, .rf 20002]), (20001, .row 1 (vs.map cInt)), (20002, .row 4 []), (888888, .cur g)]⟩) (fun (n : Int) (vs : List Int) => n.toNat) (z10) ([]) ⟨by simp at hz10; simp; omega, Y⟩ (Le.sub0 U ⟨U, U, U, U, Y⟩ ⟨U, U, U, U, U, Y⟩) ?_
 rintro n vs ⟨hk, he⟩
 refine AW.seq ?_
 refine AW.sr ?_
 refine AWl.mv ?_
 refine AWl.p (R_gt U (.no U) U (.tm U) (.const U)) U ?_
 refine AWl.nil ?_
 refine AW.cond (.tm U) (fun h12 => ?_) (fun h12 => ?_)
 · skip
   try simp at h12
   refine AW.skip ?_
   refine AW.seq ?_
   refine AW.block ?_
   refine AW.le (σ' := ⟨_, [(0, _), (2, _), (3, _), (4, _), (11, _), (12, _)], [(2, _), (3, _), (20001, _), (20002, _), (888888, _)]⟩) (Le.sub0 U ⟨U, U, U, U, U, U, Y⟩ ⟨U, U, U, U, U, Y⟩) ?_
   apply AW.drawnH (N := 5) (k := 2) (Hs := [0, 1, 2]) (ms := [[], [3], [3, 4]]) (es := [(0, 3, 1), (1, 4, 2)]) (σ1 := _) (SM := ⟨_, [(0, _), (2, _), (3, _), (4, _), (11, _), (12, _), (15, _), (16, _), (17, _)], [(2, _), (3, _), (20001, _), (20002, _), (888888, _)]⟩)
   case hm => kernel_rfl
   case hB => kernel_rfl
   case hP => kernel_rfl
   case hL => kernel_rfl
   case hN => rfl
   case hpre =>
    apply PreOk.step (P := Tryz.prog) 0 rfl ((by exact R_fieldAddr_pp rfl (.no rfl) rfl (.tm rfl) fl27_0)) (by exact .pp) rfl rfl rfl
    apply PreOk.step (P := Tryz.prog) 1 rfl ((by exact R_load_pp rfl (.no rfl) rfl (.tm rfl) rfl ty24 rfl rfl)) (by exact HasV.load (x := .tmp 15) (.tm rfl) rfl ty24 rfl rfl) rfl rfl rfl
    apply PreOk.step (P := Tryz.prog) 2 rfl (R_move rfl (.no rfl) rfl (.tm rfl)) (by exact HasV.slot (t := 0) rfl) rfl rfl rfl
    exact PreOk.nil
   case hS => exact Sup.sub0 rfl ⟨rfl, rfl, rfl, rfl, rfl, rfl, rfl, rfl, rfl, Y⟩ ⟨rfl, rfl, rfl, rfl, rfl, Y⟩
   case hH =>
    refine ⟨⟨_, _, _, rfl, rfl, rfl, fun σ' hs => (by exact R_fieldAddr_pp rfl (.no rfl) (hd_sup hs rfl) (.tm (hs.slots _ _ rfl)) fl27_0)⟩, ?_⟩
    refine ⟨⟨_, _, _, rfl, rfl, rfl, fun σ' hs => (by exact R_load_pp rfl (.no rfl) (hd_sup hs rfl) (.tm (hs.slots _ _ rfl)) (hs.res _ _ rfl) ty24 rfl rfl)⟩, ?_⟩
    refine ⟨⟨_, _, _, rfl, rfl, rfl, fun σ' hs => R_move rfl (.no rfl) (hd_sup hs rfl) (.tm (hs.slots _ _ rfl))⟩, ?_⟩
    trivial
   apply Dh.drw0 (i := 3)
   case ha => rfl
   case ho => rfl
   case hE =>
    intro  hp
    obtain _ := hp
    exact R_calld 1800 (specl1Below _) rfl rfl rfl (.tm rfl) rfl rfl (.cons (.const rfl) rfl .nil) (fun _ => rfl) (fun _ => rfl)
   case hb => rfl
   case hL =>
    intro  z18 hp hy
    exact EndQ.eq (Le.sub0 (σ' := ⟨_, [(0, _), (2, _), (3, _), (4, _), (11, _), (12, _), (15, _), (16, _), (17, _), (18, _)], [(2, _), (3, _), (20001, _), (20002, _), (888888, _)]⟩) U ⟨U, U, U, U, U, U, U, U, U, U, Y⟩ ⟨U, U, U, U, U, Y⟩) U
   case hS => intros; exact Sup.sub0 rfl ⟨rfl, rfl, rfl, rfl, rfl, rfl, rfl, rfl, rfl, Y⟩ ⟨rfl, rfl, rfl, rfl, rfl, Y⟩
   apply Dh.new1 (i := 4)
   case ha | ho | hb => rfl
   case hE =>
    intro w9 z18 hp
    obtain ⟨_, hz18⟩ := hp
    refine AWl.absadd (R_list (xs := [.tmp 18]) 19 U U U (.cons (.tm U) U U .nil) Tryz.underlying24 in3 U U U U) U ?_
    refine AWl.nil ?_
    exact EndQ.eq (Le.sub0 (σ' := ⟨_, [(0, _), (2, _), (3, _), (4, _), (11, _), (12, _), (15, _), (16, _), (17, _), (19, _)], [(2, _), (3, _), (20001, _), (20002, _), (888888, _), (19, _)]⟩) U ⟨U, U, U, U, U, U, U, U, U, U, Y⟩ ⟨U, U, U, U, U, U, Y⟩) U
   case hS => intros; exact Sup.sub0 rfl ⟨rfl, rfl, rfl, rfl, rfl, rfl, rfl, rfl, rfl, Y⟩ ⟨rfl, rfl, rfl, rfl, rfl, Y⟩
   refine Dh.fin1 (k := 2) rfl ?_
   intro z18 hp
   obtain ⟨_, hz18⟩ := hp
   refine AWl.chgput (R_append U U U (.tm U) U (.tm U) (by exact .rf U) (by rfl) Tryz.underlying24 in3 U (by (simp [chunk]; omega)) (by (unfold maxLen; simp [chunk]; omega))) U ?_
   refine AWl.le (σ' := ⟨_, [(0, _), (2, _), (3, _), (4, _), (12, _), (20, _)], [(2, _), (3, _), (20001, _), (20002, _), (888888, _), (19, _)]⟩) (Le.sub0 U ⟨U, U, U, U, U, U, Y⟩ ⟨U, U, U, U, U, U, Y⟩) ?_
   refine AWl.p (by exact R_fieldAddr_pp U (.no U) U (.tm U) fl27_0) U ?_
   refine AWl.chgb (R_store_pb U U U (.tm U) (.tm U) U ty24 U U U (by kernel_rfl) U) ?_
   refine AWl.nil (AW.region ?_)
   refine AWl.mv ?_
   refine AWl.p (R_sub U (.no U) U (.tm U) (.const U) (fun _ => by omega)) U ?_
   refine AWl.av ?_
   refine AWl.nil ?_
   repeat (with_reducible refine BlockQ.nor ?_)
   refine Round2.next (n - 1) (vs ++ [z18]) ⟨by (try simp at h12); simp; omega, Y⟩ (by (try simp at h12); omega) (Le.sub0 rfl ⟨rfl, rfl, rfl, rfl, Y⟩ ⟨(by rfl), (by rfl), (by (refine congrArg (fun r => some (R.row _ r)) ?_; simp [chunk, List.map_set, cInt, cBool, cIntS, cPair, cToken, cExpr, cEdge, cGraph, cStep, cWalk, cChange, cBatch, cHistory, cPositions, cAutomaton, cProductStep, cPathAtom, cConjunction, cView, cDelta, cRegistered, cRegistry])), (by rfl), (by rfl), Y⟩)
 · skip
   try simp at h12
   refine AW.exit ?_
   refine AW.sr ?_
   refine AWl.ac ?_
   refine AWl.nil (AW.seq ?_)
   refine AW.sr ?_
   refine AWl.mv ?_
   refine AWl.mv ?_
   refine AWl.absadd (R_list (xs := [.const (.int .i64 (4)), .const (.int .i64 (8)), .const (.int .i64 (11))]) 24 U U U (.cons (.const U) U U (.cons (.const U) U U (.cons (.const U) U U .nil))) Tryz.underlying24 in3 U U U U) U ?_
   refine AWl.opE (R_calld 2500 (specl1PickInt [4, 8, 11] (by decide)) U U U (.tm U) U U (.cons (.tm U) U .nil) (fun _ => rfl) (fun _ => rfl)) ?_
   rintro _ ⟨z25, hz25, rfl⟩
   try dsimp only at hz25
   refine AWl.opE (R_calld 2600 (specl1Below _) U U U (.tm U) U U (.cons (.tm U) U .nil) (fun _ => rfl) (fun _ => rfl)) ?_
   rintro _ ⟨z26, hz26, rfl⟩
   try dsimp only at hz26
   refine AWl.av ?_
   refine AWl.nil (AW.block ?_)
   refine AW.loop3 (fun (n2 : Int) (id : Int) (es : List TEdge) => (n2 ≤ 11 - es.length ∧ es.length ≤ 11 ∧ 0 ≤ id ∧ id ≤ 3 * es.length) ∧ True) (fun (n2 : Int) (id : Int) (es : List TEdge) => ⟨_, [(6, (true, .a (.one (.t (.v (.int .i64 n2)))))), (5, (true, .a (.one (.t (.v (.int .i64 id)))))), (0, _), (2, _), (3, _)], [(2, .box [.t (.v (.slice none 0 0)), .t (.v (.slice none 0 0))]), (3, .box [.rf 20001, .rf 20002]), (20001, .row 1 (vs.map cInt)), (20002, .row 4 (es.map cEdge)), (888888, .cur g)]⟩) (fun (n2 : Int) (id : Int) (es : List TEdge) => n2.toNat) (z26) (0) ([]) ⟨by simp at hz25; simp; omega, Y⟩ (Le.sub0 U ⟨U, U, U, U, U, Y⟩ ⟨U, U, U, U, U, Y⟩) ?_
   rintro n2 id es ⟨hk2, he2⟩
   refine AW.seq ?_
   refine AW.sr ?_
   refine AWl.mv ?_
   refine AWl.p (R_gt U (.no U) U (.tm U) (.const U)) U ?_
   refine AWl.nil ?_
   refine AW.cond (.tm U) (fun h28 => ?_) (fun h28 => ?_)
   · skip
     try simp at h28
     refine AW.skip ?_
     refine AW.seq ?_
     refine AW.block ?_
     refine AW.sr ?_
     refine AWl.mv ?_
     refine AWl.p (R_add U (.no U) U (.tm U) (.const U) (fun _ => by omega)) U ?_
     refine AWl.mv ?_
     refine AWl.opE (R_calld 3400 (specl1Below _) U U U (.tm U) U U (.cons (.const U) U .nil) (fun _ => rfl) (fun _ => rfl)) ?_
     rintro _ ⟨z34, hz34, rfl⟩
     try dsimp only at hz34
     refine AWl.p (R_add U (.no U) U (.tm U) (.tm U) (fun _ => by omega)) U ?_
     refine AWl.av ?_
     refine AWl.nil ?_
     refine AW.le (σ' := ⟨_, [(0, _), (2, _), (3, _), (5, _), (6, _)], [(2, _), (3, _), (20001, _), (20002, _), (888888, _)]⟩) (Le.sub0 U ⟨U, U, U, U, U, Y⟩ ⟨U, U, U, U, U, Y⟩) ?_
     refine AW.le (σ' := ⟨_, [(0, _), (2, _), (3, _), (5, _), (6, _)], [(2, _), (3, _), (20001, _), (20002, _), (888888, _)]⟩) (Le.sub0 U ⟨U, U, U, U, U, Y⟩ ⟨U, U, U, U, U, Y⟩) ?_
     apply AW.drawnH (N := 18) (k := 8) (Hs := [0, 1, 2, 3, 4, 5, 6, 8, 9, 10, 11, 13]) (ms := [[], [7], [14], [7, 12], [7, 14], [7, 12, 14], [7, 12, 14, 15], [7, 12, 14, 15, 16], [7, 12, 14, 15, 16, 17]]) (es := [(0, 7, 1), (0, 14, 2), (1, 12, 3), (1, 14, 4), (2, 7, 4), (3, 14, 5), (4, 12, 5), (5, 15, 6), (6, 16, 7), (7, 17, 8)]) (σ1 := _) (SM := ⟨_, [(0, _), (2, _), (3, _), (5, _), (6, _), (36, _), (37, _), (38, _), (39, _), (40, _), (41, _), (42, _), (44, _), (45, _), (46, _), (47, _), (49, _)], [(2, _), (3, _), (20001, _), (20002, _), (888888, _)]⟩)
     case hm => kernel_rfl
     case hB => kernel_rfl
     case hP => kernel_rfl
     case hL => kernel_rfl
     case hN => rfl
     case hpre =>
      apply PreOk.step (P := Tryz.prog) 0 rfl ((by exact R_fieldAddr_pp rfl (.no rfl) rfl (.tm rfl) fl27_1)) (by exact .pp) rfl rfl rfl
      apply PreOk.step (P := Tryz.prog) 1 rfl ((by exact R_load_pp rfl (.no rfl) rfl (.tm rfl) rfl ty25 rfl rfl)) (by exact HasV.load (x := .tmp 36) (.tm rfl) rfl ty25 rfl rfl) rfl rfl rfl
      apply PreOk.step (P := Tryz.prog) 2 rfl (R_move rfl (.no rfl) rfl (.tm rfl)) (by exact HasV.slot (t := 5) rfl) rfl rfl rfl
      apply PreOk.step (P := Tryz.prog) 3 rfl (R_move rfl (.no rfl) rfl (.tm rfl)) (by exact HasV.slot (t := 0) rfl) rfl rfl rfl
      apply PreOk.step (P := Tryz.prog) 4 rfl ((by exact R_fieldAddr_pp rfl (.no rfl) rfl (.tm rfl) fl27_0)) (by exact .pp) rfl rfl rfl
      apply PreOk.step (P := Tryz.prog) 5 rfl ((by exact R_load_pp rfl (.no rfl) rfl (.tm rfl) rfl ty24 rfl rfl)) (by exact HasV.load (x := .tmp 40) (.tm rfl) rfl ty24 rfl rfl) rfl rfl rfl
      apply PreOk.step (P := Tryz.prog) 6 rfl ((by exact R_lenm rfl (.no rfl) rfl (.tm rfl) (by exact .rf rfl) Tryz.underlying24)) (by exact .val rfl) rfl rfl rfl
      apply PreOk.step (P := Tryz.prog) 8 rfl (R_move rfl (.no rfl) rfl (.tm rfl)) (by exact HasV.slot (t := 0) rfl) rfl rfl rfl
      apply PreOk.step (P := Tryz.prog) 9 rfl ((by exact R_fieldAddr_pp rfl (.no rfl) rfl (.tm rfl) fl27_0)) (by exact .pp) rfl rfl rfl
      apply PreOk.step (P := Tryz.prog) 10 rfl ((by exact R_load_pp rfl (.no rfl) rfl (.tm rfl) rfl ty24 rfl rfl)) (by exact HasV.load (x := .tmp 45) (.tm rfl) rfl ty24 rfl rfl) rfl rfl rfl
      apply PreOk.step (P := Tryz.prog) 11 rfl ((by exact R_lenm rfl (.no rfl) rfl (.tm rfl) (by exact .rf rfl) Tryz.underlying24)) (by exact .val rfl) rfl rfl rfl
      apply PreOk.step (P := Tryz.prog) 13 rfl (R_move rfl (.no rfl) rfl (.tm rfl)) (by exact HasV.slot (t := 0) rfl) rfl rfl rfl
      exact PreOk.nil
     case hS => exact Sup.sub0 rfl ⟨rfl, rfl, rfl, rfl, rfl, rfl, rfl, rfl, rfl, rfl, rfl, rfl, rfl, rfl, rfl, rfl, rfl, Y⟩ ⟨rfl, rfl, rfl, rfl, rfl, Y⟩
     case hH =>
      refine ⟨⟨_, _, _, rfl, rfl, rfl, fun σ' hs => (by exact R_fieldAddr_pp rfl (.no rfl) (hd_sup hs rfl) (.tm (hs.slots _ _ rfl)) fl27_1)⟩, ?_⟩
      refine ⟨⟨_, _, _, rfl, rfl, rfl, fun σ' hs => (by exact R_load_pp rfl (.no rfl) (hd_sup hs rfl) (.tm (hs.slots _ _ rfl)) (hs.res _ _ rfl) ty25 rfl rfl)⟩, ?_⟩
      refine ⟨⟨_, _, _, rfl, rfl, rfl, fun σ' hs => R_move rfl (.no rfl) (hd_sup hs rfl) (.tm (hs.slots _ _ rfl))⟩, ?_⟩
      refine ⟨⟨_, _, _, rfl, rfl, rfl, fun σ' hs => R_move rfl (.no rfl) (hd_sup hs rfl) (.tm (hs.slots _ _ rfl))⟩, ?_⟩
      refine ⟨⟨_, _, _, rfl, rfl, rfl, fun σ' hs => (by exact R_fieldAddr_pp rfl (.no rfl) (hd_sup hs rfl) (.tm (hs.slots _ _ rfl)) fl27_0)⟩, ?_⟩
      refine ⟨⟨_, _, _, rfl, rfl, rfl, fun σ' hs => (by exact R_load_pp rfl (.no rfl) (hd_sup hs rfl) (.tm (hs.slots _ _ rfl)) (hs.res _ _ rfl) ty24 rfl rfl)⟩, ?_⟩
      refine ⟨⟨_, _, _, rfl, rfl, rfl, fun σ' hs => (by exact R_lenm rfl (.no rfl) (hd_sup hs rfl) (.tm (hs.slots _ _ rfl)) (by exact .rf (hs.res _ _ rfl)) Tryz.underlying24)⟩, ?_⟩
      refine ⟨⟨_, _, _, rfl, rfl, rfl, fun σ' hs => R_move rfl (.no rfl) (hd_sup hs rfl) (.tm (hs.slots _ _ rfl))⟩, ?_⟩
      refine ⟨⟨_, _, _, rfl, rfl, rfl, fun σ' hs => (by exact R_fieldAddr_pp rfl (.no rfl) (hd_sup hs rfl) (.tm (hs.slots _ _ rfl)) fl27_0)⟩, ?_⟩
      refine ⟨⟨_, _, _, rfl, rfl, rfl, fun σ' hs => (by exact R_load_pp rfl (.no rfl) (hd_sup hs rfl) (.tm (hs.slots _ _ rfl)) (hs.res _ _ rfl) ty24 rfl rfl)⟩, ?_⟩
      refine ⟨⟨_, _, _, rfl, rfl, rfl, fun σ' hs => (by exact R_lenm rfl (.no rfl) (hd_sup hs rfl) (.tm (hs.slots _ _ rfl)) (by exact .rf (hs.res _ _ rfl)) Tryz.underlying24)⟩, ?_⟩
      refine ⟨⟨_, _, _, rfl, rfl, rfl, fun σ' hs => R_move rfl (.no rfl) (hd_sup hs rfl) (.tm (hs.slots _ _ rfl))⟩, ?_⟩
      trivial
     apply Dh.drw0 (i := 7)
     case ha => rfl
     case ho => rfl
     case hE =>
      intro  hp
      obtain _ := hp
      exact R_calld 4300 (specl1Below _) rfl rfl rfl (.tm rfl) rfl rfl (.cons (.tm rfl) rfl .nil) (fun _ => rfl) (fun _ => rfl)
     case hb => rfl
     case hL =>
      intro  z43 hp hy
      exact EndQ.eq (Le.sub0 (σ' := ⟨_, [(0, _), (2, _), (3, _), (5, _), (6, _), (36, _), (37, _), (38, _), (39, _), (40, _), (41, _), (42, _), (43, _), (44, _), (45, _), (46, _), (47, _), (49, _)], [(2, _), (3, _), (20001, _), (20002, _), (888888, _)]⟩) U ⟨U, U, U, U, U, U, U, U, U, U, U, U, U, U, U, U, U, U, Y⟩ ⟨U, U, U, U, U, Y⟩) U
     case hS => intros; exact Sup.sub0 rfl ⟨rfl, rfl, rfl, rfl, rfl, rfl, rfl, rfl, rfl, rfl, rfl, rfl, rfl, rfl, rfl, rfl, rfl, Y⟩ ⟨rfl, rfl, rfl, rfl, rfl, Y⟩
     apply Dh.new0 (i := 14)
     case ha | ho | hb => rfl
     case hE =>
      intro w9  hp
      obtain _ := hp
      refine AWl.absadd (R_list (xs := [.const (.int .i64 (0)), .const (.int .i64 (0)), .const (.int .i64 (1)), .const (.int .i64 (2))]) 50 U U U (.cons (.const U) U U (.cons (.const U) U U (.cons (.const U) U U (.cons (.const U) U U .nil)))) Tryz.underlying24 in3 U U U U) U ?_
      refine AWl.nil ?_
      exact EndQ.eq (Le.sub0 (σ' := ⟨_, [(0, _), (2, _), (3, _), (5, _), (6, _), (36, _), (37, _), (38, _), (39, _), (40, _), (41, _), (42, _), (44, _), (45, _), (46, _), (47, _), (49, _), (50, _)], [(2, _), (3, _), (20001, _), (20002, _), (888888, _), (50, _)]⟩) U ⟨U, U, U, U, U, U, U, U, U, U, U, U, U, U, U, U, U, U, Y⟩ ⟨U, U, U, U, U, U, Y⟩) U
     case hS => intros; exact Sup.sub0 rfl ⟨rfl, rfl, rfl, rfl, rfl, rfl, rfl, rfl, rfl, rfl, rfl, rfl, rfl, rfl, rfl, rfl, rfl, Y⟩ ⟨rfl, rfl, rfl, rfl, rfl, Y⟩
     apply Dh.drw1 (i := 12)
     case ha => rfl
     case ho => rfl
     case hE =>
      intro z43 hp
      obtain ⟨_, hz43⟩ := hp
      exact R_calld 4800 (specl1Below _) rfl rfl rfl (.tm rfl) rfl rfl (.cons (.tm rfl) rfl .nil) (fun _ => rfl) (fun _ => rfl)
     case hb => rfl
     case hL =>
      intro z43 z48 hp hy
      exact EndQ.eq (Le.sub0 (σ' := ⟨_, [(0, _), (2, _), (3, _), (5, _), (6, _), (36, _), (37, _), (38, _), (39, _), (40, _), (41, _), (42, _), (43, _), (44, _), (45, _), (46, _), (47, _), (48, _), (49, _)], [(2, _), (3, _), (20001, _), (20002, _), (888888, _)]⟩) U ⟨U, U, U, U, U, U, U, U, U, U, U, U, U, U, U, U, U, U, U, Y⟩ ⟨U, U, U, U, U, Y⟩) U
     case hS => intros; exact Sup.sub0 rfl ⟨rfl, rfl, rfl, rfl, rfl, rfl, rfl, rfl, rfl, rfl, rfl, rfl, rfl, rfl, rfl, rfl, rfl, Y⟩ ⟨rfl, rfl, rfl, rfl, rfl, Y⟩
     apply Dh.new1 (i := 14)
     case ha | ho | hb => rfl
     case hE =>
      intro w9 z43 hp
      obtain ⟨_, hz43⟩ := hp
      refine AWl.absadd (R_list (xs := [.const (.int .i64 (0)), .const (.int .i64 (0)), .const (.int .i64 (1)), .const (.int .i64 (2))]) 50 U U U (.cons (.const U) U U (.cons (.const U) U U (.cons (.const U) U U (.cons (.const U) U U .nil)))) Tryz.underlying24 in3 U U U U) U ?_
      refine AWl.nil ?_
      exact EndQ.eq (Le.sub0 (σ' := ⟨_, [(0, _), (2, _), (3, _), (5, _), (6, _), (36, _), (37, _), (38, _), (39, _), (40, _), (41, _), (42, _), (43, _), (44, _), (45, _), (46, _), (47, _), (49, _), (50, _)], [(2, _), (3, _), (20001, _), (20002, _), (888888, _), (50, _)]⟩) U ⟨U, U, U, U, U, U, U, U, U, U, U, U, U, U, U, U, U, U, U, Y⟩ ⟨U, U, U, U, U, U, Y⟩) U
     case hS => intros; exact Sup.sub0 rfl ⟨rfl, rfl, rfl, rfl, rfl, rfl, rfl, rfl, rfl, rfl, rfl, rfl, rfl, rfl, rfl, rfl, rfl, Y⟩ ⟨rfl, rfl, rfl, rfl, rfl, Y⟩
     apply Dh.odr0 (i := 7)
     case ha => rfl
     case ho => rfl
     case hE =>
      intro  hp
      obtain _ := hp
      exact R_calld 4300 (specl1Below _) rfl rfl rfl (.tm rfl) rfl rfl (.cons (.tm rfl) rfl .nil) (fun _ => rfl) (fun _ => rfl)
     case hb => rfl
     case hL =>
      intro  z43 hp hy
      exact Le.sub0 U ⟨U, U, U, U, U, U, U, U, U, U, U, U, U, U, U, U, U, U, U, Y⟩ ⟨U, U, U, U, U, U, Y⟩
     apply Dh.new2 (i := 14)
     case ha | ho | hb => rfl
     case hE =>
      intro w9 z43 z48 hp
      obtain ⟨⟨_, hz43⟩, hz48⟩ := hp
      refine AWl.absadd (R_list (xs := [.const (.int .i64 (0)), .const (.int .i64 (0)), .const (.int .i64 (1)), .const (.int .i64 (2))]) 50 U U U (.cons (.const U) U U (.cons (.const U) U U (.cons (.const U) U U (.cons (.const U) U U .nil)))) Tryz.underlying24 in3 U U U U) U ?_
      refine AWl.nil ?_
      exact EndQ.eq (Le.sub0 (σ' := ⟨_, [(0, _), (2, _), (3, _), (5, _), (6, _), (36, _), (37, _), (38, _), (39, _), (40, _), (41, _), (42, _), (43, _), (44, _), (45, _), (46, _), (47, _), (48, _), (49, _), (50, _)], [(2, _), (3, _), (20001, _), (20002, _), (888888, _), (50, _)]⟩) U ⟨U, U, U, U, U, U, U, U, U, U, U, U, U, U, U, U, U, U, U, U, Y⟩ ⟨U, U, U, U, U, U, Y⟩) U
     case hS => intros; exact Sup.sub0 rfl ⟨rfl, rfl, rfl, rfl, rfl, rfl, rfl, rfl, rfl, rfl, rfl, rfl, rfl, rfl, rfl, rfl, rfl, Y⟩ ⟨rfl, rfl, rfl, rfl, rfl, Y⟩
     apply Dh.odr1 (i := 12)
     case ha => rfl
     case ho => rfl
     case hE =>
      intro z43 hp
      obtain ⟨_, hz43⟩ := hp
      exact R_calld 4800 (specl1Below _) rfl rfl rfl (.tm rfl) rfl rfl (.cons (.tm rfl) rfl .nil) (fun _ => rfl) (fun _ => rfl)
     case hb => rfl
     case hL =>
      intro z43 z48 hp hy
      exact Le.sub0 U ⟨U, U, U, U, U, U, U, U, U, U, U, U, U, U, U, U, U, U, U, U, Y⟩ ⟨U, U, U, U, U, U, Y⟩
     apply Dh.drw2 (i := 15)
     case ha => rfl
     case ho => rfl
     case hE =>
      intro z43 z48 hp
      obtain ⟨⟨_, hz43⟩, hz48⟩ := hp
      exact R_calld 5100 (specl1PickInt [0, 0, 1, 2] (by decide)) rfl rfl rfl (.tm rfl) rfl rfl (.cons (.tm rfl) rfl .nil) (fun _ => rfl) (fun _ => rfl)
     case hb => rfl
     case hL =>
      intro z43 z48 z51 hp hy
      exact EndQ.eq (Le.sub0 (σ' := ⟨_, [(0, _), (2, _), (3, _), (5, _), (6, _), (36, _), (37, _), (38, _), (39, _), (40, _), (41, _), (42, _), (43, _), (44, _), (45, _), (46, _), (47, _), (48, _), (49, _), (51, _)], [(2, _), (3, _), (20001, _), (20002, _), (888888, _), (50, _)]⟩) U ⟨U, U, U, U, U, U, U, U, U, U, U, U, U, U, U, U, U, U, U, U, Y⟩ ⟨U, U, U, U, U, U, Y⟩) U
     case hS => intros; exact Sup.sub0 rfl ⟨rfl, rfl, rfl, rfl, rfl, rfl, rfl, rfl, rfl, rfl, rfl, rfl, rfl, rfl, rfl, rfl, rfl, Y⟩ ⟨rfl, rfl, rfl, rfl, rfl, Y⟩
     apply Dh.new3 (i := 16)
     case ha | ho | hb => rfl
     case hE =>
      intro w9 z43 z48 z51 hp
      obtain ⟨⟨⟨_, hz43⟩, hz48⟩, hz51⟩ := hp
      refine AWl.p (R_build (ps := [(0, .tmp 38), (1, .tmp 43), (2, .tmp 48), (3, .tmp 51)]) U U U in39 U U st39 (.cons (.tm U) U U fp39_0 (.cons (.tm U) U U fp39_1 (.cons (.tm U) U U fp39_2 (.cons (.tm U) U U fp39_3 .nil)))) U) U ?_
      refine AWl.nil ?_
      exact EndQ.eq (Le.sub0 (σ' := ⟨_, [(0, _), (2, _), (3, _), (5, _), (6, _), (36, _), (37, _), (38, _), (39, _), (40, _), (41, _), (42, _), (44, _), (45, _), (46, _), (47, _), (49, _), (52, _)], [(2, _), (3, _), (20001, _), (20002, _), (888888, _), (50, _)]⟩) U ⟨U, U, U, U, U, U, U, U, U, U, U, U, U, U, U, U, U, U, Y⟩ ⟨U, U, U, U, U, U, Y⟩) U
     case hS => intros; exact Sup.sub0 rfl ⟨rfl, rfl, rfl, rfl, rfl, rfl, rfl, rfl, rfl, rfl, rfl, rfl, rfl, rfl, rfl, rfl, rfl, Y⟩ ⟨rfl, rfl, rfl, rfl, rfl, Y⟩
     apply Dh.new3 (i := 17)
     case ha | ho | hb => rfl
     case hE =>
      intro w9 z43 z48 z51 hp
      obtain ⟨⟨⟨_, hz43⟩, hz48⟩, hz51⟩ := hp
      refine AWl.absadd (R_list (xs := [.tmp 52]) 53 U U U (.cons (.tm U) U U .nil) Tryz.underlying25 in39 U U U U) U ?_
      refine AWl.nil ?_
      exact EndQ.eq (Le.sub0 (σ' := ⟨_, [(0, _), (2, _), (3, _), (5, _), (6, _), (36, _), (37, _), (38, _), (39, _), (40, _), (41, _), (42, _), (44, _), (45, _), (46, _), (47, _), (49, _), (53, _)], [(2, _), (3, _), (20001, _), (20002, _), (888888, _), (50, _), (53, _)]⟩) U ⟨U, U, U, U, U, U, U, U, U, U, U, U, U, U, U, U, U, U, Y⟩ ⟨U, U, U, U, U, U, U, Y⟩) U
     case hS => intros; exact Sup.sub0 rfl ⟨rfl, rfl, rfl, rfl, rfl, rfl, rfl, rfl, rfl, rfl, rfl, rfl, rfl, rfl, rfl, rfl, rfl, Y⟩ ⟨rfl, rfl, rfl, rfl, rfl, Y⟩
     refine Dh.fin3 (k := 8) rfl ?_
     intro z43 z48 z51 hp
     obtain ⟨⟨⟨_, hz43⟩, hz48⟩, hz51⟩ := hp
     refine AWl.chgput (R_append U U U (.tm U) U (.tm U) (by exact .rf U) (by rfl) Tryz.underlying25 in39 U (by (simp [chunk]; omega)) (by (unfold maxLen; simp [chunk]; omega))) U ?_
     refine AWl.le (σ' := ⟨_, [(0, _), (2, _), (3, _), (5, _), (6, _), (54, _)], [(2, _), (3, _), (20001, _), (20002, _), (888888, _), (50, _), (53, _)]⟩) (Le.sub0 U ⟨U, U, U, U, U, U, Y⟩ ⟨U, U, U, U, U, U, U, Y⟩) ?_
     refine AWl.p (by exact R_fieldAddr_pp U (.no U) U (.tm U) fl27_1) U ?_
     refine AWl.chgb (R_store_pb U U U (.tm U) (.tm U) U ty25 U U U (by kernel_rfl) U) ?_
     refine AWl.nil (AW.region ?_)
     refine AWl.mv ?_
     refine AWl.p (R_sub U (.no U) U (.tm U) (.const U) (fun _ => by omega)) U ?_
     refine AWl.av ?_
     refine AWl.nil ?_
     repeat (with_reducible refine BlockQ.nor ?_)
     refine Round3.next (n2 - 1) (id + 1 + z34) (es ++ [⟨id + 1 + z34, z43, z48, z51⟩]) ⟨by (try simp at h28); simp; omega, Y⟩ (by (try simp at h28); omega) (Le.sub0 rfl ⟨rfl, rfl, rfl, rfl, rfl, Y⟩ ⟨(by rfl), (by rfl), (by rfl), (by (refine congrArg (fun r => some (R.row _ r)) ?_; simp [chunk, List.map_set, cInt, cBool, cIntS, cPair, cToken, cExpr, cEdge, cGraph, cStep, cWalk, cChange, cBatch, cHistory, cPositions, cAutomaton, cProductStep, cPathAtom, cConjunction, cView, cDelta, cRegistered, cRegistry])), (by rfl), Y⟩)
   · skip
     try simp at h28
     refine AW.exit ?_
     refine AW.sr ?_
     refine AWl.p (by exact R_load_pp U (.no U) U (.tm U) U ty27 U U) U ?_
     refine AWl.chgb (R_store_pb U U U (.tm U) (.tm U) U ty27 U U U (by kernel_rfl) U) ?_
     refine AWl.nil (AW.ret ?_)
     apply DRes.mk (x := ⟨vs, es⟩) rfl
     case h =>
      refine Res.one U (.cell U U ty27 U U .nil) U ?_
      rfl
     case hp => exact ⟨by simp only; omega, by simp only; omega⟩
set_option maxRecDepth 100000 in
theorem specl29Two : FrD Tryz.prog 58 [] (fun _ : TExpr × TExpr => True) (fun z => .tup [.agg (cExpr z.1), .agg (cExpr z.2)]) := by
 refine FrD.walk Tryz.func58 rfl (by kernel_rfl) Tryz.ntmps58 rfl (fun g => rfl) fun w0 g => ?_
 refine AW.sr ?_
 refine AWl.add (R_alloc 2 U U U in30 U U U) U ?_
 refine AWl.add (R_alloc 3 U U U in30 U U U) U ?_
 refine AWl.nil (AW.sr ?_)
 refine AWl.mv ?_
 refine AWl.opE (R_calld 600 (specl8Expr) U U U (.tm U) U U .nil (fun _ => rfl) (fun _ => rfl)) ?_
 rintro _ ⟨z6, hz6, rfl⟩
 try dsimp only at hz6
 refine AWl.add (R_alloc 4 U U U in30 U U U) U ?_
 refine AWl.chgb (R_store_pb U U U (.tm U) (.tm U) U ty30 U U U (by kernel_rfl) U) ?_
 refine AWl.nil (AW.seq ?_)
 refine AW.sr ?_
 refine AWl.mv ?_
 refine AWl.opE (R_calld 800 (specl1Once _) U U U (.tm U) U U (.cons (.const U) U .nil) (fun _ => rfl) (fun _ => rfl)) ?_
 rintro _ ⟨z8, hz8, rfl⟩
 try dsimp only at hz8
 refine AWl.nil ?_
 refine AW.cond (.tm U) (fun h8 => ?_) (fun h8 => ?_)
 · skip
   try simp at h8
   refine AW.seq ?_
   refine AW.le (σ' := ⟨_, [(0, _), (2, _), (3, _), (4, _), (5, _), (6, _), (7, _), (8, _)], [(888888, _), (2, _), (3, _), (600, _), (4, _)]⟩) (Le.sub0 U ⟨U, U, U, U, U, U, U, U, Y⟩ ⟨U, U, U, U, U, Y⟩) ?_
   apply AW.drawnH (N := 5) (k := 2) (Hs := [0, 1, 2]) (ms := [[], [3], [3, 4]]) (es := [(0, 3, 1), (1, 4, 2)]) (σ1 := _) (SM := ⟨_, [(0, _), (2, _), (3, _), (4, _), (5, _), (6, _), (7, _), (8, _), (9, _), (10, _), (11, _)], [(888888, _), (2, _), (3, _), (600, _), (4, _)]⟩)
   case hm => kernel_rfl
   case hB => kernel_rfl
   case hP => kernel_rfl
   case hL => kernel_rfl
   case hN => rfl
   case hpre =>
    apply PreOk.step (P := Tryz.prog) 0 rfl ((by exact R_load_pp rfl (.no rfl) rfl (.tm rfl) rfl ty30 rfl rfl)) (by exact HasV.load (x := .tmp 4) (.tm rfl) rfl ty30 rfl rfl) rfl rfl rfl
    apply PreOk.step (P := Tryz.prog) 1 rfl ((by exact R_load_pp rfl (.no rfl) rfl (.tm rfl) rfl ty30 rfl rfl)) (by exact HasV.load (x := .tmp 4) (.tm rfl) rfl ty30 rfl rfl) rfl rfl rfl
    apply PreOk.step (P := Tryz.prog) 2 rfl (R_move rfl (.no rfl) rfl (.tm rfl)) (by exact HasV.slot (t := 0) rfl) rfl rfl rfl
    exact PreOk.nil
   case hS => exact Sup.sub0 rfl ⟨rfl, rfl, rfl, rfl, rfl, rfl, rfl, rfl, rfl, rfl, rfl, Y⟩ ⟨rfl, rfl, rfl, rfl, rfl, Y⟩
   case hH =>
    refine ⟨⟨_, _, _, rfl, rfl, rfl, fun σ' hs => (by exact R_load_pp rfl (.no rfl) (hd_sup hs rfl) (.tm (hs.slots _ _ rfl)) (hs.res _ _ rfl) ty30 rfl rfl)⟩, ?_⟩
    refine ⟨⟨_, _, _, rfl, rfl, rfl, fun σ' hs => (by exact R_load_pp rfl (.no rfl) (hd_sup hs rfl) (.tm (hs.slots _ _ rfl)) (hs.res _ _ rfl) ty30 rfl rfl)⟩, ?_⟩
    refine ⟨⟨_, _, _, rfl, rfl, rfl, fun σ' hs => R_move rfl (.no rfl) (hd_sup hs rfl) (.tm (hs.slots _ _ rfl))⟩, ?_⟩
    trivial
   apply Dh.drw0 (i := 3)
   case ha => rfl
   case ho => rfl
   case hE =>
    intro  hp
    obtain _ := hp
    exact R_calld 1200 (specl8Known) rfl rfl rfl (.tm rfl) rfl rfl .nil (fun _ => rfl) (fun _ => rfl)
   case hb => rfl
   case hL =>
    intro  z12 hp hy
    exact EndQ.eq (Le.sub0 (σ' := ⟨_, [(0, _), (2, _), (3, _), (4, _), (5, _), (6, _), (7, _), (8, _), (9, _), (10, _), (11, _), (12, _)], [(888888, _), (2, _), (3, _), (600, _), (4, _), (1200, _)]⟩) U ⟨U, U, U, U, U, U, U, U, U, U, U, U, Y⟩ ⟨U, U, U, U, U, U, Y⟩) U
   case hS => intros; exact Sup.sub0 rfl ⟨rfl, rfl, rfl, rfl, rfl, rfl, rfl, rfl, rfl, rfl, rfl, Y⟩ ⟨rfl, rfl, rfl, rfl, rfl, Y⟩
   apply Dh.new1 (i := 4)
   case ha | ho | hb => rfl
   case hE =>
    intro w9 z12 hp
    obtain ⟨_, hz12⟩ := hp
    refine AWl.adds (R_call 1300 (specUnionExpr z6 z12 (by omega)) U U U (.cons (.tm U) U (.cons (.tm U) U .nil)) U U) U ?_
    refine AWl.nil ?_
    exact EndQ.eq (Le.sub0 (σ' := ⟨_, [(0, _), (2, _), (3, _), (4, _), (5, _), (6, _), (7, _), (8, _), (9, _), (10, _), (11, _), (13, _)], [(888888, _), (2, _), (3, _), (600, _), (4, _), (1200, _), (1300, _)]⟩) U ⟨U, U, U, U, U, U, U, U, U, U, U, U, Y⟩ ⟨U, U, U, U, U, U, U, Y⟩) U
   case hS => intros; exact Sup.sub0 rfl ⟨rfl, rfl, rfl, rfl, rfl, rfl, rfl, rfl, rfl, rfl, rfl, Y⟩ ⟨rfl, rfl, rfl, rfl, rfl, Y⟩
   refine Dh.fin1 (k := 2) rfl ?_
   intro z12 hp
   obtain ⟨_, hz12⟩ := hp
   refine AWl.chgb (R_store_pb U U U (.tm U) (.tm U) U ty30 U U U (by kernel_rfl) U) ?_
   refine AWl.le (σ' := ⟨_, [(0, _), (2, _), (3, _), (4, _), (8, _), (13, _)], [(888888, _), (2, _), (3, _), (600, _), (4, _), (1200, _), (1300, _)]⟩) (Le.sub0 U ⟨U, U, U, U, U, U, Y⟩ ⟨U, U, U, U, U, U, U, Y⟩) ?_
   refine AWl.chgb (R_store_pb U U U (.tm U) (.tm U) U ty30 U U U (by kernel_rfl) U) ?_
   refine AWl.nil (AW.ret ?_)
   apply DRRes.mk (x := (z6, ⟨unionL z6.Tokens z12.Tokens⟩)) rfl
   case h =>
    refine ResR.many U (.cell U U ty30 U U (.cell U U ty30 U U .nil)) U ?_ (by simp)
    rfl
   case hp => exact trivial
 · skip
   try simp at h8
   refine AW.skip ?_
   refine AW.seq ?_
   refine AW.sr ?_
   refine AWl.mv ?_
   refine AWl.opE (R_calld 1500 (specl1Once _) U U U (.tm U) U U (.cons (.const U) U .nil) (fun _ => rfl) (fun _ => rfl)) ?_
   rintro _ ⟨z15, hz15, rfl⟩
   try dsimp only at hz15
   refine AWl.nil ?_
   refine AW.cond (.tm U) (fun h15 => ?_) (fun h15 => ?_)
   · skip
     try simp at h15
     refine AW.le (σ' := ⟨_, [(0, _), (2, _), (3, _), (4, _)], [(888888, _), (2, _), (3, _), (600, _), (4, _)]⟩) (Le.sub0 U ⟨U, U, U, U, Y⟩ ⟨U, U, U, U, U, Y⟩) ?_
     refine AW.region ?_
     refine AWl.mv ?_
     refine AWl.opE (R_calldr 1700 (specl8Any) U U U (.tm U) U U .nil U) ?_
     rintro _ ⟨z17, hz17, rfl⟩
     try dsimp only at hz17
     refine AWl.chgb (R_store_pb U U U (.tm U) (.tm U) U ty30 U U U (by kernel_rfl) U) ?_
     refine AWl.nil (AW.seq ?_)
     refine AW.le (σ' := ⟨_, [(0, _), (2, _), (3, _), (4, _), (16, _), (17, _)], [(888888, _), (2, _), (3, _), (600, _), (4, _), (1700, _)]⟩) (Le.sub0 U ⟨U, U, U, U, U, U, Y⟩ ⟨U, U, U, U, U, U, Y⟩) ?_
     apply AW.drawnH (N := 3) (k := 1) (Hs := [0, 1]) (ms := [[], [2]]) (es := [(0, 2, 1)]) (σ1 := _) (SM := ⟨_, [(0, _), (2, _), (3, _), (4, _), (16, _), (17, _), (18, _), (19, _)], [(888888, _), (2, _), (3, _), (600, _), (4, _), (1700, _)]⟩)
     case hm => kernel_rfl
     case hB => kernel_rfl
     case hP => kernel_rfl
     case hL => kernel_rfl
     case hN => rfl
     case hpre =>
      apply PreOk.step (P := Tryz.prog) 0 rfl ((by exact R_load_pp rfl (.no rfl) rfl (.tm rfl) rfl ty30 rfl rfl)) (by exact HasV.load (x := .tmp 4) (.tm rfl) rfl ty30 rfl rfl) rfl rfl rfl
      apply PreOk.step (P := Tryz.prog) 1 rfl (R_move rfl (.no rfl) rfl (.tm rfl)) (by exact HasV.slot (t := 0) rfl) rfl rfl rfl
      exact PreOk.nil
     case hS => exact Sup.sub0 rfl ⟨rfl, rfl, rfl, rfl, rfl, rfl, rfl, rfl, Y⟩ ⟨rfl, rfl, rfl, rfl, rfl, rfl, Y⟩
     case hH =>
      refine ⟨⟨_, _, _, rfl, rfl, rfl, fun σ' hs => (by exact R_load_pp rfl (.no rfl) (hd_sup hs rfl) (.tm (hs.slots _ _ rfl)) (hs.res _ _ rfl) ty30 rfl rfl)⟩, ?_⟩
      refine ⟨⟨_, _, _, rfl, rfl, rfl, fun σ' hs => R_move rfl (.no rfl) (hd_sup hs rfl) (.tm (hs.slots _ _ rfl))⟩, ?_⟩
      trivial
     apply Dh.drw0 (i := 2)
     case ha => rfl
     case ho => rfl
     case hE =>
      intro  hp
      obtain _ := hp
      exact R_calld 2000 (specl8Known) rfl rfl rfl (.tm rfl) rfl rfl .nil (fun _ => rfl) (fun _ => rfl)
     case hb => rfl
     case hL =>
      intro  z20 hp hy
      exact EndQ.eq (Le.sub0 (σ' := ⟨_, [(0, _), (2, _), (3, _), (4, _), (16, _), (17, _), (18, _), (19, _), (20, _)], [(888888, _), (2, _), (3, _), (600, _), (4, _), (1700, _), (2000, _)]⟩) U ⟨U, U, U, U, U, U, U, U, U, Y⟩ ⟨U, U, U, U, U, U, U, Y⟩) U
     case hS => intros; exact Sup.sub0 rfl ⟨rfl, rfl, rfl, rfl, rfl, rfl, rfl, rfl, Y⟩ ⟨rfl, rfl, rfl, rfl, rfl, rfl, Y⟩
     refine Dh.fin1 (k := 1) rfl ?_
     intro z20 hp
     obtain ⟨_, hz20⟩ := hp
     refine AWl.chgb (R_store_pb U U U (.tm U) (.tm U) U ty30 U U U (by kernel_rfl) U) ?_
     refine AWl.le (σ' := ⟨_, [(0, _), (2, _), (3, _), (4, _), (20, _)], [(888888, _), (2, _), (3, _), (600, _), (4, _), (1700, _), (2000, _)]⟩) (Le.sub0 U ⟨U, U, U, U, U, Y⟩ ⟨U, U, U, U, U, U, U, Y⟩) ?_
     refine AWl.chgb (R_store_pb U U U (.tm U) (.tm U) U ty30 U U U (by kernel_rfl) U) ?_
     refine AWl.nil (AW.ret ?_)
     apply DRRes.mk (x := (z17, z20)) rfl
     case h =>
      refine ResR.many U (.cell U U ty30 U U (.cell U U ty30 U U .nil)) U ?_ (by simp)
      rfl
     case hp => exact trivial
   · skip
     try simp at h15
     refine AW.skip ?_
     refine AW.seq ?_
     refine AW.le (σ' := ⟨_, [(0, _), (2, _), (3, _), (4, _)], [(888888, _), (2, _), (3, _), (600, _), (4, _)]⟩) (Le.sub0 U ⟨U, U, U, U, Y⟩ ⟨U, U, U, U, U, Y⟩) ?_
     refine AW.le (σ' := ⟨_, [(0, _), (2, _), (3, _), (4, _)], [(888888, _), (2, _), (3, _), (600, _), (4, _)]⟩) (Le.sub0 U ⟨U, U, U, U, Y⟩ ⟨U, U, U, U, U, Y⟩) ?_
     apply AW.drawnH (N := 3) (k := 1) (Hs := [0, 1]) (ms := [[], [2]]) (es := [(0, 2, 1)]) (σ1 := _) (SM := ⟨_, [(0, _), (2, _), (3, _), (4, _), (18, _), (19, _)], [(888888, _), (2, _), (3, _), (600, _), (4, _)]⟩)
     case hm => kernel_rfl
     case hB => kernel_rfl
     case hP => kernel_rfl
     case hL => kernel_rfl
     case hN => rfl
     case hpre =>
      apply PreOk.step (P := Tryz.prog) 0 rfl ((by exact R_load_pp rfl (.no rfl) rfl (.tm rfl) rfl ty30 rfl rfl)) (by exact HasV.load (x := .tmp 4) (.tm rfl) rfl ty30 rfl rfl) rfl rfl rfl
      apply PreOk.step (P := Tryz.prog) 1 rfl (R_move rfl (.no rfl) rfl (.tm rfl)) (by exact HasV.slot (t := 0) rfl) rfl rfl rfl
      exact PreOk.nil
     case hS => exact Sup.sub0 rfl ⟨rfl, rfl, rfl, rfl, rfl, rfl, Y⟩ ⟨rfl, rfl, rfl, rfl, rfl, Y⟩
     case hH =>
      refine ⟨⟨_, _, _, rfl, rfl, rfl, fun σ' hs => (by exact R_load_pp rfl (.no rfl) (hd_sup hs rfl) (.tm (hs.slots _ _ rfl)) (hs.res _ _ rfl) ty30 rfl rfl)⟩, ?_⟩
      refine ⟨⟨_, _, _, rfl, rfl, rfl, fun σ' hs => R_move rfl (.no rfl) (hd_sup hs rfl) (.tm (hs.slots _ _ rfl))⟩, ?_⟩
      trivial
     apply Dh.drw0 (i := 2)
     case ha => rfl
     case ho => rfl
     case hE =>
      intro  hp
      obtain _ := hp
      exact R_calld 2000 (specl8Known) rfl rfl rfl (.tm rfl) rfl rfl .nil (fun _ => rfl) (fun _ => rfl)
     case hb => rfl
     case hL =>
      intro  z20 hp hy
      exact EndQ.eq (Le.sub0 (σ' := ⟨_, [(0, _), (2, _), (3, _), (4, _), (18, _), (19, _), (20, _)], [(888888, _), (2, _), (3, _), (600, _), (4, _), (2000, _)]⟩) U ⟨U, U, U, U, U, U, U, Y⟩ ⟨U, U, U, U, U, U, Y⟩) U
     case hS => intros; exact Sup.sub0 rfl ⟨rfl, rfl, rfl, rfl, rfl, rfl, Y⟩ ⟨rfl, rfl, rfl, rfl, rfl, Y⟩
     refine Dh.fin1 (k := 1) rfl ?_
     intro z20 hp
     obtain ⟨_, hz20⟩ := hp
     refine AWl.chgb (R_store_pb U U U (.tm U) (.tm U) U ty30 U U U (by kernel_rfl) U) ?_
     refine AWl.le (σ' := ⟨_, [(0, _), (2, _), (3, _), (4, _), (20, _)], [(888888, _), (2, _), (3, _), (600, _), (4, _), (2000, _)]⟩) (Le.sub0 U ⟨U, U, U, U, U, Y⟩ ⟨U, U, U, U, U, U, Y⟩) ?_
     refine AWl.chgb (R_store_pb U U U (.tm U) (.tm U) U ty30 U U U (by kernel_rfl) U) ?_
     refine AWl.nil (AW.ret ?_)
     apply DRRes.mk (x := (z6, z20)) rfl
     case h =>
      refine ResR.many U (.cell U U ty30 U U (.cell U U ty30 U U .nil)) U ?_ (by simp)
      rfl
     case hp => exact trivial
set_option maxRecDepth 100000 in
theorem specl29Graph (bs : List Int) (hb : ∀ n ∈ bs, 0 ≤ n ∧ n < 256) : FrX Tryz.prog 28 [.one (.sl 1 (byR bs))] shrP shrOut := by
 refine FrX.walk Tryz.func28 rfl (by kernel_rfl) Tryz.ntmps28 rfl fun w0 => ?_
 refine AW.sr ?_
 refine AWl.add (R_alloc 2 U U U in27 U U U) U ?_
 refine AWl.add (R_alloc 3 U U U in30 U U U) U ?_
 refine AWl.add (R_alloc 4 U U U in30 U U U) U ?_
 refine AWl.ac ?_
 refine AWl.ac ?_
 refine AWl.nil (AW.sr ?_)
 refine AWl.mv ?_
 refine AWl.opE (R_calln 888888 (specl1New) U U U (.tm U) (by assumption) U) ?_
 rintro _ ⟨g, rfl⟩
 refine AWl.av ?_
 refine AWl.nil (AW.sr ?_)
 refine AWl.mv ?_
 refine AWl.opE (R_calld 2000 (specl3Graph) U U U (.tm U) U U .nil (fun _ => rfl) (fun _ => rfl)) ?_
 rintro _ ⟨z20, hz20, rfl⟩
 try dsimp only at hz20
 refine AWl.add (R_alloc 8 U U U in27 U U U) U ?_
 refine AWl.chgb (R_store_pb U U U (.tm U) (.tm U) U ty27 U U U (by kernel_rfl) U) ?_
 refine AWl.nil (AW.sr ?_)
 refine AWl.mv ?_
 refine AWl.opE (R_calldr 2300 (specl29Two) U U U (.tm U) U U .nil U) ?_
 rintro _ ⟨z23, hz23, rfl⟩
 try dsimp only at hz23
 refine AWl.p (R_movet U (.no U) U U fun _ => rfl) U ?_
 refine AWl.p (R_extract U (.no U) U U (fun _ => rfl) U) U ?_
 refine AWl.p (R_extract U (.no U) U U (fun _ => rfl) U) U ?_
 refine AWl.add (R_alloc 9 U U U in30 U U U) U ?_
 refine AWl.add (R_alloc 10 U U U in30 U U U) U ?_
 refine AWl.chgb (R_store_pb U U U (.tm U) (.tm U) U ty30 U U U (by kernel_rfl) U) ?_
 refine AWl.le (σ' := ⟨_, [(0, _), (2, _), (3, _), (4, _), (5, _), (6, _), (7, _), (8, _), (9, _), (10, _), (25, _)], [(2, _), (3, _), (4, _), (888888, _), (2000, _), (2001, _), (8, _), (2300, _), (9, _), (10, _)]⟩) (Le.sub0 U ⟨U, U, U, U, U, U, U, U, U, U, U, Y⟩ ⟨U, U, U, U, U, U, U, U, U, U, Y⟩) ?_
 refine AWl.chgb (R_store_pb U U U (.tm U) (.tm U) U ty30 U U U (by kernel_rfl) U) ?_
 refine AWl.nil (AW.sr ?_)
 refine AWl.p (by exact R_load_pp U (.no U) U (.tm U) U ty27 U U) U ?_
 refine AWl.p (by exact R_load_pp U (.no U) U (.tm U) U ty30 U U) U ?_
 refine AWl.adds (R_call 2900 (specEvaluateExpr z20 z23.1) U U U (.cons (.tm U) U (.cons (.tm U) U .nil)) U U) U ?_
 refine AWl.p (R_movet U (.no U) U U fun _ => rfl) U ?_
 refine AWl.p (R_extract U (.no U) U U (fun _ => rfl) U) U ?_
 refine AWl.p (R_extract U (.no U) U U (fun _ => rfl) U) U ?_
 refine AWl.av ?_
 refine AWl.av ?_
 refine AWl.nil (AW.seq ?_)
 refine AW.le (σ' := ⟨_, [(0, _), (2, _), (3, _), (4, _), (5, _), (6, _), (7, _), (8, _), (9, _), (10, _), (11, _)], [(2, _), (3, _), (4, _), (888888, _), (2000, _), (2001, _), (8, _), (2300, _), (9, _), (10, _), (2900, _)]⟩) (Le.sub0 U ⟨U, U, U, U, U, U, U, U, U, U, U, Y⟩ ⟨U, U, U, U, U, U, U, U, U, U, U, Y⟩) ?_
 refine AW.region ?_
 refine AWl.p (by exact R_load_pp U (.no U) U (.tm U) U ty27 U U) U ?_
 refine AWl.p (by exact R_load_pp U (.no U) U (.tm U) U ty30 U U) U ?_
 refine AWl.adds (R_call 3500 (specEvaluateExpr z20 z23.2) U U U (.cons (.tm U) U (.cons (.tm U) U .nil)) U U) U ?_
 refine AWl.p (R_movet U (.no U) U U fun _ => rfl) U ?_
 refine AWl.p (R_extract U (.no U) U U (fun _ => rfl) U) U ?_
 refine AWl.p (R_extract U (.no U) U U (fun _ => rfl) U) U ?_
 refine AWl.av ?_
 refine AWl.av ?_
 refine AWl.nil (AW.seq ?_)
 refine AW.le (σ' := ⟨_, [(0, _), (2, _), (3, _), (4, _), (5, _), (6, _), (7, _), (8, _), (9, _), (10, _), (11, _), (13, _)], [(2, _), (3, _), (4, _), (888888, _), (2000, _), (2001, _), (8, _), (2300, _), (9, _), (10, _), (2900, _), (3500, _)]⟩) (Le.sub0 U ⟨U, U, U, U, U, U, U, U, U, U, U, U, Y⟩ ⟨U, U, U, U, U, U, U, U, U, U, U, U, Y⟩) ?_
 refine AW.region ?_
 refine AWl.mv ?_
 refine AWl.mv ?_
 refine AWl.adds (R_call 4000 (specSubtractPairs (evalE z20 z23.1).1 (evalE z20 z23.2).1 (evalE_few z20 z23.1)) U U U (.cons (.tm U) U (.cons (.tm U) U .nil)) U U) U ?_
 refine AWl.av ?_
 refine AWl.nil (AW.seq ?_)
 refine AW.sr ?_
 refine AWl.mv ?_
 refine AWl.p (by exact R_lenm U (.no U) U (.tm U) (by exact .rf U) Tryz.underlying58) U ?_
 refine AWl.p (R_gt U (.no U) U (.tm U) (.const U)) U ?_
 refine AWl.mv ?_
 refine AWl.p (R_move U (by exact .yes1 U U U U) U (.tmp U (by exact fun _ => rfl))) U ?_
 refine AWl.opE (R_calldq 4600 (specl1Once _) U (by exact .yes1 U U U U) U (.tmp U (by exact id)) U U (.cons (.const U) U .nil) (fun _ => rfl)) ?_
 rintro _ ⟨z46, hz46, rfl⟩
 try dsimp only at hz46
 refine AWl.p (R_not U (by exact .yes1 U U U U) U (.tmp U (by exact id))) U ?_
 refine AWl.p (R_and U (.no U) U (.tm U) (.tmp U (by exact id))) U ?_
 refine AWl.nil ?_
 refine AW.cond (.tm U) (fun h48 => ?_) (fun h48 => ?_)
 · skip
   skip
   have hpos : 0 < (psub (evalE z20 z23.1).1 (evalE z20 z23.2).1).length := (by simp at h48; exact h48.1)
   refine AW.seq ?_
   refine AW.le (σ' := ⟨_, [(0, _), (2, _), (3, _), (4, _), (5, _), (6, _), (7, _), (8, _), (9, _), (10, _), (11, _), (13, _), (15, _)], [(2, _), (3, _), (4, _), (888888, _), (2000, _), (2001, _), (8, _), (2300, _), (9, _), (10, _), (2900, _), (3500, _), (4000, _)]⟩) (Le.sub0 U ⟨U, U, U, U, U, U, U, U, U, U, U, U, U, Y⟩ ⟨U, U, U, U, U, U, U, U, U, U, U, U, U, Y⟩) ?_
   refine AW.region ?_
   refine AWl.mv ?_
   refine AWl.mv ?_
   refine AWl.mv ?_
   refine AWl.p (by exact R_lenm U (.no U) U (.tm U) (by exact .rf U) Tryz.underlying58) U ?_
   refine AWl.opE (R_calld 5300 (specl1Below _) U U U (.tm U) U U (.cons (.tm U) U .nil) (fun _ => rfl) (fun _ => rfl)) ?_
   rintro _ ⟨z53, hz53, rfl⟩
   try dsimp only at hz53
   refine AWl.p ((by exact R_indexAddr_rf U (.no U) U (.tm U) U (.tm U) Tryz.underlying58 ty63 (fun _ => ⟨by simp at hz53; omega, map_get (List.getElem?_eq_getElem (i := z53.toNat) (show z53.toNat < (psub (evalE z20 z23.1).1 (evalE z20 z23.2).1).length by simp at hz53; omega))⟩))) U ?_
   refine AWl.p ((by exact R_load_pr U (.no U) U (.tm U) U (map_get (List.getElem?_eq_getElem (i := z53.toNat) (show z53.toNat < (psub (evalE z20 z23.1).1 (evalE z20 z23.2).1).length by simp at hz53; omega))) ty63 U U)) U ?_
   refine AWl.add (R_alloc 16 U U U in63 U U U) U ?_
   refine AWl.chgb (R_store_pb U U U (.tm U) (.tm U) U ty63 U U U (by kernel_rfl) U) ?_
   refine AWl.nil (AW.seq ?_)
   refine AW.le (σ' := ⟨_, [(0, _), (2, _), (3, _), (4, _), (5, _), (6, _), (7, _), (8, _), (9, _), (10, _), (11, _), (13, _), (15, _), (16, _)], [(2, _), (3, _), (4, _), (888888, _), (2000, _), (2001, _), (8, _), (2300, _), (9, _), (10, _), (2900, _), (3500, _), (4000, _), (16, _)]⟩) (Le.sub0 U ⟨U, U, U, U, U, U, U, U, U, U, U, U, U, U, Y⟩ ⟨U, U, U, U, U, U, U, U, U, U, U, U, U, U, Y⟩) ?_
   refine AW.le (σ' := ⟨_, [(0, _), (2, _), (3, _), (4, _), (6, _), (7, _), (8, _), (9, _), (10, _), (11, _), (13, _), (15, _), (16, _)], [(2, _), (3, _), (4, _), (888888, _), (2000, _), (2001, _), (8, _), (2300, _), (9, _), (10, _), (2900, _), (3500, _), (4000, _), (16, _)]⟩) (Le.sub0 U ⟨U, U, U, U, U, U, U, U, U, U, U, U, U, Y⟩ ⟨U, U, U, U, U, U, U, U, U, U, U, U, U, U, Y⟩) ?_
   apply AW.drawnH (N := 11) (k := 4) (Hs := [0, 1, 2, 3, 4, 5, 6]) (ms := [[], [7], [7, 8], [7, 8, 9], [7, 8, 9, 10]]) (es := [(0, 7, 1), (1, 8, 2), (2, 9, 3), (3, 10, 4)]) (σ1 := _) (SM := ⟨_, [(0, _), (2, _), (3, _), (4, _), (6, _), (7, _), (8, _), (9, _), (10, _), (11, _), (13, _), (15, _), (16, _), (56, _), (57, _), (58, _), (59, _), (60, _), (61, _), (62, _)], [(888888, _), (2000, _), (2001, _), (8, _), (2300, _), (9, _), (10, _), (2900, _), (3500, _), (4000, _), (16, _)]⟩)
   case hm => kernel_rfl
   case hB => kernel_rfl
   case hP => kernel_rfl
   case hL => kernel_rfl
   case hN => rfl
   case hpre =>
    apply PreOk.step (P := Tryz.prog) 0 rfl ((by exact R_load_pp rfl (.no rfl) rfl (.tm rfl) rfl ty27 rfl rfl)) (by exact HasV.load (x := .tmp 8) (.tm rfl) rfl ty27 rfl rfl) rfl rfl rfl
    apply PreOk.step (P := Tryz.prog) 1 rfl ((by exact R_load_pp rfl (.no rfl) rfl (.tm rfl) rfl ty30 rfl rfl)) (by exact HasV.load (x := .tmp 9) (.tm rfl) rfl ty30 rfl rfl) rfl rfl rfl
    apply PreOk.step (P := Tryz.prog) 2 rfl ((by exact R_load_pp rfl (.no rfl) rfl (.tm rfl) rfl ty30 rfl rfl)) (by exact HasV.load (x := .tmp 10) (.tm rfl) rfl ty30 rfl rfl) rfl rfl rfl
    apply PreOk.step (P := Tryz.prog) 3 rfl ((by exact R_fieldAddr_pp rfl (.no rfl) rfl (.tm rfl) fl63_0)) (by exact .pp) rfl rfl rfl
    apply PreOk.step (P := Tryz.prog) 4 rfl ((by exact R_load_pp rfl (.no rfl) rfl (.tm rfl) rfl ty3 rfl rfl)) (by exact HasV.load (x := .tmp 59) (.tm rfl) rfl ty3 rfl rfl) rfl rfl rfl
    apply PreOk.step (P := Tryz.prog) 5 rfl ((by exact R_fieldAddr_pp rfl (.no rfl) rfl (.tm rfl) fl63_1)) (by exact .pp) rfl rfl rfl
    apply PreOk.step (P := Tryz.prog) 6 rfl ((by exact R_load_pp rfl (.no rfl) rfl (.tm rfl) rfl ty3 rfl rfl)) (by exact HasV.load (x := .tmp 61) (.tm rfl) rfl ty3 rfl rfl) rfl rfl rfl
    exact PreOk.nil
   case hS => exact Sup.sub0 rfl ⟨rfl, rfl, rfl, rfl, rfl, rfl, rfl, rfl, rfl, rfl, rfl, rfl, rfl, rfl, rfl, rfl, rfl, rfl, rfl, rfl, Y⟩ ⟨rfl, rfl, rfl, rfl, rfl, rfl, rfl, rfl, rfl, rfl, rfl, Y⟩
   case hH =>
    refine ⟨⟨_, _, _, rfl, rfl, rfl, fun σ' hs => (by exact R_load_pp rfl (.no rfl) (hd_sup hs rfl) (.tm (hs.slots _ _ rfl)) (hs.res _ _ rfl) ty27 rfl rfl)⟩, ?_⟩
    refine ⟨⟨_, _, _, rfl, rfl, rfl, fun σ' hs => (by exact R_load_pp rfl (.no rfl) (hd_sup hs rfl) (.tm (hs.slots _ _ rfl)) (hs.res _ _ rfl) ty30 rfl rfl)⟩, ?_⟩
    refine ⟨⟨_, _, _, rfl, rfl, rfl, fun σ' hs => (by exact R_load_pp rfl (.no rfl) (hd_sup hs rfl) (.tm (hs.slots _ _ rfl)) (hs.res _ _ rfl) ty30 rfl rfl)⟩, ?_⟩
    refine ⟨⟨_, _, _, rfl, rfl, rfl, fun σ' hs => (by exact R_fieldAddr_pp rfl (.no rfl) (hd_sup hs rfl) (.tm (hs.slots _ _ rfl)) fl63_0)⟩, ?_⟩
    refine ⟨⟨_, _, _, rfl, rfl, rfl, fun σ' hs => (by exact R_load_pp rfl (.no rfl) (hd_sup hs rfl) (.tm (hs.slots _ _ rfl)) (hs.res _ _ rfl) ty3 rfl rfl)⟩, ?_⟩
    refine ⟨⟨_, _, _, rfl, rfl, rfl, fun σ' hs => (by exact R_fieldAddr_pp rfl (.no rfl) (hd_sup hs rfl) (.tm (hs.slots _ _ rfl)) fl63_1)⟩, ?_⟩
    refine ⟨⟨_, _, _, rfl, rfl, rfl, fun σ' hs => (by exact R_load_pp rfl (.no rfl) (hd_sup hs rfl) (.tm (hs.slots _ _ rfl)) (hs.res _ _ rfl) ty3 rfl rfl)⟩, ?_⟩
    trivial
   apply Dh.new0 (i := 7)
   case ha | ho | hb => rfl
   case hE =>
    intro w9  hp
    obtain _ := hp
    refine AWl.chgb (R_store_pb U U U (.tm U) (.tm U) U ty27 U U U (by kernel_rfl) U) ?_
    refine AWl.nil ?_
    exact EndQ.eq (Le.sub0 (σ' := ⟨_, [(0, _), (2, _), (3, _), (4, _), (6, _), (7, _), (8, _), (9, _), (10, _), (11, _), (13, _), (15, _), (16, _), (56, _), (57, _), (58, _), (59, _), (60, _), (61, _), (62, _)], [(2, _), (3, _), (4, _), (888888, _), (2000, _), (2001, _), (8, _), (2300, _), (9, _), (10, _), (2900, _), (3500, _), (4000, _), (16, _)]⟩) U ⟨U, U, U, U, U, U, U, U, U, U, U, U, U, U, U, U, U, U, U, U, Y⟩ ⟨U, U, U, U, U, U, U, U, U, U, U, U, U, U, Y⟩) U
   case hS => intros; exact Sup.sub0 rfl ⟨rfl, rfl, rfl, rfl, rfl, rfl, rfl, rfl, rfl, rfl, rfl, rfl, rfl, rfl, rfl, rfl, rfl, rfl, rfl, rfl, Y⟩ ⟨rfl, rfl, rfl, rfl, rfl, rfl, rfl, rfl, rfl, rfl, rfl, Y⟩
   apply Dh.new0 (i := 8)
   case ha | ho | hb => rfl
   case hE =>
    intro w9  hp
    obtain _ := hp
    refine AWl.chgb (R_store_pb U U U (.tm U) (.tm U) U ty30 U U U (by kernel_rfl) U) ?_
    refine AWl.nil ?_
    exact EndQ.eq (Le.sub0 (σ' := ⟨_, [(0, _), (2, _), (3, _), (4, _), (6, _), (7, _), (8, _), (9, _), (10, _), (11, _), (13, _), (15, _), (16, _), (56, _), (57, _), (58, _), (59, _), (60, _), (61, _), (62, _)], [(2, _), (3, _), (4, _), (888888, _), (2000, _), (2001, _), (8, _), (2300, _), (9, _), (10, _), (2900, _), (3500, _), (4000, _), (16, _)]⟩) U ⟨U, U, U, U, U, U, U, U, U, U, U, U, U, U, U, U, U, U, U, U, Y⟩ ⟨U, U, U, U, U, U, U, U, U, U, U, U, U, U, Y⟩) U
   case hS => intros; exact Sup.sub0 rfl ⟨rfl, rfl, rfl, rfl, rfl, rfl, rfl, rfl, rfl, rfl, rfl, rfl, rfl, rfl, rfl, rfl, rfl, rfl, rfl, rfl, Y⟩ ⟨rfl, rfl, rfl, rfl, rfl, rfl, rfl, rfl, rfl, rfl, rfl, Y⟩
   apply Dh.new0 (i := 9)
   case ha | ho | hb => rfl
   case hE =>
    intro w9  hp
    obtain _ := hp
    refine AWl.chgb (R_store_pb U U U (.tm U) (.tm U) U ty30 U U U (by kernel_rfl) U) ?_
    refine AWl.nil ?_
    exact EndQ.eq (Le.sub0 (σ' := ⟨_, [(0, _), (2, _), (3, _), (4, _), (6, _), (7, _), (8, _), (9, _), (10, _), (11, _), (13, _), (15, _), (16, _), (56, _), (57, _), (58, _), (59, _), (60, _), (61, _), (62, _)], [(2, _), (3, _), (4, _), (888888, _), (2000, _), (2001, _), (8, _), (2300, _), (9, _), (10, _), (2900, _), (3500, _), (4000, _), (16, _)]⟩) U ⟨U, U, U, U, U, U, U, U, U, U, U, U, U, U, U, U, U, U, U, U, Y⟩ ⟨U, U, U, U, U, U, U, U, U, U, U, U, U, U, Y⟩) U
   case hS => intros; exact Sup.sub0 rfl ⟨rfl, rfl, rfl, rfl, rfl, rfl, rfl, rfl, rfl, rfl, rfl, rfl, rfl, rfl, rfl, rfl, rfl, rfl, rfl, rfl, Y⟩ ⟨rfl, rfl, rfl, rfl, rfl, rfl, rfl, rfl, rfl, rfl, rfl, Y⟩
   apply Dh.new0 (i := 10)
   case ha | ho | hb => rfl
   case hE =>
    intro w9  hp
    obtain _ := hp
    refine AWl.av ?_
    refine AWl.nil ?_
    exact EndQ.eq (Le.sub0 (σ' := ⟨_, [(0, _), (2, _), (3, _), (4, _), (5, _), (6, _), (7, _), (8, _), (9, _), (10, _), (11, _), (13, _), (15, _), (16, _), (56, _), (57, _), (58, _), (59, _), (60, _), (61, _), (62, _)], [(2, _), (3, _), (4, _), (888888, _), (2000, _), (2001, _), (8, _), (2300, _), (9, _), (10, _), (2900, _), (3500, _), (4000, _), (16, _)]⟩) U ⟨U, U, U, U, U, U, U, U, U, U, U, U, U, U, U, U, U, U, U, U, U, Y⟩ ⟨U, U, U, U, U, U, U, U, U, U, U, U, U, U, Y⟩) U
   case hS => intros; exact Sup.sub0 rfl ⟨rfl, rfl, rfl, rfl, rfl, rfl, rfl, rfl, rfl, rfl, rfl, rfl, rfl, rfl, rfl, rfl, rfl, rfl, rfl, rfl, Y⟩ ⟨rfl, rfl, rfl, rfl, rfl, rfl, rfl, rfl, rfl, rfl, rfl, Y⟩
   refine Dh.fin0 (k := 4) rfl ?_
   intro  hp
   obtain _ := hp
   refine AWl.av ?_
   refine AWl.nil (AW.ret ?_)
   apply ERRes.mk (x := (z20, z23.1, z23.2, ((psub (evalE z20 z23.1).1 (evalE z20 z23.2).1)[z53.toNat]'(by simp at hz53; omega)).From, ((psub (evalE z20 z23.1).1 (evalE z20 z23.2).1)[z53.toNat]'(by simp at hz53; omega)).To))
   case h =>
    refine ResR.many U (.cell U U ty27 U U (.cell U U ty30 U U (.cell U U ty30 U U (.tmp U (.tmp U .nil))))) U ?_ (by simp)
    rfl
   case hp => exact hz20
 · skip
   skip
   refine AW.skip ?_
   refine AW.seq ?_
   refine AW.le (σ' := ⟨_, [(0, _), (2, _), (3, _), (4, _), (5, _), (6, _), (7, _), (8, _), (9, _), (10, _), (11, _), (13, _), (15, _)], [(2, _), (3, _), (4, _), (888888, _), (2000, _), (2001, _), (8, _), (2300, _), (9, _), (10, _), (2900, _), (3500, _), (4000, _)]⟩) (Le.sub0 U ⟨U, U, U, U, U, U, U, U, U, U, U, U, U, Y⟩ ⟨U, U, U, U, U, U, U, U, U, U, U, U, U, Y⟩) ?_
   refine AW.le (σ' := ⟨_, [(0, _), (2, _), (3, _), (4, _), (5, _), (6, _), (7, _), (8, _), (9, _), (10, _), (11, _), (13, _), (15, _)], [(2, _), (3, _), (4, _), (888888, _), (2000, _), (2001, _), (8, _), (2300, _), (9, _), (10, _), (2900, _), (3500, _), (4000, _)]⟩) (Le.sub0 U ⟨U, U, U, U, U, U, U, U, U, U, U, U, U, Y⟩ ⟨U, U, U, U, U, U, U, U, U, U, U, U, U, Y⟩) ?_
   apply AW.drawnH (N := 11) (k := 4) (Hs := [0, 1, 2, 3, 4, 6, 7]) (ms := [[], [5], [5, 8], [5, 8, 9], [5, 8, 9, 10]]) (es := [(0, 5, 1), (1, 8, 2), (2, 9, 3), (3, 10, 4)]) (σ1 := _) (SM := ⟨_, [(0, _), (2, _), (3, _), (4, _), (5, _), (6, _), (7, _), (8, _), (9, _), (10, _), (11, _), (13, _), (15, _), (63, _), (64, _), (65, _), (66, _), (67, _), (69, _), (70, _)], [(4, _), (888888, _), (2000, _), (2001, _), (8, _), (2300, _), (9, _), (10, _), (2900, _), (3500, _), (4000, _)]⟩)
   case hm => kernel_rfl
   case hB => kernel_rfl
   case hP => kernel_rfl
   case hL => kernel_rfl
   case hN => rfl
   case hpre =>
    apply PreOk.step (P := Tryz.prog) 0 rfl ((by exact R_load_pp rfl (.no rfl) rfl (.tm rfl) rfl ty27 rfl rfl)) (by exact HasV.load (x := .tmp 8) (.tm rfl) rfl ty27 rfl rfl) rfl rfl rfl
    apply PreOk.step (P := Tryz.prog) 1 rfl ((by exact R_load_pp rfl (.no rfl) rfl (.tm rfl) rfl ty30 rfl rfl)) (by exact HasV.load (x := .tmp 9) (.tm rfl) rfl ty30 rfl rfl) rfl rfl rfl
    apply PreOk.step (P := Tryz.prog) 2 rfl ((by exact R_load_pp rfl (.no rfl) rfl (.tm rfl) rfl ty30 rfl rfl)) (by exact HasV.load (x := .tmp 10) (.tm rfl) rfl ty30 rfl rfl) rfl rfl rfl
    apply PreOk.step (P := Tryz.prog) 3 rfl (R_move rfl (.no rfl) rfl (.tm rfl)) (by exact HasV.slot (t := 7) rfl) rfl rfl rfl
    apply PreOk.step (P := Tryz.prog) 4 rfl ((by exact R_load_pp rfl (.no rfl) rfl (.tm rfl) rfl ty27 rfl rfl)) (by exact HasV.load (x := .tmp 8) (.tm rfl) rfl ty27 rfl rfl) rfl rfl rfl
    apply PreOk.step (P := Tryz.prog) 6 rfl (R_move rfl (.no rfl) rfl (.tm rfl)) (by exact HasV.slot (t := 7) rfl) rfl rfl rfl
    apply PreOk.step (P := Tryz.prog) 7 rfl ((by exact R_load_pp rfl (.no rfl) rfl (.tm rfl) rfl ty27 rfl rfl)) (by exact HasV.load (x := .tmp 8) (.tm rfl) rfl ty27 rfl rfl) rfl rfl rfl
    exact PreOk.nil
   case hS => exact Sup.sub0 rfl ⟨rfl, rfl, rfl, rfl, rfl, rfl, rfl, rfl, rfl, rfl, rfl, rfl, rfl, rfl, rfl, rfl, rfl, rfl, rfl, rfl, Y⟩ ⟨rfl, rfl, rfl, rfl, rfl, rfl, rfl, rfl, rfl, rfl, rfl, Y⟩
   case hH =>
    refine ⟨⟨_, _, _, rfl, rfl, rfl, fun σ' hs => (by exact R_load_pp rfl (.no rfl) (hd_sup hs rfl) (.tm (hs.slots _ _ rfl)) (hs.res _ _ rfl) ty27 rfl rfl)⟩, ?_⟩
    refine ⟨⟨_, _, _, rfl, rfl, rfl, fun σ' hs => (by exact R_load_pp rfl (.no rfl) (hd_sup hs rfl) (.tm (hs.slots _ _ rfl)) (hs.res _ _ rfl) ty30 rfl rfl)⟩, ?_⟩
    refine ⟨⟨_, _, _, rfl, rfl, rfl, fun σ' hs => (by exact R_load_pp rfl (.no rfl) (hd_sup hs rfl) (.tm (hs.slots _ _ rfl)) (hs.res _ _ rfl) ty30 rfl rfl)⟩, ?_⟩
    refine ⟨⟨_, _, _, rfl, rfl, rfl, fun σ' hs => R_move rfl (.no rfl) (hd_sup hs rfl) (.tm (hs.slots _ _ rfl))⟩, ?_⟩
    refine ⟨⟨_, _, _, rfl, rfl, rfl, fun σ' hs => (by exact R_load_pp rfl (.no rfl) (hd_sup hs rfl) (.tm (hs.slots _ _ rfl)) (hs.res _ _ rfl) ty27 rfl rfl)⟩, ?_⟩
    refine ⟨⟨_, _, _, rfl, rfl, rfl, fun σ' hs => R_move rfl (.no rfl) (hd_sup hs rfl) (.tm (hs.slots _ _ rfl))⟩, ?_⟩
    refine ⟨⟨_, _, _, rfl, rfl, rfl, fun σ' hs => (by exact R_load_pp rfl (.no rfl) (hd_sup hs rfl) (.tm (hs.slots _ _ rfl)) (hs.res _ _ rfl) ty27 rfl rfl)⟩, ?_⟩
    trivial
   apply Dh.drw0 (i := 5)
   case ha => rfl
   case ho => rfl
   case hE =>
    intro  hp
    obtain _ := hp
    exact R_calld 6800 (specl4Node z20) rfl rfl rfl (.tm rfl) rfl rfl (.cons (.tm rfl) rfl .nil) (fun _ => rfl) (fun _ => rfl)
   case hb => rfl
   case hL =>
    intro  z68 hp hy
    exact EndQ.eq (Le.sub0 (σ' := ⟨_, [(0, _), (2, _), (3, _), (4, _), (5, _), (6, _), (7, _), (8, _), (9, _), (10, _), (11, _), (13, _), (15, _), (63, _), (64, _), (65, _), (66, _), (67, _), (68, _), (69, _), (70, _)], [(2, _), (3, _), (4, _), (888888, _), (2000, _), (2001, _), (8, _), (2300, _), (9, _), (10, _), (2900, _), (3500, _), (4000, _)]⟩) U ⟨U, U, U, U, U, U, U, U, U, U, U, U, U, U, U, U, U, U, U, U, U, Y⟩ ⟨U, U, U, U, U, U, U, U, U, U, U, U, U, Y⟩) U
   case hS => intros; exact Sup.sub0 rfl ⟨rfl, rfl, rfl, rfl, rfl, rfl, rfl, rfl, rfl, rfl, rfl, rfl, rfl, rfl, rfl, rfl, rfl, rfl, rfl, rfl, Y⟩ ⟨rfl, rfl, rfl, rfl, rfl, rfl, rfl, rfl, rfl, rfl, rfl, Y⟩
   apply Dh.drw1 (i := 8)
   case ha => rfl
   case ho => rfl
   case hE =>
    intro z68 hp
    obtain ⟨_, hz68⟩ := hp
    exact R_calld 7100 (specl4Node z20) rfl rfl rfl (.tm rfl) rfl rfl (.cons (.tm rfl) rfl .nil) (fun _ => rfl) (fun _ => rfl)
   case hb => rfl
   case hL =>
    intro z68 z71 hp hy
    exact EndQ.eq (Le.sub0 (σ' := ⟨_, [(0, _), (2, _), (3, _), (4, _), (5, _), (6, _), (7, _), (8, _), (9, _), (10, _), (11, _), (13, _), (15, _), (63, _), (64, _), (65, _), (66, _), (67, _), (68, _), (69, _), (70, _), (71, _)], [(2, _), (3, _), (4, _), (888888, _), (2000, _), (2001, _), (8, _), (2300, _), (9, _), (10, _), (2900, _), (3500, _), (4000, _)]⟩) U ⟨U, U, U, U, U, U, U, U, U, U, U, U, U, U, U, U, U, U, U, U, U, U, Y⟩ ⟨U, U, U, U, U, U, U, U, U, U, U, U, U, Y⟩) U
   case hS => intros; exact Sup.sub0 rfl ⟨rfl, rfl, rfl, rfl, rfl, rfl, rfl, rfl, rfl, rfl, rfl, rfl, rfl, rfl, rfl, rfl, rfl, rfl, rfl, rfl, Y⟩ ⟨rfl, rfl, rfl, rfl, rfl, rfl, rfl, rfl, rfl, rfl, rfl, Y⟩
   apply Dh.new2 (i := 9)
   case ha | ho | hb => rfl
   case hE =>
    intro w9 z68 z71 hp
    obtain ⟨⟨_, hz68⟩, hz71⟩ := hp
    refine AWl.chgb (R_store_pb U U U (.tm U) (.tm U) U ty27 U U U (by kernel_rfl) U) ?_
    refine AWl.nil ?_
    exact EndQ.eq (Le.sub0 (σ' := ⟨_, [(0, _), (2, _), (3, _), (4, _), (5, _), (6, _), (7, _), (8, _), (9, _), (10, _), (11, _), (13, _), (15, _), (63, _), (64, _), (65, _), (66, _), (67, _), (68, _), (69, _), (70, _), (71, _)], [(2, _), (3, _), (4, _), (888888, _), (2000, _), (2001, _), (8, _), (2300, _), (9, _), (10, _), (2900, _), (3500, _), (4000, _)]⟩) U ⟨U, U, U, U, U, U, U, U, U, U, U, U, U, U, U, U, U, U, U, U, U, U, Y⟩ ⟨U, U, U, U, U, U, U, U, U, U, U, U, U, Y⟩) U
   case hS => intros; exact Sup.sub0 rfl ⟨rfl, rfl, rfl, rfl, rfl, rfl, rfl, rfl, rfl, rfl, rfl, rfl, rfl, rfl, rfl, rfl, rfl, rfl, rfl, rfl, Y⟩ ⟨rfl, rfl, rfl, rfl, rfl, rfl, rfl, rfl, rfl, rfl, rfl, Y⟩
   apply Dh.new2 (i := 10)
   case ha | ho | hb => rfl
   case hE =>
    intro w9 z68 z71 hp
    obtain ⟨⟨_, hz68⟩, hz71⟩ := hp
    refine AWl.chgb (R_store_pb U U U (.tm U) (.tm U) U ty30 U U U (by kernel_rfl) U) ?_
    refine AWl.nil ?_
    exact EndQ.eq (Le.sub0 (σ' := ⟨_, [(0, _), (2, _), (3, _), (4, _), (5, _), (6, _), (7, _), (8, _), (9, _), (10, _), (11, _), (13, _), (15, _), (63, _), (64, _), (65, _), (66, _), (67, _), (68, _), (69, _), (70, _), (71, _)], [(2, _), (3, _), (4, _), (888888, _), (2000, _), (2001, _), (8, _), (2300, _), (9, _), (10, _), (2900, _), (3500, _), (4000, _)]⟩) U ⟨U, U, U, U, U, U, U, U, U, U, U, U, U, U, U, U, U, U, U, U, U, U, Y⟩ ⟨U, U, U, U, U, U, U, U, U, U, U, U, U, Y⟩) U
   case hS => intros; exact Sup.sub0 rfl ⟨rfl, rfl, rfl, rfl, rfl, rfl, rfl, rfl, rfl, rfl, rfl, rfl, rfl, rfl, rfl, rfl, rfl, rfl, rfl, rfl, Y⟩ ⟨rfl, rfl, rfl, rfl, rfl, rfl, rfl, rfl, rfl, rfl, rfl, Y⟩
   refine Dh.fin2 (k := 4) rfl ?_
   intro z68 z71 hp
   obtain ⟨⟨_, hz68⟩, hz71⟩ := hp
   refine AWl.chgb (R_store_pb U U U (.tm U) (.tm U) U ty30 U U U (by kernel_rfl) U) ?_
   refine AWl.le (σ' := ⟨_, [(0, _), (2, _), (3, _), (4, _), (5, _), (6, _), (7, _), (8, _), (9, _), (10, _), (11, _), (13, _), (15, _), (68, _), (71, _)], [(2, _), (3, _), (4, _), (888888, _), (2000, _), (2001, _), (8, _), (2300, _), (9, _), (10, _), (2900, _), (3500, _), (4000, _)]⟩) (Le.sub0 U ⟨U, U, U, U, U, U, U, U, U, U, U, U, U, U, U, Y⟩ ⟨U, U, U, U, U, U, U, U, U, U, U, U, U, Y⟩) ?_
   refine AWl.av ?_
   refine AWl.av ?_
   refine AWl.nil (AW.ret ?_)
   apply ERRes.mk (x := (z20, z23.1, z23.2, z68, z71))
   case h =>
    refine ResR.many U (.cell U U ty27 U U (.cell U U ty30 U U (.cell U U ty30 U U (.tmp U (.tmp U .nil))))) U ?_ (by simp)
    rfl
   case hp => exact hz20
set_option maxRecDepth 100000 in
theorem specDrawShrinkRefutation (bs : List Int) (hb : ∀ n ∈ bs, 0 ≤ n ∧ n < 256) : FrX Tryz.prog 7 [.one (.sl 1 (byR bs))] shrP shrOut := by
 refine FrX.walk Tryz.func7 rfl (by kernel_rfl) Tryz.ntmps7 rfl fun w0 => ?_
 refine AW.sr ?_
 refine AWl.add (R_alloc 2 U U U in27 U U U) U ?_
 refine AWl.add (R_alloc 3 U U U in30 U U U) U ?_
 refine AWl.add (R_alloc 4 U U U in30 U U U) U ?_
 refine AWl.ac ?_
 refine AWl.ac ?_
 refine AWl.nil (AW.sr ?_)
 refine AWl.mv ?_
 refine AWl.opE (R_callX 1400 (specl29Graph bs hb) U U U (.cons (.tm U) U .nil) U) ?_
 rintro _ ⟨z14, hz14, rfl⟩
 try dsimp only at hz14
 refine AWl.p (R_movet U (.no U) U U fun _ => rfl) U ?_
 refine AWl.p (R_extract U (.no U) U U (fun _ => rfl) U) U ?_
 refine AWl.p (R_extract U (.no U) U U (fun _ => rfl) U) U ?_
 refine AWl.p (R_extract U (.no U) U U (fun _ => rfl) U) U ?_
 refine AWl.p (R_extract U (.no U) U U (fun _ => rfl) U) U ?_
 refine AWl.p (R_extract U (.no U) U U (fun _ => rfl) U) U ?_
 refine AWl.add (R_alloc 7 U U U in27 U U U) U ?_
 refine AWl.add (R_alloc 8 U U U in30 U U U) U ?_
 refine AWl.add (R_alloc 9 U U U in30 U U U) U ?_
 refine AWl.chgb (R_store_pb U U U (.tm U) (.tm U) U ty27 U U U (by kernel_rfl) U) ?_
 refine AWl.le (σ' := ⟨_, [(0, _), (2, _), (3, _), (4, _), (5, _), (6, _), (7, _), (8, _), (9, _), (16, _), (17, _), (18, _), (19, _)], [(2, _), (3, _), (4, _), (1400, _), (7, _), (8, _), (9, _)]⟩) (Le.sub0 U ⟨U, U, U, U, U, U, U, U, U, U, U, U, U, Y⟩ ⟨U, U, U, U, U, U, U, Y⟩) ?_
 refine AWl.chgb (R_store_pb U U U (.tm U) (.tm U) U ty30 U U U (by kernel_rfl) U) ?_
 refine AWl.le (σ' := ⟨_, [(0, _), (2, _), (3, _), (4, _), (5, _), (6, _), (7, _), (8, _), (9, _), (17, _), (18, _), (19, _)], [(2, _), (3, _), (4, _), (1400, _), (7, _), (8, _), (9, _)]⟩) (Le.sub0 U ⟨U, U, U, U, U, U, U, U, U, U, U, U, Y⟩ ⟨U, U, U, U, U, U, U, Y⟩) ?_
 refine AWl.chgb (R_store_pb U U U (.tm U) (.tm U) U ty30 U U U (by kernel_rfl) U) ?_
 refine AWl.le (σ' := ⟨_, [(0, _), (2, _), (3, _), (4, _), (5, _), (6, _), (7, _), (8, _), (9, _), (18, _), (19, _)], [(2, _), (3, _), (4, _), (1400, _), (7, _), (8, _), (9, _)]⟩) (Le.sub0 U ⟨U, U, U, U, U, U, U, U, U, U, U, Y⟩ ⟨U, U, U, U, U, U, U, Y⟩) ?_
 refine AWl.av ?_
 refine AWl.av ?_
 refine AWl.nil (AW.seq ?_)
 refine AW.le (σ' := ⟨_, [(0, _), (2, _), (3, _), (4, _), (6, _), (7, _), (8, _), (9, _), (10, _), (11, _), (18, _), (19, _)], [(2, _), (3, _), (4, _), (1400, _), (7, _), (8, _), (9, _)]⟩) (Le.sub0 U ⟨U, U, U, U, U, U, U, U, U, U, U, U, Y⟩ ⟨U, U, U, U, U, U, U, Y⟩) ?_
 apply AW.drawnH (N := 9) (k := 4) (Hs := [0, 1, 2, 3, 4]) (ms := [[], [5], [5, 6], [5, 6, 7], [5, 6, 7, 8]]) (es := [(0, 5, 1), (1, 6, 2), (2, 7, 3), (3, 8, 4)]) (σ1 := _) (SM := ⟨_, [(0, _), (2, _), (3, _), (4, _), (6, _), (7, _), (8, _), (9, _), (10, _), (11, _), (18, _), (19, _), (20, _), (21, _), (22, _), (23, _), (24, _)], [(1400, _), (7, _), (8, _), (9, _)]⟩)
 case hm => kernel_rfl
 case hB => kernel_rfl
 case hP => kernel_rfl
 case hL => kernel_rfl
 case hN => rfl
 case hpre =>
  apply PreOk.step (P := Tryz.prog) 0 rfl ((by exact R_load_pp rfl (.no rfl) rfl (.tm rfl) rfl ty27 rfl rfl)) (by exact HasV.load (x := .tmp 7) (.tm rfl) rfl ty27 rfl rfl) rfl rfl rfl
  apply PreOk.step (P := Tryz.prog) 1 rfl ((by exact R_load_pp rfl (.no rfl) rfl (.tm rfl) rfl ty30 rfl rfl)) (by exact HasV.load (x := .tmp 8) (.tm rfl) rfl ty30 rfl rfl) rfl rfl rfl
  apply PreOk.step (P := Tryz.prog) 2 rfl ((by exact R_load_pp rfl (.no rfl) rfl (.tm rfl) rfl ty30 rfl rfl)) (by exact HasV.load (x := .tmp 9) (.tm rfl) rfl ty30 rfl rfl) rfl rfl rfl
  apply PreOk.step (P := Tryz.prog) 3 rfl (R_move rfl (.no rfl) rfl (.tm rfl)) (by exact HasV.slot (t := 10) rfl) rfl rfl rfl
  apply PreOk.step (P := Tryz.prog) 4 rfl (R_move rfl (.no rfl) rfl (.tm rfl)) (by exact HasV.slot (t := 11) rfl) rfl rfl rfl
  exact PreOk.nil
 case hS => exact Sup.sub0 rfl ⟨rfl, rfl, rfl, rfl, rfl, rfl, rfl, rfl, rfl, rfl, rfl, rfl, rfl, rfl, rfl, rfl, rfl, Y⟩ ⟨rfl, rfl, rfl, rfl, Y⟩
 case hH =>
  refine ⟨⟨_, _, _, rfl, rfl, rfl, fun σ' hs => (by exact R_load_pp rfl (.no rfl) (hd_sup hs rfl) (.tm (hs.slots _ _ rfl)) (hs.res _ _ rfl) ty27 rfl rfl)⟩, ?_⟩
  refine ⟨⟨_, _, _, rfl, rfl, rfl, fun σ' hs => (by exact R_load_pp rfl (.no rfl) (hd_sup hs rfl) (.tm (hs.slots _ _ rfl)) (hs.res _ _ rfl) ty30 rfl rfl)⟩, ?_⟩
  refine ⟨⟨_, _, _, rfl, rfl, rfl, fun σ' hs => (by exact R_load_pp rfl (.no rfl) (hd_sup hs rfl) (.tm (hs.slots _ _ rfl)) (hs.res _ _ rfl) ty30 rfl rfl)⟩, ?_⟩
  refine ⟨⟨_, _, _, rfl, rfl, rfl, fun σ' hs => R_move rfl (.no rfl) (hd_sup hs rfl) (.tm (hs.slots _ _ rfl))⟩, ?_⟩
  refine ⟨⟨_, _, _, rfl, rfl, rfl, fun σ' hs => R_move rfl (.no rfl) (hd_sup hs rfl) (.tm (hs.slots _ _ rfl))⟩, ?_⟩
  trivial
 apply Dh.new0 (i := 5)
 case ha | ho | hb => rfl
 case hE =>
  intro w9  hp
  obtain _ := hp
  refine AWl.chgb (R_store_pb U U U (.tm U) (.tm U) U ty27 U U U (by kernel_rfl) U) ?_
  refine AWl.nil ?_
  exact EndQ.eq (Le.sub0 (σ' := ⟨_, [(0, _), (2, _), (3, _), (4, _), (6, _), (7, _), (8, _), (9, _), (10, _), (11, _), (18, _), (19, _), (20, _), (21, _), (22, _), (23, _), (24, _)], [(2, _), (3, _), (4, _), (1400, _), (7, _), (8, _), (9, _)]⟩) U ⟨U, U, U, U, U, U, U, U, U, U, U, U, U, U, U, U, U, Y⟩ ⟨U, U, U, U, U, U, U, Y⟩) U
 case hS => intros; exact Sup.sub0 rfl ⟨rfl, rfl, rfl, rfl, rfl, rfl, rfl, rfl, rfl, rfl, rfl, rfl, rfl, rfl, rfl, rfl, rfl, Y⟩ ⟨rfl, rfl, rfl, rfl, Y⟩
 apply Dh.new0 (i := 6)
 case ha | ho | hb => rfl
 case hE =>
  intro w9  hp
  obtain _ := hp
  refine AWl.chgb (R_store_pb U U U (.tm U) (.tm U) U ty30 U U U (by kernel_rfl) U) ?_
  refine AWl.nil ?_
  exact EndQ.eq (Le.sub0 (σ' := ⟨_, [(0, _), (2, _), (3, _), (4, _), (6, _), (7, _), (8, _), (9, _), (10, _), (11, _), (18, _), (19, _), (20, _), (21, _), (22, _), (23, _), (24, _)], [(2, _), (3, _), (4, _), (1400, _), (7, _), (8, _), (9, _)]⟩) U ⟨U, U, U, U, U, U, U, U, U, U, U, U, U, U, U, U, U, Y⟩ ⟨U, U, U, U, U, U, U, Y⟩) U
 case hS => intros; exact Sup.sub0 rfl ⟨rfl, rfl, rfl, rfl, rfl, rfl, rfl, rfl, rfl, rfl, rfl, rfl, rfl, rfl, rfl, rfl, rfl, Y⟩ ⟨rfl, rfl, rfl, rfl, Y⟩
 apply Dh.new0 (i := 7)
 case ha | ho | hb => rfl
 case hE =>
  intro w9  hp
  obtain _ := hp
  refine AWl.chgb (R_store_pb U U U (.tm U) (.tm U) U ty30 U U U (by kernel_rfl) U) ?_
  refine AWl.nil ?_
  exact EndQ.eq (Le.sub0 (σ' := ⟨_, [(0, _), (2, _), (3, _), (4, _), (6, _), (7, _), (8, _), (9, _), (10, _), (11, _), (18, _), (19, _), (20, _), (21, _), (22, _), (23, _), (24, _)], [(2, _), (3, _), (4, _), (1400, _), (7, _), (8, _), (9, _)]⟩) U ⟨U, U, U, U, U, U, U, U, U, U, U, U, U, U, U, U, U, Y⟩ ⟨U, U, U, U, U, U, U, Y⟩) U
 case hS => intros; exact Sup.sub0 rfl ⟨rfl, rfl, rfl, rfl, rfl, rfl, rfl, rfl, rfl, rfl, rfl, rfl, rfl, rfl, rfl, rfl, rfl, Y⟩ ⟨rfl, rfl, rfl, rfl, Y⟩
 apply Dh.new0 (i := 8)
 case ha | ho | hb => rfl
 case hE =>
  intro w9  hp
  obtain _ := hp
  refine AWl.av ?_
  refine AWl.nil ?_
  exact EndQ.eq (Le.sub0 (σ' := ⟨_, [(0, _), (2, _), (3, _), (4, _), (5, _), (6, _), (7, _), (8, _), (9, _), (10, _), (11, _), (18, _), (19, _), (20, _), (21, _), (22, _), (23, _), (24, _)], [(2, _), (3, _), (4, _), (1400, _), (7, _), (8, _), (9, _)]⟩) U ⟨U, U, U, U, U, U, U, U, U, U, U, U, U, U, U, U, U, U, Y⟩ ⟨U, U, U, U, U, U, U, Y⟩) U
 case hS => intros; exact Sup.sub0 rfl ⟨rfl, rfl, rfl, rfl, rfl, rfl, rfl, rfl, rfl, rfl, rfl, rfl, rfl, rfl, rfl, rfl, rfl, Y⟩ ⟨rfl, rfl, rfl, rfl, Y⟩
 refine Dh.fin0 (k := 4) rfl ?_
 intro  hp
 obtain _ := hp
 refine AWl.av ?_
 refine AWl.nil (AW.ret ?_)
 apply ERRes.mk (x := z14)
 case h =>
  refine ResR.many U (.cell U U ty27 U U (.cell U U ty30 U U (.cell U U ty30 U U (.tmp U (.tmp U .nil))))) U ?_ (by simp)
  rfl
 case hp => exact hz14
end Go.Proofs.YtbkhopfpejhnlaaGreat
