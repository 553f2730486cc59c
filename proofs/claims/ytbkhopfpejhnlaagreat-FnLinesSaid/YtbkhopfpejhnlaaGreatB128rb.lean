import Derived.Test.YtbkhopfpejhnlaaGreatB127rb
import Derived.Test.YtbkhopfpejhnlaaGreatB131rb
import Derived.Test.YtbkhopfpejhnlaaGreatB121rb
import Derived.Test.YtbkhopfpejhnlaaGreatStdrb
set_option linter.unusedVariables false
set_option linter.unusedSimpArgs false
set_option maxHeartbeats 1000000
set_option maxRecDepth 100000
namespace Go.Q
open Go.RowKit Go.D
def matchT (e : TExpr) (w : List Int) : Bool := match treeM e.Tokens with | some x => tk x w | none => false
def matchW (e : TExpr) (w : List Int) : Bool := isValidExpr e && isWord w && matchT e w
theorem matchW_line {e : TExpr} {w : List Int} (hf : (lineGraph w).2 = true) (h : matchW e w = true) : onLine e w = true := by
 unfold matchW at h
 simp only [Bool.and_eq_true] at h
 obtain ⟨x, hx, _⟩ := valid_tree h.1.1
 have hm := h.2
 unfold matchT at hm
 rw [hx] at hm
 exact onLine_of hf h.1.1 hx hm
end Go.Q
namespace Go.Proofs.YtbkhopfpejhnlaaGreat
open Go.RowKit Go.Q Go.D
set_option maxRecDepth 100000 in
theorem implEqualGraphs (g h : TGraph) : FnT Tryz.prog 10 [.agg (cGraph g), .agg (cGraph h)] (.a (.one (.v (.bool (decide (g = h)))))) := by
 refine FnT.walk Tryz.func10 U (by kernel_rfl) Tryz.ntmps10 U fun hlen w0 => ?_
 try simp [cPair, cToken, cExpr, cEdge, cGraph, cStep, cWalk, cChange, cBatch, cHistory, cPositions, cAutomaton, cProductStep, cPathAtom, cConjunction, cView, cDelta, cRegistered, cRegistry] at hlen
 refine AW.sr ?_
 refine AWl.put (R_boxz U U U (.tm U) (ts := _) (by rfl)) U ?_
 refine AWl.put (R_boxz U U U (.tm U) (ts := _) (by rfl)) U ?_
 refine AWl.ac U U U U U ?_
 refine AWl.nil (AW.sr ?_)
 refine AWl.put (by exact R_fieldAddr U (.no U) U (.tm U) fl27_0) U ?_
 refine AWl.put (by exact R_load U (.no U) U (.tm U) ty24 U U) U ?_
 refine AWl.put (by exact R_fieldAddr U (.no U) U (.tm U) fl27_0) U ?_
 refine AWl.put (by exact R_load U (.no U) U (.tm U) ty24 U U) U ?_
 refine AWl.put (R_callz (FnT.fr (slicesEqualInt g.Values h.Values)) U (.no U) U (.cons (.tm U) U (.cons (.tm U) U .nil))) U ?_
 refine AWl.mv U U U U U ?_
 refine AWl.put (by exact R_fieldAddr U (by exact .yes1 U U U U) U (.tmp U (by exact fun _ => rfl)) fl27_1) U ?_
 refine AWl.put (by exact R_load U (by exact .yes1 U U U U) U (.tmp U (by exact id)) ty25 U U) U ?_
 refine AWl.put (by exact R_fieldAddr U (by exact .yes1 U U U U) U (.tmp U (by exact fun _ => rfl)) fl27_1) U ?_
 refine AWl.put (by exact R_load U (by exact .yes1 U U U U) U (.tmp U (by exact id)) ty25 U U) U ?_
 refine AWl.put (R_callq U (by exact .yes1 U U U U) U (.cons (.tmp U (by exact id)) U (.cons (.tmp U (by exact id)) U .nil)) fun hq => FnT.fr (slicesEqualEdge g.Edges h.Edges)) U ?_
 refine AWl.put (R_and U (.no U) U (.tm U) (.tmp U (by exact id))) U ?_
 refine AWl.av U U U U U ?_
 refine AWl.nil (AW.ret ?_)
 refine Res.v U U ?_
 cases g; cases h; simp
set_option maxRecDepth 100000 in
theorem specl9MatchV (e : TExpr) (w : List Int) (he : isValidExpr e = true) (hw : isWord w = true) : FnT Tryz.prog 49 [.one (.sl 4 (e.Tokens.map cToken)), .one (.sl 1 (w.map cInt))] (.a (.one (.v (.bool (matchT e w))))) := by
 obtain ⟨x, hx, _, _, hl⟩ := valid_tree he
 have hrun : runTr [] e.Tokens = some [x] := by
  unfold treeM at hx
  split at hx
  · rename_i y hy; cases hx; exact hy
  · cases hx
 have h := specl9Match w (by have := isWord_len hw; omega) x e.Tokens hrun (by omega)
 have : matchT e w = tk x w := by unfold matchT; rw [hx]
 rw [this]; exact h
set_option maxRecDepth 100000 in
theorem specMatchesWord (e : TExpr) (w : List Int) : FnT Tryz.prog 18 [.agg (cExpr e), .one (.sl 1 (w.map cInt))] (.a (.one (.v (.bool (matchW e w))))) := by
 refine FnT.walk Tryz.func18 U (by kernel_rfl) Tryz.ntmps18 U fun hlen w0 => ?_
 try simp [cPair, cToken, cExpr, cEdge, cGraph, cStep, cWalk, cChange, cBatch, cHistory, cPositions, cAutomaton, cProductStep, cPathAtom, cConjunction, cView, cDelta, cRegistered, cRegistry] at hlen
 refine AW.sr ?_
 refine AWl.put (R_boxz U U U (.tm U) (ts := _) (by rfl)) U ?_
 refine AWl.ac U U U U U ?_
 refine AWl.nil (AW.sr ?_)
 refine AWl.put (by exact R_load U (.no U) U (.tm U) ty30 U U) U ?_
 refine AWl.put (R_callz (FnT.fr (specIsValidExpr e)) U (.no U) U (.cons (.tm U) U .nil)) U ?_
 refine AWl.mv U U U U U ?_
 refine AWl.put (R_move U (by exact .yes1 U U U U) U (.tmp U (by exact fun _ => rfl))) U ?_
 refine AWl.put (R_callq U (by exact .yes1 U U U U) U (.cons (.tmp U (by exact id)) U .nil) fun hq => FnT.fr (specIsWord w)) U ?_
 refine AWl.put (R_and U (.no U) U (.tm U) (.tmp U (by exact id))) U ?_
 refine AWl.mv U U U U U ?_
 refine AWl.put (by exact R_fieldAddr U (by exact .yes1 U U U U) U (.tmp U (by exact fun _ => rfl)) fl30_0) U ?_
 refine AWl.put (by exact R_load U (by exact .yes1 U U U U) U (.tmp U (by exact id)) ty28 U U) U ?_
 refine AWl.put (R_move U (by exact .yes1 U U U U) U (.tmp U (by exact fun _ => rfl))) U ?_
 refine AWl.put (R_callq U (by exact .yes1 U U U U) U (.cons (.tmp U (by exact id)) U (.cons (.tmp U (by exact id)) U .nil)) fun hq => FnT.fr (specl9MatchV e w (by simp at hq; exact hq.1) (by simp at hq; exact hq.2))) U ?_
 refine AWl.put (R_and U (.no U) U (.tm U) (.tmp U (by exact id))) U ?_
 refine AWl.av U U U U U ?_
 refine AWl.nil (AW.ret ?_)
 refine Res.v U U ?_
 rfl
set_option maxRecDepth 100000 in
theorem specAlphabetD (e : TExpr) (hle : e.Tokens.length ≤ 64) : FnE Tryz.prog 74 [.agg (cExpr e)] (fun l : List Int => l.length ≤ 30) (fun l => .a (.one (.sl 1 (l.map cInt)))) := by
 have hrng : isExpr e.Tokens = true → ∀ t ∈ e.Tokens, t.Kind = 3 → 0 ≤ t.Letter ∧ t.Letter ≤ 8 := fun hi t ht hk => by
  rw [isExpr_tree] at hi
  obtain ⟨x, hx⟩ := Option.isSome_iff_exists.1 hi
  obtain ⟨htk, hgx⟩ := treeM_toks hx
  have hlets : letsT e.Tokens = lets x := by rw [← htk]; exact lets_toks x hgx
  exact lets_rng x hgx t.Letter (by rw [← hlets]; unfold letsT; rw [List.mem_filterMap]; exact ⟨t, ht, by rw [if_pos hk]⟩)
 refine FnE.walk Tryz.func74 rfl (by kernel_rfl) Tryz.ntmps74 rfl fun w0 => ?_
 refine AW.sr ?_
 refine AWl.put (R_boxz U U U (.tm U) (ts := _) (by rfl)) U ?_
 refine AWl.ac U U U U U ?_
 refine AWl.nilS (i := 2) 20001 1 U U ?_
 refine AWl.nil (AW.sr ?_)
 refine AWl.ac U U U U U ?_
 refine AWl.nil (AW.seq ?_)
 refine AW.sr ?_
 refine AWl.ac U U U U U ?_
 refine AWl.nil (AW.block ?_)
 refine AW.loop2 (fun (i : Nat) (m : Nat) => (i ≤ e.Tokens.length ∧ m < 2 ^ 9) ∧ True) (fun (i : Nat) (m : Nat) => ⟨_, [(4, (true, .a (.one (.t (.v (.int .i64 (i : Nat))))))), (3, (true, .a (.one (.t (.v (.int .i64 (m : Nat))))))), (1, _), (2, _)], []⟩) (fun (i : Nat) (m : Nat) => e.Tokens.length - i) (0) (0) ⟨⟨Nat.zero_le _, by decide⟩, trivial⟩ (Le.sub0 U ⟨U, U, U, U, trivial⟩ trivial) ?_
 rintro i m ⟨hk, he⟩
 refine AW.seq ?_
 refine AW.sr ?_
 refine AWl.mv U U U U U ?_
 refine AWl.put (by exact R_fieldAddr U (.no U) U (.tm U) fl30_0) U ?_
 refine AWl.put (by exact R_load U (.no U) U (.tm U) ty28 U U) U ?_
 refine AWl.put (by exact R_lenm U (.no U) U (.tm U) (by exact .t) Tryz.underlying28) U ?_
 refine AWl.put (R_lt U (.no U) U (.tm U) (.tm U)) U ?_
 refine AWl.mv U U U U U ?_
 refine AWl.put (by exact R_load U (by exact .yes1 U U U U) U (.tmp U (by exact fun _ => rfl)) ty30 U U) U ?_
 refine AWl.put (R_callq U (by exact .yes1 U U U U) U (.cons (.tmp U (by exact id)) U .nil) fun hq => FnT.fr (specIsExpr e (by omega))) U ?_
 refine AWl.put (R_and U (.no U) U (.tm U) (.tmp U (by exact id))) U ?_
 refine AWl.nil ?_
 refine AW.cond (.tm U) (fun h13 => ?_) (fun h13 => ?_)
 · skip
   skip
   have h13' : i < e.Tokens.length ∧ isExpr e.Tokens = true := (by simpa using h13)
   obtain ⟨t, ht⟩ : ∃ ξ, e.Tokens[i]? = some ξ := ⟨_, List.getElem?_eq_getElem h13'.1⟩
   refine AW.skip ?_
   refine AW.seq ?_
   refine AW.block ?_
   refine AW.seq ?_
   refine AW.le (σ' := ⟨_, [(1, _), (2, _), (3, _), (4, _)], []⟩) (Le.sub0 U ⟨U, U, U, U, trivial⟩ trivial) ?_
   refine AW.region ?_
   refine AWl.put (by exact R_fieldAddr U (.no U) U (.tm U) fl30_0) U ?_
   refine AWl.put (by exact R_load U (.no U) U (.tm U) ty28 U U) U ?_
   refine AWl.mv U U U U U ?_
   refine AWl.put (by exact R_indexAddr U (.no U) U (.tm U) (.tm U) Tryz.underlying28 ty100 (fun _ => ⟨by omega, (map_get ht)⟩)) U ?_
   refine AWl.put (by exact R_fieldAddr U (.no U) U (.tm U) fl100_0) U ?_
   refine AWl.put (by exact R_load U (.no U) U (.tm U) ty3 U U) U ?_
   refine AWl.put (R_eq U (.no U) U (.tm U) (.const U)) U ?_
   refine AWl.nil ?_
   refine AW.cond (.tm U) (fun h22 => ?_) (fun h22 => ?_)
   · skip
     try simp at h22
     have hlr : 0 ≤ t.Letter ∧ t.Letter ≤ 8 := hrng h13'.2 t (List.mem_of_getElem? ht) h22
     have hp2 : 2 ^ t.Letter.toNat ≤ 2 ^ 8 := Nat.pow_le_pow_right (by omega) (by omega)
     refine AW.le (σ' := ⟨_, [(1, _), (2, _), (3, _), (4, _)], []⟩) (Le.sub0 U ⟨U, U, U, U, trivial⟩ trivial) ?_
     refine AW.region ?_
     refine AWl.mv U U U U U ?_
     refine AWl.put (by exact R_fieldAddr U (.no U) U (.tm U) fl30_0) U ?_
     refine AWl.put (by exact R_load U (.no U) U (.tm U) ty28 U U) U ?_
     refine AWl.mv U U U U U ?_
     refine AWl.put (by exact R_indexAddr U (.no U) U (.tm U) (.tm U) Tryz.underlying28 ty100 (fun _ => ⟨by omega, (map_get ht)⟩)) U ?_
     refine AWl.put (by exact R_fieldAddr U (.no U) U (.tm U) fl100_1) U ?_
     refine AWl.put (by exact R_load U (.no U) U (.tm U) ty3 U U) U ?_
     refine AWl.put (R_shlN U (.no U) U (.const U) (.tm U) (fun _ => by omega)) U ?_
     refine AWl.put (R_or_int U (.no U) U (.tm U) (.tm U) (fun _ => ⟨Int.natCast_nonneg _, by omega, Int.natCast_nonneg _, Int.le_trans (Int.ofNat_le.2 hp2) (by decide)⟩)) U ?_
     refine AWl.av U U U U U ?_
     refine AWl.nil ?_
     refine AW.le (σ' := ⟨_, [(1, _), (2, _), (3, _), (4, _)], []⟩) (Le.sub0 U ⟨U, U, U, U, trivial⟩ trivial) ?_
     refine AW.region ?_
     refine AWl.mv U U U U U ?_
     refine AWl.put (R_add U (.no U) U (.tm U) (.const U) (fun _ => by omega)) U ?_
     refine AWl.av U U U U U ?_
     refine AWl.nil ?_
     repeat (with_reducible refine BlockQ.nor ?_)
     refine Round2.next (i + 1) (m ||| 2 ^ t.Letter.toNat) ⟨⟨by omega, or_pow_lt hk.2 (by omega)⟩, trivial⟩ (by omega) (Le.sub0 rfl ⟨rfl, rfl, rfl, rfl, trivial⟩ trivial)
   · skip
     try simp at h22
     refine AW.skip ?_
     refine AW.le (σ' := ⟨_, [(1, _), (2, _), (3, _), (4, _)], []⟩) (Le.sub0 U ⟨U, U, U, U, trivial⟩ trivial) ?_
     refine AW.region ?_
     refine AWl.mv U U U U U ?_
     refine AWl.put (R_add U (.no U) U (.tm U) (.const U) (fun _ => by omega)) U ?_
     refine AWl.av U U U U U ?_
     refine AWl.nil ?_
     repeat (with_reducible refine BlockQ.nor ?_)
     refine Round2.next (i + 1) (m) ⟨⟨by omega, hk.2⟩, trivial⟩ (by omega) (Le.sub0 rfl ⟨rfl, rfl, rfl, rfl, trivial⟩ trivial)
 · skip
   skip
   refine AW.exit ?_
   refine AW.seq ?_
   refine AW.le (σ' := ⟨_, [(1, _), (2, _), (3, _), (4, _)], []⟩) (Le.sub0 U ⟨U, U, U, U, trivial⟩ trivial) ?_
   refine AW.region ?_
   refine AWl.mv U U U U U ?_
   refine AWl.adds (R_call 3300 (specl4Set m (by omega)) U U U (.cons (.tm U) U .nil) U U) U ?_
   refine AWl.av U U U U U ?_
   refine AWl.nil (AW.ret ?_)
   apply ERes.mk (x := setI m 30)
   case h =>
    refine Res.one U (.tmp U .nil) U ?_
    rfl
   case hp => exact setI_len m 30
set_option maxRecDepth 100000 in
theorem specl9Near (e : TExpr) (hle : e.Tokens.length ≤ 64) : FnD Tryz.prog 41 [.agg (cExpr e), .one (.v (.int .i64 4))] (fun w : List Int => w.length ≤ 5) (fun w => .a (.one (.sl 1 (w.map cInt)))) := by
 refine FnD.walk Tryz.func41 U (by kernel_rfl) Tryz.ntmps41 U (fun g => rfl) fun w0 g => ?_
 refine AW.sr ?_
 refine AWl.put (R_boxz U U U (.tm U) (ts := _) (by rfl)) U ?_
 refine AWl.ac U U U U U ?_
 refine AWl.nilS (i := 6) 20001 1 U U ?_
 refine AWl.nil (AW.sr ?_)
 refine AWl.put (by exact R_load U (.no U) U (.tm U) ty30 U U) U ?_
 refine AWl.opE (R_callE 1100 (specAlphabetD e hle) U U U (.cons (.tm U) U .nil) (fun _ => rfl) (fun _ => rfl)) ?_
 rintro _ ⟨z11, hz11, rfl⟩
 try dsimp only at hz11
 refine AWl.av U U U U U ?_
 refine AWl.nil (AW.sr ?_)
 refine AWl.add (R_empty 12 U U U Tryz.underlying24 ty3 U) U ?_
 refine AWl.av U U U U U ?_
 refine AWl.nil (AW.seq ?_)
 refine AW.sr ?_
 refine AWl.mv U U U U U ?_
 refine AWl.mv U U U U U ?_
 refine AWl.put (R_add U (.no U) U (.tm U) (.const U) (fun _ => by omega)) U ?_
 refine AWl.opE (R_calld 1600 (specl1Below _) U U U (.tm U) U U (.cons (.tm U) U .nil) (fun _ => rfl) (fun _ => rfl)) ?_
 rintro _ ⟨z16, hz16, rfl⟩
 try dsimp only at hz16
 refine AWl.av U U U U U ?_
 refine AWl.nil (AW.block ?_)
 refine AW.loop2 (fun (n : Int) (w : List Int) => (n ≤ 4 - w.length ∧ w.length ≤ 4) ∧ True) (fun (n : Int) (w : List Int) => ⟨_, [(9, (true, .a (.one (.t (.v (.int .i64 n)))))), (7, (true, .a (.one (.rf 1100)))), (8, (true, .a (.one (.rf 12)))), (0, _), (6, _)], [(1100, .row 1 (z11.map cInt)), (12, .row 1 (w.map cInt)), (888888, .cur g)]⟩) (fun (n : Int) (w : List Int) => n.toNat) (z16) ([]) ⟨by simp; omega, trivial⟩ (Le.sub0 U ⟨U, U, U, U, U, trivial⟩ ⟨U, U, U, trivial⟩) ?_
 rintro n w ⟨hk, he⟩
 refine AW.seq ?_
 refine AW.sr ?_
 refine AWl.mv U U U U U ?_
 refine AWl.put (R_gt U (.no U) U (.tm U) (.const U)) U ?_
 refine AWl.mv U U U U U ?_
 refine AWl.put (R_move U (by exact .yes1 U U U U) U (.tmp U (by exact fun _ => rfl))) U ?_
 refine AWl.put (by exact R_lenm U (by exact .yes1 U U U U) U (.tmp U (by exact id)) (by exact .rf U) Tryz.underlying24) U ?_
 refine AWl.put (R_gt U (by exact .yes1 U U U U) U (.tmp U (by exact id)) (.const U)) U ?_
 refine AWl.put (R_and U (.no U) U (.tm U) (.tmp U (by exact id))) U ?_
 refine AWl.nil ?_
 refine AW.cond (.tm U) (fun h23 => ?_) (fun h23 => ?_)
 · skip
   skip
   have h23' : 0 < n ∧ 0 < z11.length := (by simpa using h23)
   refine AW.skip ?_
   refine AW.seq ?_
   refine AW.block ?_
   refine AW.le (σ' := ⟨_, [(0, _), (6, _), (7, _), (8, _), (9, _)], [(1100, _), (12, _), (888888, _)]⟩) (Le.sub0 U ⟨U, U, U, U, U, trivial⟩ ⟨U, U, U, trivial⟩) ?_
   refine AW.region ?_
   refine AWl.mv U U U U U ?_
   refine AWl.mv U U U U U ?_
   refine AWl.mv U U U U U ?_
   refine AWl.mv U U U U U ?_
   refine AWl.put (by exact R_lenm U (.no U) U (.tm U) (by exact .rf U) Tryz.underlying24) U ?_
   refine AWl.opE (R_calld 3100 (specl1Below _) U U U (.tm U) U U (.cons (.tm U) U .nil) (fun _ => rfl) (fun _ => rfl)) ?_
   rintro _ ⟨z31, hz31, rfl⟩
   try dsimp only at hz31
   refine AWl.put ((by exact R_indexAddr_rf U (.no U) U (.tm U) U (.tm U) Tryz.underlying24 ty3 (fun _ => ⟨by simp at hz31; omega, map_get (List.getElem?_eq_getElem (i := z31.toNat) (show z31.toNat < z11.length by simp at hz31; omega))⟩))) U ?_
   refine AWl.put ((by exact R_load_pr U (.no U) U (.tm U) U (map_get (List.getElem?_eq_getElem (i := z31.toNat) (show z31.toNat < z11.length by simp at hz31; omega))) ty3 U U)) U ?_
   refine AWl.absadd (R_list (xs := [.tmp 33]) 34 U U U (.cons (.tm U) U U .nil) Tryz.underlying24 in3 U U U U) U ?_
   refine AWl.chgput (R_append U U U (.tm U) U (.tm U) (by exact .rf U) (by rfl) Tryz.underlying24 in3 U (by (simp [chunk]; omega)) (by (unfold maxLen; simp [chunk]; omega))) U ?_
   refine AWl.le (σ' := ⟨_, [(0, _), (6, _), (7, _), (8, _), (9, _), (35, _)], [(1100, _), (12, _), (888888, _), (34, _)]⟩) (Le.sub0 U ⟨U, U, U, U, U, U, trivial⟩ ⟨U, U, U, U, trivial⟩) ?_
   refine AWl.av U U U U U ?_
   refine AWl.nil (AW.region ?_)
   refine AWl.mv U U U U U ?_
   refine AWl.put (R_sub U (.no U) U (.tm U) (.const U) (fun _ => by omega)) U ?_
   refine AWl.av U U U U U ?_
   refine AWl.nil ?_
   repeat (with_reducible refine BlockQ.nor ?_)
   refine Round2.next (n - 1) (w ++ [z11[z31.toNat]'(by simp at hz31; omega)]) ⟨by simp; omega, trivial⟩ (by simp at h23; omega) (Le.sub0 rfl ⟨rfl, rfl, rfl, rfl, rfl, trivial⟩ ⟨(by rfl), (by (refine congrArg (fun r => some (R.row _ r)) ?_; simp [chunk, List.map_set, cInt, cBool, cIntS, cPair, cToken, cExpr, cEdge, cGraph, cStep, cWalk, cChange, cBatch, cHistory, cPositions, cAutomaton, cProductStep, cPathAtom, cConjunction, cView, cDelta, cRegistered, cRegistry])), (by rfl), trivial⟩)
 · skip
   skip
   refine AW.exit ?_
   refine AW.seq ?_
   refine AW.seq ?_
   refine AW.le (σ' := ⟨_, [(0, _), (6, _), (7, _), (8, _), (9, _)], [(1100, _), (12, _), (888888, _)]⟩) (Le.sub0 U ⟨U, U, U, U, U, trivial⟩ ⟨U, U, U, trivial⟩) ?_
   refine AW.region ?_
   refine AWl.mv U U U U U ?_
   refine AWl.opE (R_calld 3700 (specl1Once _) U U U (.tm U) U U (.cons (.const U) U .nil) (fun _ => rfl) (fun _ => rfl)) ?_
   rintro _ ⟨z37, hz37, rfl⟩
   try dsimp only at hz37
   refine AWl.nil ?_
   refine AW.cond (.tm U) (fun h37 => ?_) (fun h37 => ?_)
   · skip
     try simp at h37
     refine AW.region ?_
     refine AWl.mv U U U U U ?_
     refine AWl.mv U U U U U ?_
     refine AWl.opE (R_calld 4000 (specl2Draw) U U U (.tm U) U U .nil (fun _ => rfl) (fun _ => rfl)) ?_
     rintro _ ⟨z40, hz40, rfl⟩
     try dsimp only at hz40
     refine AWl.absadd (R_list (xs := [.tmp 40]) 41 U U U (.cons (.tm U) U U .nil) Tryz.underlying24 in3 U U U U) U ?_
     refine AWl.chgput (R_append U U U (.tm U) U (.tm U) (by exact .rf U) (by rfl) Tryz.underlying24 in3 U (by (simp [chunk]; omega)) (by (unfold maxLen; simp [chunk]; omega))) U ?_
     refine AWl.le (σ' := ⟨_, [(0, _), (6, _), (7, _), (8, _), (9, _), (37, _), (42, _)], [(1100, _), (12, _), (888888, _), (41, _)]⟩) (Le.sub0 U ⟨U, U, U, U, U, U, U, trivial⟩ ⟨U, U, U, U, trivial⟩) ?_
     refine AWl.av U U U U U ?_
     refine AWl.nil (AW.sr ?_)
     refine AWl.mv U U U U U ?_
     refine AWl.av U U U U U ?_
     refine AWl.nil (AW.ret ?_)
     apply DRes.mk (x := w ++ [z40]) rfl
     case h =>
      refine Res.one U (.tmp U .nil) U ?_
      exact congrArg (fun r => [V0.one (T.sl 1 r)]) (by simp [chunk, cInt])
     case hp => exact (by simp; omega)
   · skip
     try simp at h37
     refine AW.skip ?_
     refine AW.sr ?_
     refine AWl.mv U U U U U ?_
     refine AWl.av U U U U U ?_
     refine AWl.nil (AW.ret ?_)
     apply DRes.mk (x := w) rfl
     case h =>
      refine Res.one U (.tmp U .nil) U ?_
      rfl
     case hp => exact (by omega)
set_option maxRecDepth 100000 in
theorem specDrawHoldsOnLine (bs : List Int) (hb : ∀ n ∈ bs, 0 ≤ n ∧ n < 256) : FrE Tryz.prog 13 [.one (.sl 1 (byR bs))] (fun o => ∃ x : TExpr × List Int, (x.1.Tokens.length ≤ 32 ∧ x.2.length ≤ 5) ∧ o = .tup [.agg (cExpr x.1), .one (.sl 1 (x.2.map cInt))]) := by
 refine FrE.walk Tryz.func13 rfl (by kernel_rfl) Tryz.ntmps13 rfl fun w0 => ?_
 refine AW.sr ?_
 refine AWl.add (R_alloc 2 U U U in30 U U U) U ?_
 refine AWl.ac U U U U U ?_
 refine AWl.nilS (i := 3) 20001 1 U U ?_
 refine AWl.nil (AW.sr ?_)
 refine AWl.mv U U U U U ?_
 refine AWl.opE (R_calln 888888 (specl1New) U U U (.tm U) (by assumption) U) ?_
 rintro _ ⟨g, rfl⟩
 refine AWl.av U U U U U ?_
 refine AWl.nil (AW.sr ?_)
 refine AWl.mv U U U U U ?_
 refine AWl.opE (R_calldr 900 (specl8Any) U U U (.tm U) U U .nil U) ?_
 rintro _ ⟨z9, hz9, rfl⟩
 try dsimp only at hz9
 refine AWl.add (R_alloc 5 U U U in30 U U U) U ?_
 refine AWl.chgb (R_store_pb U U U (.tm U) (.tm U) U ty30 U U U (by kernel_rfl) U) ?_
 refine AWl.nil (AW.seq ?_)
 refine AW.dg0 6 11 [[], [0], [1], [2], [0, 1], [0, 2], [1, 2], [0, 1, 2], [1, 2, 3], [0, 1, 2, 3], [0, 1, 2, 3, 4], [0, 1, 2, 3, 4, 5]] [(0, 0, 1), (0, 1, 2), (0, 2, 3), (1, 1, 4), (2, 0, 4), (1, 2, 5), (3, 0, 5), (2, 2, 6), (3, 1, 6), (4, 2, 7), (5, 1, 7), (6, 0, 7), (6, 3, 8), (7, 3, 9), (8, 0, 9), (9, 4, 10), (10, 5, 11)] (by kernel_rfl) (by kernel_rfl) (by kernel_rfl) ?_
 apply Dg.new0 (i := 0)
 case ha | ho | hb => rfl
 case hE =>
  intro w9  hp
  obtain _ := hp
  refine AWl.put (by exact R_load_pp U (.no U) U (.tm U) U ty30 U U) U ?_
  refine AWl.nil ?_
  exact EndQ.eq (Le.sub0 (σ' := ⟨_, [(0, _), (2, _), (3, _), (4, _), (5, _), (10, _)], [(2, _), (20001, _), (888888, _), (900, _), (5, _)]⟩) U ⟨U, U, U, U, U, U, trivial⟩ ⟨U, U, U, U, U, trivial⟩) U
 apply Dg.new0 (i := 1)
 case ha | ho | hb => rfl
 case hE =>
  intro w9  hp
  obtain _ := hp
  refine AWl.mv U U U U U ?_
  refine AWl.nil ?_
  exact EndQ.eq (Le.sub0 (σ' := ⟨_, [(0, _), (2, _), (3, _), (4, _), (5, _), (11, _)], [(2, _), (20001, _), (888888, _), (900, _), (5, _)]⟩) U ⟨U, U, U, U, U, U, trivial⟩ ⟨U, U, U, U, U, trivial⟩) U
 apply Dg.new0 (i := 2)
 case ha | ho | hb => rfl
 case hE =>
  intro w9  hp
  obtain _ := hp
  refine AWl.put (by exact R_load_pp U (.no U) U (.tm U) U ty30 U U) U ?_
  refine AWl.nil ?_
  exact EndQ.eq (Le.sub0 (σ' := ⟨_, [(0, _), (2, _), (3, _), (4, _), (5, _), (12, _)], [(2, _), (20001, _), (888888, _), (900, _), (5, _)]⟩) U ⟨U, U, U, U, U, U, trivial⟩ ⟨U, U, U, U, U, trivial⟩) U
 apply Dg.new0 (i := 1)
 case ha | ho | hb => rfl
 case hE =>
  intro w9  hp
  obtain _ := hp
  refine AWl.mv U U U U U ?_
  refine AWl.nil ?_
  exact EndQ.eq (Le.sub0 (σ' := ⟨_, [(0, _), (2, _), (3, _), (4, _), (5, _), (10, _), (11, _)], [(2, _), (20001, _), (888888, _), (900, _), (5, _)]⟩) U ⟨U, U, U, U, U, U, U, trivial⟩ ⟨U, U, U, U, U, trivial⟩) U
 apply Dg.old0 (i := 0)
 case ha | ho | hb => rfl
 case hE =>
  intro w9  hp
  obtain _ := hp
  refine AWl.put (by exact R_load_pp U (.no U) U (.tm U) U ty30 U U) U ?_
  exact AWl.nil (Le.sub0 U ⟨U, U, U, U, U, U, U, trivial⟩ ⟨U, U, U, U, U, trivial⟩)
 apply Dg.new0 (i := 2)
 case ha | ho | hb => rfl
 case hE =>
  intro w9  hp
  obtain _ := hp
  refine AWl.put (by exact R_load_pp U (.no U) U (.tm U) U ty30 U U) U ?_
  refine AWl.nil ?_
  exact EndQ.eq (Le.sub0 (σ' := ⟨_, [(0, _), (2, _), (3, _), (4, _), (5, _), (10, _), (12, _)], [(2, _), (20001, _), (888888, _), (900, _), (5, _)]⟩) U ⟨U, U, U, U, U, U, U, trivial⟩ ⟨U, U, U, U, U, trivial⟩) U
 apply Dg.old0 (i := 0)
 case ha | ho | hb => rfl
 case hE =>
  intro w9  hp
  obtain _ := hp
  refine AWl.put (by exact R_load_pp U (.no U) U (.tm U) U ty30 U U) U ?_
  exact AWl.nil (Le.sub0 U ⟨U, U, U, U, U, U, U, trivial⟩ ⟨U, U, U, U, U, trivial⟩)
 apply Dg.new0 (i := 2)
 case ha | ho | hb => rfl
 case hE =>
  intro w9  hp
  obtain _ := hp
  refine AWl.put (by exact R_load_pp U (.no U) U (.tm U) U ty30 U U) U ?_
  refine AWl.nil ?_
  exact EndQ.eq (Le.sub0 (σ' := ⟨_, [(0, _), (2, _), (3, _), (4, _), (5, _), (11, _), (12, _)], [(2, _), (20001, _), (888888, _), (900, _), (5, _)]⟩) U ⟨U, U, U, U, U, U, U, trivial⟩ ⟨U, U, U, U, U, trivial⟩) U
 apply Dg.old0 (i := 1)
 case ha | ho | hb => rfl
 case hE =>
  intro w9  hp
  obtain _ := hp
  refine AWl.mv U U U U U ?_
  exact AWl.nil (Le.sub0 U ⟨U, U, U, U, U, U, U, trivial⟩ ⟨U, U, U, U, U, trivial⟩)
 apply Dg.new0 (i := 2)
 case ha | ho | hb => rfl
 case hE =>
  intro w9  hp
  obtain _ := hp
  refine AWl.put (by exact R_load_pp U (.no U) U (.tm U) U ty30 U U) U ?_
  refine AWl.nil ?_
  exact EndQ.eq (Le.sub0 (σ' := ⟨_, [(0, _), (2, _), (3, _), (4, _), (5, _), (10, _), (11, _), (12, _)], [(2, _), (20001, _), (888888, _), (900, _), (5, _)]⟩) U ⟨U, U, U, U, U, U, U, U, trivial⟩ ⟨U, U, U, U, U, trivial⟩) U
 apply Dg.old0 (i := 1)
 case ha | ho | hb => rfl
 case hE =>
  intro w9  hp
  obtain _ := hp
  refine AWl.mv U U U U U ?_
  exact AWl.nil (Le.sub0 U ⟨U, U, U, U, U, U, U, U, trivial⟩ ⟨U, U, U, U, U, trivial⟩)
 apply Dg.old0 (i := 0)
 case ha | ho | hb => rfl
 case hE =>
  intro w9  hp
  obtain _ := hp
  refine AWl.put (by exact R_load_pp U (.no U) U (.tm U) U ty30 U U) U ?_
  exact AWl.nil (Le.sub0 U ⟨U, U, U, U, U, U, U, U, trivial⟩ ⟨U, U, U, U, U, trivial⟩)
 apply Dg.drw0 (i := 3)
 case ha => rfl
 case ho => rfl
 case hE =>
  intro  hp
  obtain _ := hp
  exact R_calld 1300 (specl9Near z9 (by omega)) rfl rfl rfl (.tm rfl) rfl rfl (.cons (.tm rfl) rfl (.cons (.const rfl) rfl .nil)) (fun _ => rfl) (fun _ => rfl)
 case hb => rfl
 case hL =>
  intro  z13 hp hy
  exact EndQ.eq (Le.sub0 (σ' := ⟨_, [(0, _), (2, _), (3, _), (4, _), (5, _), (13, _)], [(2, _), (20001, _), (888888, _), (900, _), (5, _), (1300, _)]⟩) U ⟨U, U, U, U, U, U, trivial⟩ ⟨U, U, U, U, U, U, trivial⟩) U
 apply Dg.drw0 (i := 3)
 case ha => rfl
 case ho => rfl
 case hE =>
  intro  hp
  obtain _ := hp
  exact R_calld 1300 (specl9Near z9 (by omega)) rfl rfl rfl (.tm rfl) rfl rfl (.cons (.tm rfl) rfl (.cons (.const rfl) rfl .nil)) (fun _ => rfl) (fun _ => rfl)
 case hb => rfl
 case hL =>
  intro  z13 hp hy
  exact EndQ.eq (Le.sub0 (σ' := ⟨_, [(0, _), (2, _), (3, _), (4, _), (5, _), (10, _), (13, _)], [(2, _), (20001, _), (888888, _), (900, _), (5, _), (1300, _)]⟩) U ⟨U, U, U, U, U, U, U, trivial⟩ ⟨U, U, U, U, U, U, trivial⟩) U
 apply Dg.old1 (i := 0)
 case ha | ho | hb => rfl
 case hE =>
  intro w9 z13 hp
  obtain ⟨_, hz13⟩ := hp
  refine AWl.put (by exact R_load_pp U (.no U) U (.tm U) U ty30 U U) U ?_
  exact AWl.nil (Le.sub0 U ⟨U, U, U, U, U, U, U, trivial⟩ ⟨U, U, U, U, U, U, trivial⟩)
 apply Dg.new1 (i := 4)
 case ha | ho | hb => rfl
 case hE =>
  intro w9 z13 hp
  obtain ⟨_, hz13⟩ := hp
  refine AWl.chgb (R_store_pb U U U (.tm U) (.tm U) U ty30 U U U (by kernel_rfl) U) ?_
  refine AWl.nil ?_
  exact EndQ.eq (Le.sub0 (σ' := ⟨_, [(0, _), (2, _), (3, _), (4, _), (5, _), (13, _)], [(2, _), (20001, _), (888888, _), (900, _), (5, _), (1300, _)]⟩) U ⟨U, U, U, U, U, U, trivial⟩ ⟨U, U, U, U, U, U, trivial⟩) U
 apply Dg.new1 (i := 5)
 case ha | ho | hb => rfl
 case hE =>
  intro w9 z13 hp
  obtain ⟨_, hz13⟩ := hp
  refine AWl.av U U U U U ?_
  refine AWl.nil ?_
  exact EndQ.eq (Le.sub0 (σ' := ⟨_, [(0, _), (2, _), (3, _), (4, _), (5, _)], [(2, _), (20001, _), (888888, _), (900, _), (5, _), (1300, _)]⟩) U ⟨U, U, U, U, U, trivial⟩ ⟨U, U, U, U, U, U, trivial⟩) U
 refine Dg.fin1 (k := 11) U ?_
 intro z13 hp
 obtain ⟨_, hz13⟩ := hp
 refine AWl.nil (AW.ret ?_)
 apply ERRes.mk (x := (z9, z13))
 case h =>
  refine ResR.many U (.cell U U ty30 U U (.tmp U .nil)) U ?_ (by simp)
  rfl
 case hp => exact ⟨hz9, hz13⟩
end Go.Proofs.YtbkhopfpejhnlaaGreat
