import Derived.Test.YtbkhopfpejhnlaaGreatB121ra
import Derived.Test.YtbkhopfpejhnlaaGreatPutra
set_option linter.unusedVariables false
set_option linter.unusedSimpArgs false
set_option maxHeartbeats 1000000
set_option maxRecDepth 100000
namespace Go.Q
open Go.RowKit Go.D
theorem alpha_len (x : Tr) : (alphaOf x).length ≤ 9 := Nat.le_trans (List.length_filter_le _ _) (by decide)
theorem wordsE_alpha {e : TExpr} {n : Int} {x : Tr} (hx : treeM e.Tokens = some x) (h : (isValidExpr e && inB n 0 3) = true) : wordsE e n = wordsUp (alphaOf x) x (n.toNat + 1) := by
 rw [wordsE_some hx h, wordsUp_alpha]
theorem treeM_run {l : List TToken} {x : Tr} (h : treeM l = some x) : runTr [] l = some [x] := by
 unfold treeM at h
 split at h
 · rename_i y hy; simp at h; rw [hy, h]
 · cases h
end Go.Q
namespace Go.Proofs.YtbkhopfpejhnlaaGreat
open Go.RowKit Go.Q Go.D
set_option maxRecDepth 100000 in
theorem specWordsUpTo (e : TExpr) (n : Int) : FnT Tryz.prog 51 [.agg (cExpr e), .one (.v (.int .i64 n))] (.a (.one (.sl 1 ((wordsE e n).map cIntS)))) := by
 refine FnT.walk Tryz.func51 rfl (by kernel_rfl) Tryz.ntmps51 rfl fun hlen w0 => ?_
 try simp [cPair, cToken, cExpr, cEdge, cGraph, cStep, cWalk, cChange, cBatch, cHistory, cPositions, cAutomaton, cProductStep, cPathAtom, cConjunction, cView, cDelta, cRegistered, cRegistry] at hlen
 refine AW.sr ?_
 refine AWl.put (R_boxz rfl rfl rfl (.tm rfl) (ts := _) (by rfl)) rfl ?_
 refine AWl.ac rfl rfl rfl rfl rfl ?_
 refine AWl.nilS (i := 4) 20001 1 rfl rfl ?_
 refine AWl.nil (AW.sr ?_)
 refine AWl.add (R_empty 12 rfl rfl rfl Tryz.underlying77 ty24 rfl) rfl ?_
 refine AWl.av rfl rfl rfl rfl rfl ?_
 refine AWl.nil (AW.seq ?_)
 refine AW.sr ?_
 refine AWl.put (by exact R_load rfl (.no rfl) rfl (.tm rfl) ty30 rfl rfl) rfl ?_
 refine AWl.put (R_callz (FnT.fr (specIsValidExpr e)) rfl (.no rfl) rfl (.cons (.tm rfl) rfl .nil)) rfl ?_
 refine AWl.put (R_not rfl (.no rfl) rfl (.tm rfl)) rfl ?_
 refine AWl.mv rfl rfl rfl rfl rfl ?_
 refine AWl.put (R_move rfl (by exact .not1 rfl rfl rfl rfl) rfl (.tmp rfl (by exact fun _ => rfl))) rfl ?_
 refine AWl.put (R_callz (FnT.fr (specl1In n 0 3)) rfl (by exact .not1 rfl rfl rfl rfl) rfl (.cons (.tmp rfl (by exact id)) rfl (.cons (.const rfl) rfl (.cons (.const rfl) rfl .nil)))) rfl ?_
 refine AWl.put (R_not rfl (by exact .not1 rfl rfl rfl rfl) rfl (.tmp rfl (by exact id))) rfl ?_
 refine AWl.put (R_or rfl (.no rfl) rfl (.tm rfl) (.tmp rfl (by exact id))) rfl ?_
 refine AWl.nil ?_
 refine AW.cond (.tm rfl) (fun h20 => ?_) (fun h20 => ?_)
 · skip
   try simp at h20
   have hno : (isValidExpr e && inB n 0 3) = false := (by cases hq1 : isValidExpr e <;> cases hq2 : inB n 0 3 <;> simp_all)
   refine AW.seq ?_
   refine AW.le (σ' := ⟨_, [(0, _), (1, _), (2, _), (4, _), (5, _)], [(20001, _), (12, _)]⟩) (Le.sub0 rfl ⟨rfl, rfl, rfl, rfl, rfl, trivial⟩ ⟨rfl, rfl, trivial⟩) ?_
   refine AW.region ?_
   refine AWl.mv rfl rfl rfl rfl rfl ?_
   refine AWl.av rfl rfl rfl rfl rfl ?_
   refine AWl.nil (AW.ret ?_)
   refine Res.one rfl (.tmp rfl .nil) rfl ?_
   rw [wordsE_no hno]; rfl
 · skip
   try simp at h20
   have hyes : (isValidExpr e && inB n 0 3) = true := (by cases hq1 : isValidExpr e <;> cases hq2 : inB n 0 3 <;> simp_all)
   have hyes' := hyes
   rw [Bool.and_eq_true] at hyes'
   obtain ⟨x, hx, htk, hgx, hl⟩ := valid_tree hyes'.1
   have hn03 : 0 ≤ n ∧ n ≤ 3 := (by have h := hyes'.2; unfold inB at h; simpa using h)
   have hal := alpha_len x
   refine AW.skip ?_
   refine AW.seq ?_
   refine AW.le (σ' := ⟨_, [(0, _), (1, _), (2, _), (4, _), (5, _)], [(20001, _), (12, _)]⟩) (Le.sub0 rfl ⟨rfl, rfl, rfl, rfl, rfl, trivial⟩ ⟨rfl, rfl, trivial⟩) ?_
   refine AW.region ?_
   refine AWl.put (by exact R_load rfl (.no rfl) rfl (.tm rfl) ty30 rfl rfl) rfl ?_
   refine AWl.put (R_callz (FnT.fr (specAlphabet e hyes'.1 x hx)) rfl (.no rfl) rfl (.cons (.tm rfl) rfl .nil)) rfl ?_
   refine AWl.av rfl rfl rfl rfl rfl ?_
   refine AWl.nil (AW.sr ?_)
   refine AWl.add (R_empty 24 rfl rfl rfl Tryz.underlying24 ty3 rfl) rfl ?_
   refine AWl.absadd (R_list (xs := [.tmp 24]) 25 rfl rfl rfl (.cons (.tm rfl) rfl rfl .nil) Tryz.underlying77 in24 rfl rfl rfl rfl) rfl ?_
   refine AWl.av rfl rfl rfl rfl rfl ?_
   refine AWl.nil (AW.seq ?_)
   refine AW.sr ?_
   refine AWl.ac rfl rfl rfl rfl rfl ?_
   refine AWl.nil (AW.block ?_)
   refine AW.loop1 (fun (k : Nat) => (k ≤ n.toNat + 1) ∧ True) (fun (k : Nat) => ⟨_, [(8, (true, .a (.one (.t (.v (.int .i64 (k : Nat))))))), (5, (true, .a (.one (.rf 12)))), (7, (true, .a (.one (.rf 25)))), (1, _), (2, _), (4, _), (6, _)], [(12, .row 1 ((wordsUp (alphaOf x) x k).map cIntS)), (25, .row 1 ((wordsA (alphaOf x) k).map cIntS))]⟩) (fun (k : Nat) => n.toNat + 1 - k) (0) ⟨by omega, trivial⟩ (Le.sub0 rfl ⟨rfl, rfl, rfl, rfl, rfl, rfl, rfl, trivial⟩ ⟨(by refine congrArg (fun r => some (R.row 1 r)) ?_; first | rfl | (simp; done) | (rw [filterA hb, if_pos (by simpa using h44)]; simp [chunk, cIntS]; done) | (rw [filterA hb, if_neg (by simpa using h44)]; simp; done)), rfl, trivial⟩) ?_
   rintro k ⟨hk, he⟩
   refine AW.seq ?_
   refine AW.sr ?_
   refine AWl.mv rfl rfl rfl rfl rfl ?_
   refine AWl.mv rfl rfl rfl rfl rfl ?_
   refine AWl.put (R_le rfl (.no rfl) rfl (.tm rfl) (.tm rfl)) rfl ?_
   refine AWl.nil ?_
   refine AW.cond (.tm rfl) (fun h28 => ?_) (fun h28 => ?_)
   · skip
     try simp at h28
     have hmn : (k : Int) ≤ n := by (have h := h28; first | omega | (simp at h; omega))
     have huf := wordsUp_few hal x (n := k) (by omega)
     have hwl := wordsA_few hal (d := k) (by omega)
     refine AW.skip ?_
     refine AW.seq ?_
     refine AW.block ?_
     refine AW.sr ?_
     refine AWl.add (R_empty 31 rfl rfl rfl Tryz.underlying77 ty24 rfl) rfl ?_
     refine AWl.av rfl rfl rfl rfl rfl ?_
     refine AWl.nil (AW.seq ?_)
     refine AW.sr ?_
     refine AWl.ac rfl rfl rfl rfl rfl ?_
     refine AWl.nil (AW.block ?_)
     refine AW.loop1 (fun (i : Nat) => (i ≤ (wordsA (alphaOf x) k).length) ∧ True) (fun (i : Nat) => ⟨_, [(10, (true, .a (.one (.t (.v (.int .i64 (i : Nat))))))), (5, (true, .a (.one (.rf 12)))), (9, (true, .a (.one (.rf 31)))), (1, _), (2, _), (4, _), (6, _), (7, _), (8, _)], [(12, .row 1 ((wordsUp (alphaOf x) x k ++ ((wordsA (alphaOf x) k).take i).filter (tk x)).map cIntS)), (25, .row 1 ((wordsA (alphaOf x) k).map cIntS)), (31, .row 1 ((moreA (alphaOf x) ((wordsA (alphaOf x) k).take i)).map cIntS))]⟩) (fun (i : Nat) => (wordsA (alphaOf x) k).length - i) (0) ⟨Nat.zero_le _, trivial⟩ (Le.sub0 rfl ⟨rfl, rfl, rfl, rfl, rfl, rfl, rfl, rfl, rfl, trivial⟩ ⟨(by refine congrArg (fun r => some (R.row 1 r)) ?_; first | rfl | (simp; done) | (rw [filterA hb, if_pos (by simpa using h44)]; simp [chunk, cIntS]; done) | (rw [filterA hb, if_neg (by simpa using h44)]; simp; done)), rfl, (by refine congrArg (fun r => some (R.row 1 r)) ?_; first | rfl | (simp; done)), trivial⟩) ?_
     rintro i ⟨hk1, he1⟩
     refine AW.seq ?_
     refine AW.sr ?_
     refine AWl.mv rfl rfl rfl rfl rfl ?_
     refine AWl.mv rfl rfl rfl rfl rfl ?_
     refine AWl.put (by exact R_lenm rfl (.no rfl) rfl (.tm rfl) (by exact .rf rfl) Tryz.underlying77) rfl ?_
     refine AWl.put (R_lt rfl (.no rfl) rfl (.tm rfl) (.tm rfl)) rfl ?_
     refine AWl.nil ?_
     refine AW.cond (.tm rfl) (fun h35 => ?_) (fun h35 => ?_)
     · skip
       try simp at h35
       obtain ⟨b, hb⟩ : ∃ ξ, (wordsA (alphaOf x) k)[i]? = some ξ := ⟨_, List.getElem?_eq_getElem (by omega)⟩
       have hbl : b.length = k := (wordsA_word (List.mem_of_getElem? hb)).1
       have hfl : (((wordsA (alphaOf x) k).take i).filter (tk x)).length ≤ 6561 := (Nat.le_trans (List.length_filter_le _ _) (by rw [List.length_take]; omega))
       have hml : (moreA (alphaOf x) ((wordsA (alphaOf x) k).take i)).length ≤ 59049 := (by rw [moreA_len, List.length_take]; exact Nat.le_trans (Nat.mul_le_mul (show min i _ ≤ 6561 by omega) hal) (by omega))
       refine AW.skip ?_
       refine AW.seq ?_
       refine AW.block ?_
       refine AW.seq ?_
       refine AW.seq ?_
       refine AW.drawn 7 (nthB [[], [0], [], [], [2, 3], [2, 3, 4], [0, 1, 2, 3, 4, 5]]) (by kernel_rfl) (by kernel_rfl) (by kernel_rfl) ?_
       refine DrawC.step rfl rfl rfl (Loc.of rfl fun σ' hs => (by exact R_fieldAddr rfl (.no rfl) (hd_sup hs rfl) (.tm (hs.slots _ _ rfl)) fl30_0)) ?_
       refine DrawC.step rfl rfl rfl (Loc.of rfl fun σ' hs => (by exact R_load rfl (.no rfl) (hd_sup hs rfl) (.tm (hs.slots _ _ rfl)) ty28 rfl rfl)) ?_
       refine DrawC.step rfl rfl rfl (Loc.of rfl fun σ' hs => R_move rfl (.no rfl) (hd_sup hs rfl) (.tm (hs.slots _ _ rfl))) ?_
       refine DrawC.step rfl rfl rfl (Loc.of rfl fun σ' hs => R_move rfl (.no rfl) (hd_sup hs rfl) (.tm (hs.slots _ _ rfl))) ?_
       refine DrawC.step rfl rfl rfl (Loc.of rfl fun σ' hs => (by exact R_indexAddr_rf rfl (.no rfl) (hd_sup hs rfl) (.tm (hs.slots _ _ rfl)) (hs.res _ _ rfl) (.tm (hs.slots _ _ rfl)) Tryz.underlying77 ty24 (fun _ => ⟨by omega, (by exact map_get hb)⟩))) ?_
       refine DrawC.step rfl rfl rfl (Loc.of rfl fun σ' hs => (by exact R_load_pr rfl (.no rfl) (hd_sup hs rfl) (.tm (hs.slots _ _ rfl)) (hs.res _ _ rfl) (by exact map_get hb) ty24 rfl rfl)) ?_
       refine DrawC.step rfl rfl rfl (Loc.of rfl fun σ' hs => R_callz (FnT.fr (specl9Match b (by omega) x e.Tokens (treeM_run hx) (by omega))) rfl (.no rfl) (hd_sup hs rfl) (.cons (.tm (hs.slots _ _ rfl)) (readA_sup hs rfl) (.cons (.tm (hs.slots _ _ rfl)) (readA_sup hs rfl) .nil))) ?_
       refine DrawC.fin rfl rfl ?_
       refine AWl.nil ?_
       refine AW.cond (.tm rfl) (fun h44 => ?_) (fun h44 => ?_)
       · skip
         try simp at h44
         refine AW.le (σ' := ⟨_, [(1, _), (2, _), (4, _), (5, _), (6, _), (7, _), (8, _), (9, _), (10, _)], [(12, _), (25, _), (31, _)]⟩) (Le.sub0 rfl ⟨rfl, rfl, rfl, rfl, rfl, rfl, rfl, rfl, rfl, trivial⟩ ⟨rfl, rfl, rfl, trivial⟩) ?_
         refine AW.region ?_
         refine AWl.mv rfl rfl rfl rfl rfl ?_
         refine AWl.add (R_empty 46 rfl rfl rfl Tryz.underlying24 ty3 rfl) rfl ?_
         refine AWl.mv rfl rfl rfl rfl rfl ?_
         refine AWl.mv rfl rfl rfl rfl rfl ?_
         refine AWl.put (by exact R_indexAddr_rf rfl (.no rfl) rfl (.tm rfl) rfl (.tm rfl) Tryz.underlying77 ty24 (fun _ => ⟨by omega, (by exact map_get hb)⟩)) rfl ?_
         refine AWl.put (by exact R_load_pr rfl (.no rfl) rfl (.tm rfl) rfl (by exact map_get hb) ty24 rfl rfl) rfl ?_
         refine AWl.chgput (R_append rfl rfl rfl (.tm rfl) rfl (.tm rfl) (by exact .vw) (by exact isV_map (fun _ => rfl) _) Tryz.underlying24 in3 rfl (by (simp [chunk]; omega)) (by (unfold maxLen; simp [chunk]; omega))) rfl ?_
         refine AWl.le (σ' := ⟨_, [(1, _), (2, _), (4, _), (5, _), (6, _), (7, _), (8, _), (9, _), (10, _), (45, _), (51, _)], [(12, _), (25, _), (31, _), (46, _)]⟩) (Le.sub0 rfl ⟨rfl, rfl, rfl, rfl, rfl, rfl, rfl, rfl, rfl, rfl, rfl, trivial⟩ ⟨rfl, rfl, rfl, rfl, trivial⟩) ?_
         refine AWl.absadd (R_list (xs := [.tmp 51]) 52 rfl rfl rfl (.cons (.tm rfl) rfl rfl .nil) Tryz.underlying77 in24 rfl rfl rfl rfl) rfl ?_
         refine AWl.abschgput (R_append_own rfl rfl rfl (.tm rfl) rfl (.tm rfl) rfl rfl Tryz.underlying77 in24 rfl (by (simp [chunk]; omega)) (by (unfold maxLen; simp [chunk]; omega))) rfl ?_
         refine AWl.le (σ' := ⟨_, [(1, _), (2, _), (4, _), (5, _), (6, _), (7, _), (8, _), (9, _), (10, _), (53, _)], [(12, _), (25, _), (31, _)]⟩) (Le.sub0 rfl ⟨rfl, rfl, rfl, rfl, rfl, rfl, rfl, rfl, rfl, rfl, trivial⟩ ⟨rfl, rfl, rfl, trivial⟩) ?_
         refine AWl.av rfl rfl rfl rfl rfl ?_
         refine AWl.nil (AW.sr ?_)
         refine AWl.ac rfl rfl rfl rfl rfl ?_
         refine AWl.nil (AW.block ?_)
         refine AW.loop1 (fun (j : Nat) => (j ≤ (alphaOf x).length) ∧ True) (fun (j : Nat) => ⟨_, [(11, (true, .a (.one (.t (.v (.int .i64 (j : Nat))))))), (5, (true, .a (.one (.rf 12)))), (9, (true, .a (.one (.rf 31)))), (1, _), (2, _), (4, _), (6, _), (7, _), (8, _), (10, _)], [(12, .row 1 ((wordsUp (alphaOf x) x k ++ ((wordsA (alphaOf x) k).take (i + 1)).filter (tk x)).map cIntS)), (25, .row 1 ((wordsA (alphaOf x) k).map cIntS)), (31, .row 1 ((moreA (alphaOf x) ((wordsA (alphaOf x) k).take i) ++ ((alphaOf x).take j).map fun c => b ++ [c]).map cIntS))]⟩) (fun (j : Nat) => (alphaOf x).length - j) (0) ⟨Nat.zero_le _, trivial⟩ (Le.sub0 rfl ⟨rfl, rfl, rfl, rfl, rfl, rfl, rfl, rfl, rfl, rfl, trivial⟩ ⟨(by refine congrArg (fun r => some (R.row 1 r)) ?_; first | rfl | (simp; done) | (rw [filterA hb, if_pos (by simpa using h44)]; simp [chunk, cIntS]; done) | (rw [filterA hb, if_neg (by simpa using h44)]; simp; done)), rfl, (by refine congrArg (fun r => some (R.row 1 r)) ?_; first | rfl | (simp; done)), trivial⟩) ?_
         rintro j ⟨hk2, he2⟩
         refine AW.seq ?_
         refine AW.sr ?_
         refine AWl.mv rfl rfl rfl rfl rfl ?_
         refine AWl.mv rfl rfl rfl rfl rfl ?_
         refine AWl.put (by exact R_lenm rfl (.no rfl) rfl (.tm rfl) (by exact .t) Tryz.underlying24) rfl ?_
         refine AWl.put (R_lt rfl (.no rfl) rfl (.tm rfl) (.tm rfl)) rfl ?_
         refine AWl.nil ?_
         refine AW.cond (.tm rfl) (fun h57 => ?_) (fun h57 => ?_)
         · skip
           try simp at h57
           obtain ⟨c, hc⟩ : ∃ ξ, (alphaOf x)[j]? = some ξ := ⟨_, List.getElem?_eq_getElem (by omega)⟩
           have hnl2 : ((alphaOf x).take j).length ≤ 9 := (by rw [List.length_take]; omega)
           refine AW.skip ?_
           refine AW.seq ?_
           refine AW.block ?_
           refine AW.le (σ' := ⟨_, [(1, _), (2, _), (4, _), (5, _), (6, _), (7, _), (8, _), (9, _), (10, _), (11, _), (54, _), (55, _), (56, _), (57, _)], [(12, _), (25, _), (31, _)]⟩) (Le.sub0 rfl ⟨rfl, rfl, rfl, rfl, rfl, rfl, rfl, rfl, rfl, rfl, rfl, rfl, rfl, rfl, trivial⟩ ⟨rfl, rfl, rfl, trivial⟩) ?_
           refine AW.drawK 14 (nthB [[], [], [], [], [2, 3], [2, 3, 4], [1, 2, 3, 4, 5], [], [], [7, 8], [7, 8, 9], [7, 8, 9, 10], [1, 2, 3, 4, 5, 6, 7, 8, 9, 10, 11], [1, 2, 3, 4, 5, 6, 7, 8, 9, 10, 11, 12]]) [(6, 61), (12, 61), (13, 61)] (by kernel_rfl) (by kernel_rfl) (by kernel_rfl) ?_
           refine DrawK.step (LocK.of rfl fun σ' hs => R_move rfl (.no rfl) (hd_sup hs rfl) (.tm (hs.slots _ _ rfl))) ?_
           refine DrawK.step (LocK.of1 rfl fun σ' hs hf => R_empty 61 rfl rfl (hd_sup hs rfl) Tryz.underlying24 ty3 hf) ?_
           refine DrawK.step (LocK.of rfl fun σ' hs => R_move rfl (.no rfl) (hd_sup hs rfl) (.tm (hs.slots _ _ rfl))) ?_
           refine DrawK.step (LocK.of rfl fun σ' hs => R_move rfl (.no rfl) (hd_sup hs rfl) (.tm (hs.slots _ _ rfl))) ?_
           refine DrawK.step (LocK.of rfl fun σ' hs => (by exact R_indexAddr_rf rfl (.no rfl) (hd_sup hs rfl) (.tm (hs.slots _ _ rfl)) (hs.res _ _ rfl) (.tm (hs.slots _ _ rfl)) Tryz.underlying77 ty24 (fun _ => ⟨by omega, (by exact map_get hb)⟩))) ?_
           refine DrawK.step (LocK.of rfl fun σ' hs => (by exact R_load_pr rfl (.no rfl) (hd_sup hs rfl) (.tm (hs.slots _ _ rfl)) (hs.res _ _ rfl) (by exact map_get hb) ty24 rfl rfl)) ?_
           refine DrawK.step (LocK.ofc rfl rfl fun σ' hs => R_append (id := 61) rfl rfl (hd_sup hs rfl) (.tm (hs.slots _ _ rfl)) (hs.res _ _ rfl) (.tm (hs.slots _ _ rfl)) (by exact .vw) (by exact isV_map (fun _ => rfl) _) Tryz.underlying24 in3 rfl (by (simp [chunk]; omega)) (by (unfold maxLen; simp [chunk]; omega))) ?_
           refine DrawK.step (LocK.of rfl fun σ' hs => R_move rfl (.no rfl) (hd_sup hs rfl) (.tm (hs.slots _ _ rfl))) ?_
           refine DrawK.step (LocK.of rfl fun σ' hs => R_move rfl (.no rfl) (hd_sup hs rfl) (.tm (hs.slots _ _ rfl))) ?_
           refine DrawK.step (LocK.of rfl fun σ' hs => (by exact R_indexAddr rfl (.no rfl) (hd_sup hs rfl) (.tm (hs.slots _ _ rfl)) (.tm (hs.slots _ _ rfl)) Tryz.underlying24 ty3 (fun _ => ⟨by omega, (by exact map_get hc)⟩))) ?_
           refine DrawK.step (LocK.of rfl fun σ' hs => (by exact R_load rfl (.no rfl) (hd_sup hs rfl) (.tm (hs.slots _ _ rfl)) ty3 rfl rfl)) ?_
           refine DrawK.step (LocK.of rfl fun σ' hs => R_listz (xs := [.tmp 70]) (rows := [cInt c]) rfl rfl (hd_sup hs rfl) (.cons (.tm (hs.slots _ _ rfl)) rfl rfl .nil) Tryz.underlying24 in3 rfl rfl (rfl)) ?_
           refine DrawK.step (LocK.ofc rfl rfl fun σ' hs => R_append (id := 61) rfl rfl (hd_sup hs rfl) (.tm (hs.slots _ _ rfl)) (hs.res _ _ rfl) (.tm (hs.slots _ _ rfl)) (by exact .t) (by rfl) Tryz.underlying24 in3 rfl (by (simp [chunk]; omega)) (by (unfold maxLen; simp [chunk]; omega))) ?_
           refine DrawK.step (LocK.ofc rfl rfl fun σ' hs => R_listc (id := 61) rfl rfl (hd_sup hs rfl) (.tm (hs.slots _ _ rfl)) (hs.res _ _ rfl) Tryz.underlying77 in24) ?_
           refine DrawK.fin rfl rfl rfl ?_
           refine AWl.le (σ' := ⟨_, [(1, _), (2, _), (4, _), (5, _), (6, _), (7, _), (8, _), (9, _), (10, _), (11, _), (57, _), (60, _), (73, _)], [(12, _), (25, _), (31, _), (61, _)]⟩) (Le.sub0 rfl ⟨rfl, rfl, rfl, rfl, rfl, rfl, rfl, rfl, rfl, rfl, rfl, rfl, rfl, trivial⟩ ⟨rfl, rfl, rfl, rfl, trivial⟩) ?_
           refine AWl.abschgput (R_append_own rfl rfl rfl (.tm rfl) rfl (.tm rfl) rfl rfl Tryz.underlying77 in24 rfl (by (simp [chunk]; omega)) (by (unfold maxLen; simp [chunk]; omega))) rfl ?_
           refine AWl.le (σ' := ⟨_, [(1, _), (2, _), (4, _), (5, _), (6, _), (7, _), (8, _), (9, _), (10, _), (11, _), (57, _), (74, _)], [(12, _), (25, _), (31, _)]⟩) (Le.sub0 rfl ⟨rfl, rfl, rfl, rfl, rfl, rfl, rfl, rfl, rfl, rfl, rfl, rfl, trivial⟩ ⟨rfl, rfl, rfl, trivial⟩) ?_
           refine AWl.av rfl rfl rfl rfl rfl ?_
           refine AWl.nil (AW.region ?_)
           refine AWl.mv rfl rfl rfl rfl rfl ?_
           refine AWl.put (R_add rfl (.no rfl) rfl (.tm rfl) (.const rfl) (fun _ => by omega)) rfl ?_
           refine AWl.av rfl rfl rfl rfl rfl ?_
           refine AWl.nil ?_
           repeat (with_reducible refine BlockQ.nor ?_)
           refine Round1.next (j + 1) ⟨by omega, trivial⟩ (by omega) (Le.sub0 rfl ⟨rfl, rfl, rfl, rfl, rfl, rfl, rfl, rfl, rfl, rfl, trivial⟩ ⟨(by refine congrArg (fun r => some (R.row 1 r)) ?_; first | rfl | (rw [wordsUp_succ, List.take_of_length_le (by first | omega | (simp at h35; omega))]; done)), (by refine congrArg (fun r => some (R.row 1 r)) ?_; first | rfl | (rw [List.take_of_length_le (by first | omega | (simp at h35; omega))]; rfl)), (by refine congrArg (fun r => some (R.row 1 r)) ?_; first | (rw [take_at hc]; simp [chunk, cIntS, cInt]; done) | (rw [moreA_at hb, List.take_of_length_le (l := alphaOf x) (by first | omega | (simp at h57; omega))]; done)), trivial⟩)
         · skip
           try simp at h57
           refine AW.exit ?_
           refine AW.region ?_
           refine AWl.mv rfl rfl rfl rfl rfl ?_
           refine AWl.put (R_add rfl (.no rfl) rfl (.tm rfl) (.const rfl) (fun _ => by omega)) rfl ?_
           refine AWl.av rfl rfl rfl rfl rfl ?_
           refine AWl.nil ?_
           repeat (with_reducible refine BlockQ.nor ?_)
           refine Round1.next (i + 1) ⟨by omega, trivial⟩ (by omega) (Le.sub0 rfl ⟨rfl, rfl, rfl, rfl, rfl, rfl, rfl, rfl, rfl, trivial⟩ ⟨(by refine congrArg (fun r => some (R.row 1 r)) ?_; first | rfl | (rw [wordsUp_succ, List.take_of_length_le (by first | omega | (simp at h35; omega))]; done)), (by refine congrArg (fun r => some (R.row 1 r)) ?_; first | rfl | (rw [List.take_of_length_le (by first | omega | (simp at h35; omega))]; rfl)), (by refine congrArg (fun r => some (R.row 1 r)) ?_; first | (rw [take_at hc]; simp [chunk, cIntS, cInt]; done) | (rw [moreA_at hb, List.take_of_length_le (l := alphaOf x) (by omega)]; done)), trivial⟩)
       · skip
         try simp at h44
         refine AW.skip ?_
         refine AW.seq ?_
         refine AW.le (σ' := ⟨_, [(1, _), (2, _), (4, _), (5, _), (6, _), (7, _), (8, _), (9, _), (10, _)], [(12, _), (25, _), (31, _)]⟩) (Le.sub0 rfl ⟨rfl, rfl, rfl, rfl, rfl, rfl, rfl, rfl, rfl, trivial⟩ ⟨rfl, rfl, rfl, trivial⟩) ?_
         refine AW.region ?_
         refine AWl.ac rfl rfl rfl rfl rfl ?_
         refine AWl.nil (AW.block ?_)
         refine AW.loop1 (fun (j : Nat) => (j ≤ (alphaOf x).length) ∧ True) (fun (j : Nat) => ⟨_, [(11, (true, .a (.one (.t (.v (.int .i64 (j : Nat))))))), (5, (true, .a (.one (.rf 12)))), (9, (true, .a (.one (.rf 31)))), (1, _), (2, _), (4, _), (6, _), (7, _), (8, _), (10, _)], [(12, .row 1 ((wordsUp (alphaOf x) x k ++ ((wordsA (alphaOf x) k).take (i + 1)).filter (tk x)).map cIntS)), (25, .row 1 ((wordsA (alphaOf x) k).map cIntS)), (31, .row 1 ((moreA (alphaOf x) ((wordsA (alphaOf x) k).take i) ++ ((alphaOf x).take j).map fun c => b ++ [c]).map cIntS))]⟩) (fun (j : Nat) => (alphaOf x).length - j) (0) ⟨Nat.zero_le _, trivial⟩ (Le.sub0 rfl ⟨rfl, rfl, rfl, rfl, rfl, rfl, rfl, rfl, rfl, rfl, trivial⟩ ⟨(by refine congrArg (fun r => some (R.row 1 r)) ?_; first | rfl | (simp; done) | (rw [filterA hb, if_pos (by simpa using h44)]; simp [chunk, cIntS]; done) | (rw [filterA hb, if_neg (by simpa using h44)]; simp; done)), rfl, (by refine congrArg (fun r => some (R.row 1 r)) ?_; first | rfl | (simp; done)), trivial⟩) ?_
         rintro j ⟨hk2, he2⟩
         refine AW.seq ?_
         refine AW.sr ?_
         refine AWl.mv rfl rfl rfl rfl rfl ?_
         refine AWl.mv rfl rfl rfl rfl rfl ?_
         refine AWl.put (by exact R_lenm rfl (.no rfl) rfl (.tm rfl) (by exact .t) Tryz.underlying24) rfl ?_
         refine AWl.put (R_lt rfl (.no rfl) rfl (.tm rfl) (.tm rfl)) rfl ?_
         refine AWl.nil ?_
         refine AW.cond (.tm rfl) (fun h57 => ?_) (fun h57 => ?_)
         · skip
           try simp at h57
           obtain ⟨c, hc⟩ : ∃ ξ, (alphaOf x)[j]? = some ξ := ⟨_, List.getElem?_eq_getElem (by omega)⟩
           have hnl2 : ((alphaOf x).take j).length ≤ 9 := (by rw [List.length_take]; omega)
           refine AW.skip ?_
           refine AW.seq ?_
           refine AW.block ?_
           refine AW.le (σ' := ⟨_, [(1, _), (2, _), (4, _), (5, _), (6, _), (7, _), (8, _), (9, _), (10, _), (11, _), (54, _), (55, _), (56, _), (57, _)], [(12, _), (25, _), (31, _)]⟩) (Le.sub0 rfl ⟨rfl, rfl, rfl, rfl, rfl, rfl, rfl, rfl, rfl, rfl, rfl, rfl, rfl, rfl, trivial⟩ ⟨rfl, rfl, rfl, trivial⟩) ?_
           refine AW.drawK 14 (nthB [[], [], [], [], [2, 3], [2, 3, 4], [1, 2, 3, 4, 5], [], [], [7, 8], [7, 8, 9], [7, 8, 9, 10], [1, 2, 3, 4, 5, 6, 7, 8, 9, 10, 11], [1, 2, 3, 4, 5, 6, 7, 8, 9, 10, 11, 12]]) [(6, 61), (12, 61), (13, 61)] (by kernel_rfl) (by kernel_rfl) (by kernel_rfl) ?_
           refine DrawK.step (LocK.of rfl fun σ' hs => R_move rfl (.no rfl) (hd_sup hs rfl) (.tm (hs.slots _ _ rfl))) ?_
           refine DrawK.step (LocK.of1 rfl fun σ' hs hf => R_empty 61 rfl rfl (hd_sup hs rfl) Tryz.underlying24 ty3 hf) ?_
           refine DrawK.step (LocK.of rfl fun σ' hs => R_move rfl (.no rfl) (hd_sup hs rfl) (.tm (hs.slots _ _ rfl))) ?_
           refine DrawK.step (LocK.of rfl fun σ' hs => R_move rfl (.no rfl) (hd_sup hs rfl) (.tm (hs.slots _ _ rfl))) ?_
           refine DrawK.step (LocK.of rfl fun σ' hs => (by exact R_indexAddr_rf rfl (.no rfl) (hd_sup hs rfl) (.tm (hs.slots _ _ rfl)) (hs.res _ _ rfl) (.tm (hs.slots _ _ rfl)) Tryz.underlying77 ty24 (fun _ => ⟨by omega, (by exact map_get hb)⟩))) ?_
           refine DrawK.step (LocK.of rfl fun σ' hs => (by exact R_load_pr rfl (.no rfl) (hd_sup hs rfl) (.tm (hs.slots _ _ rfl)) (hs.res _ _ rfl) (by exact map_get hb) ty24 rfl rfl)) ?_
           refine DrawK.step (LocK.ofc rfl rfl fun σ' hs => R_append (id := 61) rfl rfl (hd_sup hs rfl) (.tm (hs.slots _ _ rfl)) (hs.res _ _ rfl) (.tm (hs.slots _ _ rfl)) (by exact .vw) (by exact isV_map (fun _ => rfl) _) Tryz.underlying24 in3 rfl (by (simp [chunk]; omega)) (by (unfold maxLen; simp [chunk]; omega))) ?_
           refine DrawK.step (LocK.of rfl fun σ' hs => R_move rfl (.no rfl) (hd_sup hs rfl) (.tm (hs.slots _ _ rfl))) ?_
           refine DrawK.step (LocK.of rfl fun σ' hs => R_move rfl (.no rfl) (hd_sup hs rfl) (.tm (hs.slots _ _ rfl))) ?_
           refine DrawK.step (LocK.of rfl fun σ' hs => (by exact R_indexAddr rfl (.no rfl) (hd_sup hs rfl) (.tm (hs.slots _ _ rfl)) (.tm (hs.slots _ _ rfl)) Tryz.underlying24 ty3 (fun _ => ⟨by omega, (by exact map_get hc)⟩))) ?_
           refine DrawK.step (LocK.of rfl fun σ' hs => (by exact R_load rfl (.no rfl) (hd_sup hs rfl) (.tm (hs.slots _ _ rfl)) ty3 rfl rfl)) ?_
           refine DrawK.step (LocK.of rfl fun σ' hs => R_listz (xs := [.tmp 70]) (rows := [cInt c]) rfl rfl (hd_sup hs rfl) (.cons (.tm (hs.slots _ _ rfl)) rfl rfl .nil) Tryz.underlying24 in3 rfl rfl (rfl)) ?_
           refine DrawK.step (LocK.ofc rfl rfl fun σ' hs => R_append (id := 61) rfl rfl (hd_sup hs rfl) (.tm (hs.slots _ _ rfl)) (hs.res _ _ rfl) (.tm (hs.slots _ _ rfl)) (by exact .t) (by rfl) Tryz.underlying24 in3 rfl (by (simp [chunk]; omega)) (by (unfold maxLen; simp [chunk]; omega))) ?_
           refine DrawK.step (LocK.ofc rfl rfl fun σ' hs => R_listc (id := 61) rfl rfl (hd_sup hs rfl) (.tm (hs.slots _ _ rfl)) (hs.res _ _ rfl) Tryz.underlying77 in24) ?_
           refine DrawK.fin rfl rfl rfl ?_
           refine AWl.le (σ' := ⟨_, [(1, _), (2, _), (4, _), (5, _), (6, _), (7, _), (8, _), (9, _), (10, _), (11, _), (57, _), (60, _), (73, _)], [(12, _), (25, _), (31, _), (61, _)]⟩) (Le.sub0 rfl ⟨rfl, rfl, rfl, rfl, rfl, rfl, rfl, rfl, rfl, rfl, rfl, rfl, rfl, trivial⟩ ⟨rfl, rfl, rfl, rfl, trivial⟩) ?_
           refine AWl.abschgput (R_append_own rfl rfl rfl (.tm rfl) rfl (.tm rfl) rfl rfl Tryz.underlying77 in24 rfl (by (simp [chunk]; omega)) (by (unfold maxLen; simp [chunk]; omega))) rfl ?_
           refine AWl.le (σ' := ⟨_, [(1, _), (2, _), (4, _), (5, _), (6, _), (7, _), (8, _), (9, _), (10, _), (11, _), (57, _), (74, _)], [(12, _), (25, _), (31, _)]⟩) (Le.sub0 rfl ⟨rfl, rfl, rfl, rfl, rfl, rfl, rfl, rfl, rfl, rfl, rfl, rfl, trivial⟩ ⟨rfl, rfl, rfl, trivial⟩) ?_
           refine AWl.av rfl rfl rfl rfl rfl ?_
           refine AWl.nil (AW.region ?_)
           refine AWl.mv rfl rfl rfl rfl rfl ?_
           refine AWl.put (R_add rfl (.no rfl) rfl (.tm rfl) (.const rfl) (fun _ => by omega)) rfl ?_
           refine AWl.av rfl rfl rfl rfl rfl ?_
           refine AWl.nil ?_
           repeat (with_reducible refine BlockQ.nor ?_)
           refine Round1.next (j + 1) ⟨by omega, trivial⟩ (by omega) (Le.sub0 rfl ⟨rfl, rfl, rfl, rfl, rfl, rfl, rfl, rfl, rfl, rfl, trivial⟩ ⟨(by refine congrArg (fun r => some (R.row 1 r)) ?_; first | rfl | (rw [wordsUp_succ, List.take_of_length_le (by first | omega | (simp at h35; omega))]; done)), (by refine congrArg (fun r => some (R.row 1 r)) ?_; first | rfl | (rw [List.take_of_length_le (by first | omega | (simp at h35; omega))]; rfl)), (by refine congrArg (fun r => some (R.row 1 r)) ?_; first | (rw [take_at hc]; simp [chunk, cIntS, cInt]; done) | (rw [moreA_at hb, List.take_of_length_le (l := alphaOf x) (by first | omega | (simp at h57; omega))]; done)), trivial⟩)
         · skip
           try simp at h57
           refine AW.exit ?_
           refine AW.region ?_
           refine AWl.mv rfl rfl rfl rfl rfl ?_
           refine AWl.put (R_add rfl (.no rfl) rfl (.tm rfl) (.const rfl) (fun _ => by omega)) rfl ?_
           refine AWl.av rfl rfl rfl rfl rfl ?_
           refine AWl.nil ?_
           repeat (with_reducible refine BlockQ.nor ?_)
           refine Round1.next (i + 1) ⟨by omega, trivial⟩ (by omega) (Le.sub0 rfl ⟨rfl, rfl, rfl, rfl, rfl, rfl, rfl, rfl, rfl, trivial⟩ ⟨(by refine congrArg (fun r => some (R.row 1 r)) ?_; first | rfl | (rw [wordsUp_succ, List.take_of_length_le (by first | omega | (simp at h35; omega))]; done)), (by refine congrArg (fun r => some (R.row 1 r)) ?_; first | rfl | (rw [List.take_of_length_le (by first | omega | (simp at h35; omega))]; rfl)), (by refine congrArg (fun r => some (R.row 1 r)) ?_; first | (rw [take_at hc]; simp [chunk, cIntS, cInt]; done) | (rw [moreA_at hb, List.take_of_length_le (l := alphaOf x) (by omega)]; done)), trivial⟩)
     · skip
       try simp at h35
       refine AW.exit ?_
       refine AW.region ?_
       refine AWl.mv rfl rfl rfl rfl rfl ?_
       refine AWl.av rfl rfl rfl rfl rfl ?_
       refine AWl.nil ?_
       refine AW.le (Le.sw 25 31 _) ?_
       refine AW.region ?_
       refine AWl.mv rfl rfl rfl rfl rfl ?_
       refine AWl.put (R_add rfl (.no rfl) rfl (.tm rfl) (.const rfl) (fun _ => by omega)) rfl ?_
       refine AWl.av rfl rfl rfl rfl rfl ?_
       refine AWl.nil ?_
       repeat (with_reducible refine BlockQ.nor ?_)
       refine Round1.next (k + 1) ⟨by omega, trivial⟩ (by omega) (Le.sub0 rfl ⟨rfl, rfl, rfl, rfl, rfl, rfl, rfl, trivial⟩ ⟨(by refine congrArg (fun r => some (R.row 1 r)) ?_; first | rfl | (rw [wordsUp_succ, List.take_of_length_le (by omega)]; done)), (by refine congrArg (fun r => some (R.row 1 r)) ?_; first | rfl | (rw [List.take_of_length_le (by omega)]; rfl)), trivial⟩)
   · skip
     try simp at h28
     refine AW.exit ?_
     refine AW.sr ?_
     refine AWl.mv rfl rfl rfl rfl rfl ?_
     refine AWl.av rfl rfl rfl rfl rfl ?_
     refine AWl.nil (AW.ret ?_)
     refine Res.one rfl (.tmp rfl .nil) rfl ?_
     rw [wordsE_alpha hx hyes, show n.toNat + 1 = k by have h := h28; first | omega | (simp at h; omega)]; rfl
end Go.Proofs.YtbkhopfpejhnlaaGreat
