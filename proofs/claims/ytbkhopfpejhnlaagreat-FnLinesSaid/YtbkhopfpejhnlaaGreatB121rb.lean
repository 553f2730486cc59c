import Derived.Test.YtbkhopfpejhnlaaGreatB31rb
import Derived.Test.YtbkhopfpejhnlaaGreatB117rb
set_option linter.unusedVariables false
set_option linter.unusedSimpArgs false
set_option maxHeartbeats 1000000
set_option maxRecDepth 100000
namespace Go.Q
open Go.RowKit Go.D
def cG (w : List Int) (y : Tr) : List T := [.sl 1 ((gridF (w.length + 1) (wordR w y)).map cBoolS)]
theorem run_step {l : List TToken} {i : Nat} {t : TToken} {ts : List Tr} {x : Tr} (he : runTr ts (l.drop i) = some [x]) (ht : l[i]? = some t) : ∃ ts', stepTr ts t = some ts' ∧ runTr ts' (l.drop (i + 1)) = some [x] := by
 rw [runTr_drop ht] at he
 split at he
 · rename_i ts' h; exact ⟨ts', h, he⟩
 · cases he
theorem step_ok {ts ts1 : List Tr} {t : TToken} (h : stepTr ts t = some ts1) : tokOk t = true ∧ nk t.Kind ≤ ts.length := by
 unfold stepTr at h
 split at h
 · cases h
 · rename_i h0
   constructor
   · cases hq : tokOk t with
     | true => rfl
     | false => exact absurd (.inl hq) h0
   · exact Nat.le_of_not_lt fun h => h0 (.inr h)
theorem step0 {ts ts1 : List Tr} {t : TToken} (h : stepTr ts t = some ts1) (hk : nk t.Kind = 0) : ts1 = ts ++ [.leaf t] := by
 unfold stepTr at h
 rw [hk] at h
 split at h
 · cases h
 · simp at h; exact h.symm
theorem step1 {ts ts1 : List Tr} {t : TToken} (h : stepTr ts t = some ts1) (hk : nk t.Kind = 1) : ∃ ts0 y, ts = ts0 ++ [y] ∧ ts1 = ts0 ++ [.un t y] := by
 have hl := (step_ok h).2
 unfold stepTr at h
 rw [hk] at h hl
 split at h
 · cases h
 · have hsp : ts = ts.take (ts.length - 1) ++ ts.drop (ts.length - 1) := (List.take_append_drop _ _).symm
   split at h
   · omega
   · rename_i y e1 e2
     cases h
     exact ⟨ts.take (ts.length - 1), y, by rw [e2] at hsp; exact hsp, rfl⟩
   · omega
   · cases h
theorem step2 {ts ts1 : List Tr} {t : TToken} (h : stepTr ts t = some ts1) (hk : nk t.Kind = 2) : ∃ ts0 y z, ts = ts0 ++ [y, z] ∧ ts1 = ts0 ++ [.bin t y z] := by
 have hl := (step_ok h).2
 unfold stepTr at h
 rw [hk] at h hl
 split at h
 · cases h
 · have hsp : ts = ts.take (ts.length - 2) ++ ts.drop (ts.length - 2) := (List.take_append_drop _ _).symm
   split at h
   · omega
   · omega
   · rename_i y z e1 e2
     cases h
     exact ⟨ts.take (ts.length - 2), y, z, by rw [e2] at hsp; exact hsp, rfl⟩
   · cases h
theorem tok_high {t : TToken} (h : tokOk t = true) (h7 : t.Kind = 7) : 0 ≤ t.High ∧ t.High ≤ 3 := by
 unfold tokOk at h
 have ha : 0 ≤ arity t := of_decide_eq_true h
 unfold arity at ha
 rw [if_neg (by omega), if_neg (by omega), if_neg (by omega), if_neg (by omega), if_pos h7] at ha
 split at ha
 · rename_i hc; simp only [Bool.and_eq_true, inB, decide_eq_true_eq] at hc; omega
 · omega
theorem rep_star {w : List Int} {y : Tr} : gridF (w.length + 1) (repR (w.length + 1) (wordR w y) 0 (w.length + 1)) = gridF (w.length + 1) (starR (w.length + 1) (wordR w y) (w.length + 1)) := gridF_ext fun i j _ hj => by
 rw [repR_star _ _ _ (by omega), starR_fix (up_word w y) (k := w.length + 1 - 1) (by omega) hj (w.length + 1) (by omega)]
theorem cG_leaf2 {w : List Int} {t : TToken} (h : t.Kind = 2) : cG w (.leaf t) = [.sl 1 ((gridF (w.length + 1) idR).map cBoolS)] := by unfold cG; rw [wordR, if_pos h]
theorem cG_leaf3 {w : List Int} {t : TToken} (h : t.Kind = 3) : cG w (.leaf t) = [.sl 1 ((gridF (w.length + 1) (letR w t.Letter)).map cBoolS)] := by unfold cG; rw [wordR, if_neg (by omega), if_pos h]
theorem cG_leaf {w : List Int} {t : TToken} (h2 : ¬ t.Kind = 2) (h3 : ¬ t.Kind = 3) : cG w (.leaf t) = [.sl 1 ((gridF (w.length + 1) noR).map cBoolS)] := by unfold cG; rw [wordR, if_neg h2, if_neg h3]
theorem cG_bin4 {w : List Int} {t : TToken} {y z : Tr} (h : t.Kind = 4) : cG w (.bin t y z) = [.sl 1 ((gridF (w.length + 1) (thenR (w.length + 1) (wordR w y) (wordR w z))).map cBoolS)] := by unfold cG; rw [wordR, if_pos h]
theorem cG_bin {w : List Int} {t : TToken} {y z : Tr} (h : ¬ t.Kind = 4) : cG w (.bin t y z) = [.sl 1 ((gridF (w.length + 1) (orR (wordR w y) (wordR w z))).map cBoolS)] := by unfold cG; rw [wordR, if_neg h]
theorem cG_un6 {w : List Int} {t : TToken} {y : Tr} (h : t.Kind = 6) : cG w (.un t y) = [.sl 1 ((gridF (w.length + 1) (repR (w.length + 1) (wordR w y) 0 (w.length + 1))).map cBoolS)] := by unfold cG; rw [wordR, if_pos h, rep_star]
theorem cG_un {w : List Int} {t : TToken} {y : Tr} (h : ¬ t.Kind = 6) : cG w (.un t y) = [.sl 1 ((gridF (w.length + 1) (repR (w.length + 1) (wordR w y) t.Low (t.High.toNat + 1))).map cBoolS)] := by unfold cG; rw [wordR, if_neg h]
theorem cut_front {α β : Type} {f : α → β} (l r : List α) : ((l ++ r).map f).take l.length = l.map f := by rw [List.map_append, List.take_left' (by simp)]
theorem snoc_get {α β : Type} {f : α → β} (l : List α) (x : α) : ((l ++ [x]).map f)[l.length]? = some (f x) := by simp
theorem snoc_set {α β : Type} {f : α → β} (l : List α) (x : α) (c d : β) : (((l ++ [x]).map f).set l.length c).set l.length d = l.map f ++ [d] := by
 rw [List.set_set, List.map_append, List.set_append_right _ _ (by simp)]
 simp
end Go.Q
namespace Go.Proofs.YtbkhopfpejhnlaaGreat
open Go.RowKit Go.Q Go.D
set_option maxRecDepth 100000 in
theorem specl9Match (w : List Int) (hw : w.length ≤ 4000) (x : Tr) (l : List TToken) (hl : runTr [] l = some [x]) (hll : l.length ≤ 1048576) : FnT Tryz.prog 49 [.one (.sl 4 (l.map cToken)), .one (.sl 1 (w.map cInt))] (.a (.one (.v (.bool (tk x w))))) := by
 refine FnT.walk Tryz.func49 U (by kernel_rfl) Tryz.ntmps49 U fun hlen w0 => ?_
 try simp [cPair, cToken, cExpr, cEdge, cGraph, cStep, cWalk, cChange, cBatch, cHistory, cPositions, cAutomaton, cProductStep, cPathAtom, cConjunction, cView, cDelta, cRegistered, cRegistry] at hlen
 clear hlen
 refine AW.sr ?_
 refine AWl.ac U U U U U ?_
 refine AWl.nil (AW.sr ?_)
 refine AWl.mv U U U U U ?_
 refine AWl.put (by exact R_lenm U (.no U) U (.tm U) (by exact .t) Tryz.underlying24) U ?_
 refine AWl.put (R_add U (.no U) U (.tm U) (.const U) (fun _ => by omega)) U ?_
 refine AWl.av U U U U U ?_
 refine AWl.nil (AW.sr ?_)
 refine AWl.add (R_empty 17 U U U Tryz.underlying108 ty109 U) U ?_
 refine AWl.av U U U U U ?_
 refine AWl.nil (AW.seq ?_)
 refine AW.sr ?_
 refine AWl.ac U U U U U ?_
 refine AWl.nil (AW.block ?_)
 refine AW.loop2 (fun (i : Nat) (ts : List Tr) => (i ≤ l.length ∧ ts.length ≤ i) ∧ runTr ts (l.drop i) = some [x]) (fun (i : Nat) (ts : List Tr) => ⟨_, [(7, (true, .a (.one (.t (.v (.int .i64 (i : Nat))))))), (6, (true, .a (.one (.rf 17)))), (0, _), (1, _), (4, _), (5, _)], [(17, .row 1 (ts.map (cG w)))]⟩) (fun (i : Nat) (ts : List Tr) => l.length - i) (0) ([]) ⟨⟨Nat.zero_le _, Nat.le_refl _⟩, hl⟩ (Le.sub0 U ⟨U, U, U, U, U, U, trivial⟩ ⟨U, trivial⟩) ?_
 rintro i ts ⟨hk, he⟩
 refine AW.seq ?_
 refine AW.sr ?_
 refine AWl.mv U U U U U ?_
 refine AWl.mv U U U U U ?_
 refine AWl.put (by exact R_lenm U (.no U) U (.tm U) (by exact .t) Tryz.underlying28) U ?_
 refine AWl.put (R_lt U (.no U) U (.tm U) (.tm U)) U ?_
 refine AWl.nil ?_
 refine AW.cond (.tm U) (fun h21 => ?_) (fun h21 => ?_)
 · skip
   try simp at h21
   obtain ⟨t, ht⟩ : ∃ ξ, l[i]? = some ξ := ⟨_, List.getElem?_eq_getElem (by omega)⟩
   obtain ⟨ts1, hst, hrun⟩ := run_step he ht
   have hto := step_ok hst
   refine AW.skip ?_
   refine AW.seq ?_
   refine AW.block ?_
   refine AW.sr ?_
   refine AWl.mv U U U U U ?_
   refine AWl.put (by exact R_lenm U (.no U) U (.tm U) (by exact .rf U) Tryz.underlying108) U ?_
   refine AWl.av U U U U U ?_
   refine AWl.nil (AW.seq ?_)
   refine AW.le (σ' := ⟨_, [(0, _), (1, _), (4, _), (5, _), (6, _), (7, _), (8, _)], [(17, _)]⟩) (Le.sub0 U ⟨U, U, U, U, U, U, U, trivial⟩ ⟨U, trivial⟩) ?_
   refine AW.region ?_
   refine AWl.mv U U U U U ?_
   refine AWl.mv U U U U U ?_
   refine AWl.put (by exact R_indexAddr U (.no U) U (.tm U) (.tm U) Tryz.underlying28 ty100 (fun _ => ⟨by omega, (by exact map_get ht)⟩)) U ?_
   refine AWl.put (by exact R_load U (.no U) U (.tm U) ty100 U U) U ?_
   refine AWl.add (R_alloc 9 U U U in100 U U U) U ?_
   refine AWl.chgb (R_store_pb U U U (.tm U) (.tm U) U ty100 U U U (by kernel_rfl) U) ?_
   refine AWl.nil (AW.sr ?_)
   refine AWl.put (by exact R_fieldAddr_pp U (.no U) U (.tm U) fl100_0) U ?_
   refine AWl.put (by exact R_load_pp U (.no U) U (.tm U) U ty3 U U) U ?_
   refine AWl.nil (AW.block ?_)
   refine AW.sr ?_
   refine AWl.put (R_eq U (.no U) U (.tm U) (.const U)) U ?_
   refine AWl.av U U U U U ?_
   refine AWl.nil ?_
   refine AW.cond (.tm U) (fun h37 => ?_) (fun h37 => ?_)
   · skip
     try simp at h37
     have hs0 := step0 hst (by unfold nk; rw [if_neg (by omega), if_neg (by omega)])
     refine AW.le (σ' := ⟨_, [(0, _), (1, _), (4, _), (5, _), (6, _), (7, _), (8, _), (9, _), (31, _)], [(17, _), (9, _)]⟩) (Le.sub0 U ⟨U, U, U, U, U, U, U, U, U, trivial⟩ ⟨U, U, trivial⟩) ?_
     refine AW.region ?_
     refine AWl.mv U U U U U ?_
     refine AWl.mv U U U U U ?_
     refine AWl.adds (R_call 4100 (specl9Grid _ (w.length + 1) true _ (by simp) diag_id (by omega)) U U U (.cons (.tm U) U (.cons (.const U) U .nil)) U U) U ?_
     refine AWl.absadd (R_list (xs := [.tmp 41]) 42 U U U (.cons (.tm U) U U .nil) Tryz.underlying108 in109 U U U U) U ?_
     refine AWl.abschgput (R_append_own U U U (.tm U) U (.tm U) U U Tryz.underlying108 in109 U (by (simp [chunk]; omega)) (by (unfold maxLen; simp [chunk]; omega))) U ?_
     refine AWl.le (σ' := ⟨_, [(0, _), (1, _), (4, _), (5, _), (6, _), (7, _), (8, _), (9, _), (31, _), (43, _)], [(17, _), (9, _)]⟩) (Le.sub0 U ⟨U, U, U, U, U, U, U, U, U, U, trivial⟩ ⟨U, U, trivial⟩) ?_
     refine AWl.av U U U U U ?_
     refine AWl.nil (AW.region ?_)
     refine AWl.mv U U U U U ?_
     refine AWl.put (R_add U (.no U) U (.tm U) (.const U) (fun _ => by omega)) U ?_
     refine AWl.av U U U U U ?_
     refine AWl.nil ?_
     repeat (with_reducible refine BlockQ.nor ?_)
     refine Round2.next (i + 1) (ts1) ⟨⟨by omega, by first | (rw [hs0]; simp; omega) | (rw [hs1]; simp at hk ⊢; omega) | (rw [hs2]; simp at hk ⊢; omega)⟩, hrun⟩ (by omega) (Le.sub0 rfl ⟨rfl, rfl, rfl, rfl, rfl, rfl, trivial⟩ ⟨(by refine congrArg (fun r => some (R.row 1 r)) ?_; first | rfl | (rw [hs0, List.map_append, show [Tr.leaf t].map (cG w) = [cG w (.leaf t)] from rfl, cG_leaf2 h37]; simp [chunk]; done) | (rw [hs0, List.map_append, show [Tr.leaf t].map (cG w) = [cG w (.leaf t)] from rfl, cG_leaf3 h44, lTo_end hkn]; simp [chunk]; done) | (rw [hs0, List.map_append, show [Tr.leaf t].map (cG w) = [cG w (.leaf t)] from rfl, cG_leaf h37 h44]; simp [chunk]; done) | (rw [hs2, cut_front, List.map_append, show [Tr.bin t y z].map (cG w) = [cG w (.bin t y z)] from rfl, cG_bin4 h72]; rfl) | (rw [hs2, cut_front, List.map_append, show [Tr.bin t y z].map (cG w) = [cG w (.bin t y z)] from rfl, cG_bin h72]; rfl) | (rw [hs1, hI]; refine (snoc_set _ _ _ _).trans ?_; rw [List.map_append, show [Tr.un t y].map (cG w) = [cG w (.un t y)] from rfl, cG_un6 h112]; rfl) | (rw [hs1, hI]; refine (snoc_set _ _ _ _).trans ?_; rw [List.map_append, show [Tr.un t y].map (cG w) = [cG w (.un t y)] from rfl, cG_un h112]; rfl)), trivial⟩)
   · skip
     try simp at h37
     refine AW.seq ?_
     refine AW.le (σ' := ⟨_, [(0, _), (1, _), (4, _), (5, _), (6, _), (7, _), (8, _), (9, _), (31, _)], [(17, _), (9, _)]⟩) (Le.sub0 U ⟨U, U, U, U, U, U, U, U, U, trivial⟩ ⟨U, U, trivial⟩) ?_
     refine AW.region ?_
     refine AWl.put (R_eq U (.no U) U (.tm U) (.const U)) U ?_
     refine AWl.av U U U U U ?_
     refine AWl.nil ?_
     refine AW.cond (.tm U) (fun h44 => ?_) (fun h44 => ?_)
     · skip
       try simp at h44
       have hs0 := step0 hst (by unfold nk; rw [if_neg (by omega), if_neg (by omega)])
       refine AW.sr ?_
       refine AWl.mv U U U U U ?_
       refine AWl.adds (R_call 4700 (specl9Grid _ (w.length + 1) false _ (by simp) (lTo_zero w t.Letter) (by omega)) U U U (.cons (.tm U) U (.cons (.const U) U .nil)) U U) U ?_
       refine AWl.av U U U U U ?_
       refine AWl.nil (AW.seq ?_)
       refine AW.sr ?_
       refine AWl.ac U U U U U ?_
       refine AWl.nil (AW.block ?_)
       refine AW.loop1 (fun (k : Nat) => (k ≤ w.length) ∧ True) (fun (k : Nat) => ⟨_, [(11, (true, .a (.one (.t (.v (.int .i64 (k : Nat))))))), (10, (true, .a (.one (.rf 4700)))), (0, _), (1, _), (4, _), (5, _), (6, _), (7, _), (8, _), (9, _), (31, _)], [(9, .box [.t (.v (.int .i64 t.Kind)), .t (.v (.int .i64 t.Letter)), .t (.v (.int .i64 t.Low)), .t (.v (.int .i64 t.High))]), (17, .row 1 (ts.map (cG w))), (4700, .row 1 ((gridF (w.length + 1) (lTo w t.Letter k)).map cBoolS))]⟩) (fun (k : Nat) => w.length - k) (0) ⟨Nat.zero_le _, trivial⟩ (Le.sub0 U ⟨U, U, U, U, U, U, U, U, U, U, U, trivial⟩ ⟨U, U, U, trivial⟩) ?_
       rintro k ⟨hk1, he1⟩
       refine AW.seq ?_
       refine AW.sr ?_
       refine AWl.mv U U U U U ?_
       refine AWl.mv U U U U U ?_
       refine AWl.put (by exact R_lenm U (.no U) U (.tm U) (by exact .t) Tryz.underlying24) U ?_
       refine AWl.put (R_lt U (.no U) U (.tm U) (.tm U)) U ?_
       refine AWl.nil ?_
       refine AW.cond (.tm U) (fun h51 => ?_) (fun h51 => ?_)
       · skip
         try simp at h51
         have hkn : k < w.length := (by omega)
         obtain ⟨c, hc⟩ : ∃ ξ, w[k]? = some ξ := ⟨_, List.getElem?_eq_getElem hkn⟩
         refine AW.skip ?_
         refine AW.seq ?_
         refine AW.block ?_
         refine AW.takeR (id := 4700) (i := k) (p := 0) 721 722 U (map_get (gridF_row (by omega))) U (fun _ => rfl) (fun _ => rfl) fun c721 => ?_
         refine AW.drawn 14 (nthB [[], [], [0, 1], [0, 1, 2], [], [4], [], [], [6, 7], [6, 7, 8], [], [10], [6, 7, 8, 9, 10, 11], [0, 1, 2, 3, 4, 5, 6, 7, 8, 9, 10, 11, 12]]) (by kernel_rfl) (by kernel_rfl) (by kernel_rfl) ?_
         refine DrawC.step U U U (Loc.of U fun σ' hs => R_move U (.no U) (hd_sup hs U) (.tm (hs.slots _ _ U))) ?_
         refine DrawC.step U U U (Loc.of U fun σ' hs => R_move U (.no U) (hd_sup hs U) (.tm (hs.slots _ _ U))) ?_
         refine DrawC.step U U U (Loc.of U fun σ' hs => (by exact R_indexAddr_rf U (.no U) (hd_sup hs U) (.tm (hs.slots _ _ U)) (hs.res _ _ U) (.tm (hs.slots _ _ U)) Tryz.underlying109 ty71 (fun _ => ⟨by omega, set_self (by simp [gridF_len]; omega)⟩))) ?_
         refine DrawC.step U U U (Loc.of U fun σ' hs => R_load_hdr (nid := 721) (hid := 722) U (.no U) (hd_sup hs U) (.tm (hs.slots _ _ U)) (hs.res _ _ U) (set_self (by simp [gridF_len]; omega)) ty71 U U U U (hs.res _ _ U) (hs.res _ _ U)) ?_
         refine DrawC.step U U U (Loc.of U fun σ' hs => R_move U (.no U) (hd_sup hs U) (.tm (hs.slots _ _ U))) ?_
         refine DrawC.step U U U (Loc.of U fun σ' hs => R_add U (.no U) (hd_sup hs U) (.tm (hs.slots _ _ U)) (.const U) (fun _ => by omega)) ?_
         refine DrawC.step U U U (Loc.of U fun σ' hs => R_move U (.no U) (hd_sup hs U) (.tm (hs.slots _ _ U))) ?_
         refine DrawC.step U U U (Loc.of U fun σ' hs => R_move U (.no U) (hd_sup hs U) (.tm (hs.slots _ _ U))) ?_
         refine DrawC.step U U U (Loc.of U fun σ' hs => (by exact R_indexAddr U (.no U) (hd_sup hs U) (.tm (hs.slots _ _ U)) (.tm (hs.slots _ _ U)) Tryz.underlying24 ty3 (fun _ => ⟨by omega, (by exact map_get hc)⟩))) ?_
         refine DrawC.step U U U (Loc.of U fun σ' hs => (by exact R_load U (.no U) (hd_sup hs U) (.tm (hs.slots _ _ U)) ty3 U U)) ?_
         refine DrawC.step U U U (Loc.of U fun σ' hs => (by exact R_fieldAddr_pp U (.no U) (hd_sup hs U) (.tm (hs.slots _ _ U)) fl100_1)) ?_
         refine DrawC.step U U U (Loc.of U fun σ' hs => (by exact R_load_pp U (.no U) (hd_sup hs U) (.tm (hs.slots _ _ U)) (hs.res _ _ U) ty3 U U)) ?_
         refine DrawC.step U U U (Loc.of U fun σ' hs => R_eq U (.no U) (hd_sup hs U) (.tm (hs.slots _ _ U)) (.tm (hs.slots _ _ U))) ?_
         refine DrawC.step U U U (Loc.of U fun σ' hs => (by exact R_indexAddr_rf U (.no U) (hd_sup hs U) (.tm (hs.slots _ _ U)) (hs.res _ _ U) (.tm (hs.slots _ _ U)) Tryz.underlying71 ty4 (fun _ => ⟨by omega, map_get (row_at (j := k + 1) (by omega))⟩))) ?_
         refine DrawC.fin U U ?_
         refine AWl.absupd (R_store_pr U U U (.tm U) U (.tm U) U (map_get (row_at (j := k + 1) (by omega))) ty4 U U U U) ?_
         refine AWl.nil ?_
         refine AW.le (Le.putR (nid := 721) (hid := 722) (id := 4700) (i := k) (p := 0) U U U (set_self (by simp [gridF_len]; omega)) U U U U) ?_
         refine AW.le (σ' := ⟨_, [(0, _), (1, _), (4, _), (5, _), (6, _), (7, _), (8, _), (9, _), (10, _), (11, _), (31, _)], [(9, _), (17, _), (4700, _)]⟩) (Le.sub0 U ⟨U, U, U, U, U, U, U, U, U, U, U, trivial⟩ ⟨U, U, U, trivial⟩) ?_
         refine AW.region ?_
         refine AWl.mv U U U U U ?_
         refine AWl.put (R_add U (.no U) U (.tm U) (.const U) (fun _ => by omega)) U ?_
         refine AWl.av U U U U U ?_
         refine AWl.nil ?_
         repeat (with_reducible refine BlockQ.nor ?_)
         refine Round1.next (k + 1) ⟨by omega, trivial⟩ (by omega) (Le.sub0 rfl ⟨rfl, rfl, rfl, rfl, rfl, rfl, rfl, rfl, rfl, rfl, rfl, trivial⟩ ⟨(by rfl), (by refine congrArg (fun r => some (R.row 1 r)) ?_; first | rfl | (rw [hs0, List.map_append, show [Tr.leaf t].map (cG w) = [cG w (.leaf t)] from rfl, cG_leaf2 h37]; simp [chunk]; done) | (rw [hs0, List.map_append, show [Tr.leaf t].map (cG w) = [cG w (.leaf t)] from rfl, cG_leaf3 h44, lTo_end hkn]; simp [chunk]; done) | (rw [hs0, List.map_append, show [Tr.leaf t].map (cG w) = [cG w (.leaf t)] from rfl, cG_leaf h37 h44]; simp [chunk]; done) | (rw [hs2, cut_front, List.map_append, show [Tr.bin t y z].map (cG w) = [cG w (.bin t y z)] from rfl, cG_bin4 h72]; rfl) | (rw [hs2, cut_front, List.map_append, show [Tr.bin t y z].map (cG w) = [cG w (.bin t y z)] from rfl, cG_bin h72]; rfl) | (rw [hs1, hI]; refine (snoc_set _ _ _ _).trans ?_; rw [List.map_append, show [Tr.un t y].map (cG w) = [cG w (.un t y)] from rfl, cG_un6 h112]; rfl) | (rw [hs1, hI]; refine (snoc_set _ _ _ _).trans ?_; rw [List.map_append, show [Tr.un t y].map (cG w) = [cG w (.un t y)] from rfl, cG_un h112]; rfl)), (by refine congrArg (fun r => some (R.row 1 r)) ?_; rw [← lTo_step hc]; exact grid_put), trivial⟩)
       · skip
         try simp at h51
         have hkn : w.length ≤ k := (by omega)
         refine AW.exit ?_
         refine AW.region ?_
         refine AWl.mv U U U U U ?_
         refine AWl.mv U U U U U ?_
         refine AWl.absadd (R_list (xs := [.tmp 69]) 70 U U U (.cons (.tm U) U U .nil) Tryz.underlying108 in109 U U U U) U ?_
         refine AWl.abschgput (R_append_own U U U (.tm U) U (.tm U) U U Tryz.underlying108 in109 U (by (simp [chunk]; omega)) (by (unfold maxLen; simp [chunk]; omega))) U ?_
         refine AWl.le (σ' := ⟨_, [(0, _), (1, _), (4, _), (5, _), (6, _), (7, _), (8, _), (9, _), (10, _), (11, _), (31, _), (51, _), (71, _)], [(9, _), (17, _)]⟩) (Le.sub0 U ⟨U, U, U, U, U, U, U, U, U, U, U, U, U, trivial⟩ ⟨U, U, trivial⟩) ?_
         refine AWl.av U U U U U ?_
         refine AWl.nil (AW.region ?_)
         refine AWl.mv U U U U U ?_
         refine AWl.put (R_add U (.no U) U (.tm U) (.const U) (fun _ => by omega)) U ?_
         refine AWl.av U U U U U ?_
         refine AWl.nil ?_
         repeat (with_reducible refine BlockQ.nor ?_)
         refine Round2.next (i + 1) (ts1) ⟨⟨by omega, by first | (rw [hs0]; simp; omega) | (rw [hs1]; simp at hk ⊢; omega) | (rw [hs2]; simp at hk ⊢; omega)⟩, hrun⟩ (by omega) (Le.sub0 rfl ⟨rfl, rfl, rfl, rfl, rfl, rfl, trivial⟩ ⟨(by refine congrArg (fun r => some (R.row 1 r)) ?_; first | rfl | (rw [hs0, List.map_append, show [Tr.leaf t].map (cG w) = [cG w (.leaf t)] from rfl, cG_leaf2 h37]; simp [chunk]; done) | (rw [hs0, List.map_append, show [Tr.leaf t].map (cG w) = [cG w (.leaf t)] from rfl, cG_leaf3 h44, lTo_end hkn]; simp [chunk]; done) | (rw [hs0, List.map_append, show [Tr.leaf t].map (cG w) = [cG w (.leaf t)] from rfl, cG_leaf h37 h44]; simp [chunk]; done) | (rw [hs2, cut_front, List.map_append, show [Tr.bin t y z].map (cG w) = [cG w (.bin t y z)] from rfl, cG_bin4 h72]; rfl) | (rw [hs2, cut_front, List.map_append, show [Tr.bin t y z].map (cG w) = [cG w (.bin t y z)] from rfl, cG_bin h72]; rfl) | (rw [hs1, hI]; refine (snoc_set _ _ _ _).trans ?_; rw [List.map_append, show [Tr.un t y].map (cG w) = [cG w (.un t y)] from rfl, cG_un6 h112]; rfl) | (rw [hs1, hI]; refine (snoc_set _ _ _ _).trans ?_; rw [List.map_append, show [Tr.un t y].map (cG w) = [cG w (.un t y)] from rfl, cG_un h112]; rfl)), trivial⟩)
     · skip
       try simp at h44
       refine AW.sr ?_
       refine AWl.put (R_eq U (.no U) U (.tm U) (.const U)) U ?_
       refine AWl.av U U U U U ?_
       refine AWl.nil ?_
       refine AW.cond (.tm U) (fun h72 => ?_) (fun h72 => ?_)
       · skip
         try simp at h72
         obtain ⟨ts0, y, z, rfl, hs2⟩ := step2 hst (by unfold nk; rw [if_pos (by omega)])
         have hln : (ts0 ++ [y, z]).length = ts0.length + 2 := by simp
         have hi0 : ((ts0 ++ [y, z]).map (cG w))[((((ts0 ++ [y, z]).length : Nat) : Int) - 2).toNat]? = some (cG w y) := (by rw [show ((((ts0 ++ [y, z]).length : Nat) : Int) - 2).toNat = ts0.length by omega]; simp)
         have hi1 : ((ts0 ++ [y, z]).map (cG w))[((((ts0 ++ [y, z]).length : Nat) : Int) - 1).toNat]? = some (cG w z) := (by rw [show ((((ts0 ++ [y, z]).length : Nat) : Int) - 1).toNat = ts0.length + 1 by omega]; simp)
         refine AW.seq ?_
         refine AW.drawn 12 (nthB [[], [], [1], [0, 1, 2], [0, 1, 2, 3], [], [], [6], [5, 6, 7], [5, 6, 7, 8], [0, 1, 2, 3, 4, 5, 6, 7, 8, 9], [0, 1, 2, 3, 4, 5, 6, 7, 8, 9, 10]]) (by kernel_rfl) (by kernel_rfl) (by kernel_rfl) ?_
         refine DrawC.step U U U (Loc.of U fun σ' hs => R_move U (.no U) (hd_sup hs U) (.tm (hs.slots _ _ U))) ?_
         refine DrawC.step U U U (Loc.of U fun σ' hs => R_move U (.no U) (hd_sup hs U) (.tm (hs.slots _ _ U))) ?_
         refine DrawC.step U U U (Loc.of U fun σ' hs => R_sub U (.no U) (hd_sup hs U) (.tm (hs.slots _ _ U)) (.const U) (fun _ => by omega)) ?_
         refine DrawC.step U U U (Loc.of U fun σ' hs => (by exact R_indexAddr_rf U (.no U) (hd_sup hs U) (.tm (hs.slots _ _ U)) (hs.res _ _ U) (.tm (hs.slots _ _ U)) Tryz.underlying108 ty109 (fun _ => ⟨by omega, (by exact hi0)⟩))) ?_
         refine DrawC.step U U U (Loc.of U fun σ' hs => (by exact R_load_pr U (.no U) (hd_sup hs U) (.tm (hs.slots _ _ U)) (hs.res _ _ U) (by exact hi0) ty109 U U)) ?_
         refine DrawC.step U U U (Loc.of U fun σ' hs => R_move U (.no U) (hd_sup hs U) (.tm (hs.slots _ _ U))) ?_
         refine DrawC.step U U U (Loc.of U fun σ' hs => R_move U (.no U) (hd_sup hs U) (.tm (hs.slots _ _ U))) ?_
         refine DrawC.step U U U (Loc.of U fun σ' hs => R_sub U (.no U) (hd_sup hs U) (.tm (hs.slots _ _ U)) (.const U) (fun _ => by omega)) ?_
         refine DrawC.step U U U (Loc.of U fun σ' hs => (by exact R_indexAddr_rf U (.no U) (hd_sup hs U) (.tm (hs.slots _ _ U)) (hs.res _ _ U) (.tm (hs.slots _ _ U)) Tryz.underlying108 ty109 (fun _ => ⟨by omega, (by exact hi1)⟩))) ?_
         refine DrawC.step U U U (Loc.of U fun σ' hs => (by exact R_load_pr U (.no U) (hd_sup hs U) (.tm (hs.slots _ _ U)) (hs.res _ _ U) (by exact hi1) ty109 U U)) ?_
         refine DrawC.step U U U (Loc.ofs U fun σ' hs hf => R_call 8400 (specl9Joined (w.length + 1) (wordR w y) (wordR w z) (up_word w y) (up_word w z) (by omega)) U U (hd_sup hs U) (.cons (.tm (hs.slots _ _ U)) (readA_sup hs U) (.cons (.tm (hs.slots _ _ U)) (readA_sup hs U) .nil)) U (all_fresh hf)) ?_
         refine DrawC.step U U U (Loc.of U fun σ' hs => R_assign U (.no U) (hd_sup hs U) (.tm (hs.slots _ _ U))) ?_
         refine DrawC.fin U U ?_
         refine AWl.nil ?_
         refine AW.le (σ' := ⟨_, [(0, _), (1, _), (4, _), (5, _), (6, _), (7, _), (8, _), (9, _), (12, _), (31, _)], [(17, _), (9, _), (8400, _)]⟩) (Le.sub0 U ⟨U, U, U, U, U, U, U, U, U, U, trivial⟩ ⟨U, U, U, trivial⟩) ?_
         refine AW.region ?_
         refine AWl.mv U U U U U ?_
         refine AWl.mv U U U U U ?_
         refine AWl.put (R_sub U (.no U) U (.tm U) (.const U) (fun _ => by omega)) U ?_
         refine AWl.chgput (R_cut (m := ts0.length) U U U (.tm U) U (.yes (.tm U) (fun _ => by first | rfl | omega | (simp <;> omega))) Tryz.underlying108 ty109 (by simp)) U ?_
         refine AWl.le (σ' := ⟨_, [(0, _), (1, _), (4, _), (5, _), (6, _), (7, _), (8, _), (9, _), (12, _), (31, _), (88, _)], [(17, _), (9, _), (8400, _)]⟩) (Le.sub0 U ⟨U, U, U, U, U, U, U, U, U, U, U, trivial⟩ ⟨U, U, U, trivial⟩) ?_
         refine AWl.mv U U U U U ?_
         refine AWl.absadd (R_list (xs := [.tmp 89]) 90 U U U (.cons (.tm U) U U .nil) Tryz.underlying108 in109 U U U U) U ?_
         refine AWl.abschgput (R_append_own U U U (.tm U) U (.tm U) U U Tryz.underlying108 in109 U (by (simp [chunk]; omega)) (by (unfold maxLen; simp [chunk]; omega))) U ?_
         refine AWl.le (σ' := ⟨_, [(0, _), (1, _), (4, _), (5, _), (6, _), (7, _), (8, _), (9, _), (12, _), (31, _), (91, _)], [(17, _), (9, _)]⟩) (Le.sub0 U ⟨U, U, U, U, U, U, U, U, U, U, U, trivial⟩ ⟨U, U, trivial⟩) ?_
         refine AWl.av U U U U U ?_
         refine AWl.nil (AW.region ?_)
         refine AWl.mv U U U U U ?_
         refine AWl.put (R_add U (.no U) U (.tm U) (.const U) (fun _ => by omega)) U ?_
         refine AWl.av U U U U U ?_
         refine AWl.nil ?_
         repeat (with_reducible refine BlockQ.nor ?_)
         refine Round2.next (i + 1) (ts1) ⟨⟨by omega, by first | (rw [hs0]; simp; omega) | (rw [hs1]; simp at hk ⊢; omega) | (rw [hs2]; simp at hk ⊢; omega)⟩, hrun⟩ (by omega) (Le.sub0 rfl ⟨rfl, rfl, rfl, rfl, rfl, rfl, trivial⟩ ⟨(by refine congrArg (fun r => some (R.row 1 r)) ?_; first | rfl | (rw [hs0, List.map_append, show [Tr.leaf t].map (cG w) = [cG w (.leaf t)] from rfl, cG_leaf2 h37]; simp [chunk]; done) | (rw [hs0, List.map_append, show [Tr.leaf t].map (cG w) = [cG w (.leaf t)] from rfl, cG_leaf3 h44, lTo_end hkn]; simp [chunk]; done) | (rw [hs0, List.map_append, show [Tr.leaf t].map (cG w) = [cG w (.leaf t)] from rfl, cG_leaf h37 h44]; simp [chunk]; done) | (rw [hs2, cut_front, List.map_append, show [Tr.bin t y z].map (cG w) = [cG w (.bin t y z)] from rfl, cG_bin4 h72]; rfl) | (rw [hs2, cut_front, List.map_append, show [Tr.bin t y z].map (cG w) = [cG w (.bin t y z)] from rfl, cG_bin h72]; rfl) | (rw [hs1, hI]; refine (snoc_set _ _ _ _).trans ?_; rw [List.map_append, show [Tr.un t y].map (cG w) = [cG w (.un t y)] from rfl, cG_un6 h112]; rfl) | (rw [hs1, hI]; refine (snoc_set _ _ _ _).trans ?_; rw [List.map_append, show [Tr.un t y].map (cG w) = [cG w (.un t y)] from rfl, cG_un h112]; rfl)), trivial⟩)
       · skip
         try simp at h72
         refine AW.sr ?_
         refine AWl.put (R_eq U (.no U) U (.tm U) (.const U)) U ?_
         refine AWl.av U U U U U ?_
         refine AWl.nil ?_
         refine AW.cond (.tm U) (fun h92 => ?_) (fun h92 => ?_)
         · skip
           try simp at h92
           obtain ⟨ts0, y, z, rfl, hs2⟩ := step2 hst (by unfold nk; rw [if_pos (by omega)])
           have hln : (ts0 ++ [y, z]).length = ts0.length + 2 := by simp
           have hi0 : ((ts0 ++ [y, z]).map (cG w))[((((ts0 ++ [y, z]).length : Nat) : Int) - 2).toNat]? = some (cG w y) := (by rw [show ((((ts0 ++ [y, z]).length : Nat) : Int) - 2).toNat = ts0.length by omega]; simp)
           have hi1 : ((ts0 ++ [y, z]).map (cG w))[((((ts0 ++ [y, z]).length : Nat) : Int) - 1).toNat]? = some (cG w z) := (by rw [show ((((ts0 ++ [y, z]).length : Nat) : Int) - 1).toNat = ts0.length + 1 by omega]; simp)
           refine AW.seq ?_
           refine AW.le (σ' := ⟨_, [(0, _), (1, _), (4, _), (5, _), (6, _), (7, _), (8, _), (9, _), (31, _)], [(17, _), (9, _)]⟩) (Le.sub0 U ⟨U, U, U, U, U, U, U, U, U, trivial⟩ ⟨U, U, trivial⟩) ?_
           refine AW.drawn 12 (nthB [[], [], [1], [0, 1, 2], [0, 1, 2, 3], [], [], [6], [5, 6, 7], [5, 6, 7, 8], [0, 1, 2, 3, 4, 5, 6, 7, 8, 9], [0, 1, 2, 3, 4, 5, 6, 7, 8, 9, 10]]) (by kernel_rfl) (by kernel_rfl) (by kernel_rfl) ?_
           refine DrawC.step U U U (Loc.of U fun σ' hs => R_move U (.no U) (hd_sup hs U) (.tm (hs.slots _ _ U))) ?_
           refine DrawC.step U U U (Loc.of U fun σ' hs => R_move U (.no U) (hd_sup hs U) (.tm (hs.slots _ _ U))) ?_
           refine DrawC.step U U U (Loc.of U fun σ' hs => R_sub U (.no U) (hd_sup hs U) (.tm (hs.slots _ _ U)) (.const U) (fun _ => by omega)) ?_
           refine DrawC.step U U U (Loc.of U fun σ' hs => (by exact R_indexAddr_rf U (.no U) (hd_sup hs U) (.tm (hs.slots _ _ U)) (hs.res _ _ U) (.tm (hs.slots _ _ U)) Tryz.underlying108 ty109 (fun _ => ⟨by omega, (by exact hi0)⟩))) ?_
           refine DrawC.step U U U (Loc.of U fun σ' hs => (by exact R_load_pr U (.no U) (hd_sup hs U) (.tm (hs.slots _ _ U)) (hs.res _ _ U) (by exact hi0) ty109 U U)) ?_
           refine DrawC.step U U U (Loc.of U fun σ' hs => R_move U (.no U) (hd_sup hs U) (.tm (hs.slots _ _ U))) ?_
           refine DrawC.step U U U (Loc.of U fun σ' hs => R_move U (.no U) (hd_sup hs U) (.tm (hs.slots _ _ U))) ?_
           refine DrawC.step U U U (Loc.of U fun σ' hs => R_sub U (.no U) (hd_sup hs U) (.tm (hs.slots _ _ U)) (.const U) (fun _ => by omega)) ?_
           refine DrawC.step U U U (Loc.of U fun σ' hs => (by exact R_indexAddr_rf U (.no U) (hd_sup hs U) (.tm (hs.slots _ _ U)) (hs.res _ _ U) (.tm (hs.slots _ _ U)) Tryz.underlying108 ty109 (fun _ => ⟨by omega, (by exact hi1)⟩))) ?_
           refine DrawC.step U U U (Loc.of U fun σ' hs => (by exact R_load_pr U (.no U) (hd_sup hs U) (.tm (hs.slots _ _ U)) (hs.res _ _ U) (by exact hi1) ty109 U U)) ?_
           refine DrawC.step U U U (Loc.ofs U fun σ' hs hf => R_call 10400 (specl9Either (w.length + 1) (wordR w y) (wordR w z) (up_word w y) (up_word w z) (by omega)) U U (hd_sup hs U) (.cons (.tm (hs.slots _ _ U)) (readA_sup hs U) (.cons (.tm (hs.slots _ _ U)) (readA_sup hs U) .nil)) U (all_fresh hf)) ?_
           refine DrawC.step U U U (Loc.of U fun σ' hs => R_assign U (.no U) (hd_sup hs U) (.tm (hs.slots _ _ U))) ?_
           refine DrawC.fin U U ?_
           refine AWl.nil ?_
           refine AW.le (σ' := ⟨_, [(0, _), (1, _), (4, _), (5, _), (6, _), (7, _), (8, _), (9, _), (13, _), (31, _)], [(17, _), (9, _), (10400, _)]⟩) (Le.sub0 U ⟨U, U, U, U, U, U, U, U, U, U, trivial⟩ ⟨U, U, U, trivial⟩) ?_
           refine AW.region ?_
           refine AWl.mv U U U U U ?_
           refine AWl.mv U U U U U ?_
           refine AWl.put (R_sub U (.no U) U (.tm U) (.const U) (fun _ => by omega)) U ?_
           refine AWl.chgput (R_cut (m := ts0.length) U U U (.tm U) U (.yes (.tm U) (fun _ => by first | rfl | omega | (simp <;> omega))) Tryz.underlying108 ty109 (by simp)) U ?_
           refine AWl.le (σ' := ⟨_, [(0, _), (1, _), (4, _), (5, _), (6, _), (7, _), (8, _), (9, _), (13, _), (31, _), (108, _)], [(17, _), (9, _), (10400, _)]⟩) (Le.sub0 U ⟨U, U, U, U, U, U, U, U, U, U, U, trivial⟩ ⟨U, U, U, trivial⟩) ?_
           refine AWl.mv U U U U U ?_
           refine AWl.absadd (R_list (xs := [.tmp 109]) 110 U U U (.cons (.tm U) U U .nil) Tryz.underlying108 in109 U U U U) U ?_
           refine AWl.abschgput (R_append_own U U U (.tm U) U (.tm U) U U Tryz.underlying108 in109 U (by (simp [chunk]; omega)) (by (unfold maxLen; simp [chunk]; omega))) U ?_
           refine AWl.le (σ' := ⟨_, [(0, _), (1, _), (4, _), (5, _), (6, _), (7, _), (8, _), (9, _), (13, _), (31, _), (111, _)], [(17, _), (9, _)]⟩) (Le.sub0 U ⟨U, U, U, U, U, U, U, U, U, U, U, trivial⟩ ⟨U, U, trivial⟩) ?_
           refine AWl.av U U U U U ?_
           refine AWl.nil (AW.region ?_)
           refine AWl.mv U U U U U ?_
           refine AWl.put (R_add U (.no U) U (.tm U) (.const U) (fun _ => by omega)) U ?_
           refine AWl.av U U U U U ?_
           refine AWl.nil ?_
           repeat (with_reducible refine BlockQ.nor ?_)
           refine Round2.next (i + 1) (ts1) ⟨⟨by omega, by first | (rw [hs0]; simp; omega) | (rw [hs1]; simp at hk ⊢; omega) | (rw [hs2]; simp at hk ⊢; omega)⟩, hrun⟩ (by omega) (Le.sub0 rfl ⟨rfl, rfl, rfl, rfl, rfl, rfl, trivial⟩ ⟨(by refine congrArg (fun r => some (R.row 1 r)) ?_; first | rfl | (rw [hs0, List.map_append, show [Tr.leaf t].map (cG w) = [cG w (.leaf t)] from rfl, cG_leaf2 h37]; simp [chunk]; done) | (rw [hs0, List.map_append, show [Tr.leaf t].map (cG w) = [cG w (.leaf t)] from rfl, cG_leaf3 h44, lTo_end hkn]; simp [chunk]; done) | (rw [hs0, List.map_append, show [Tr.leaf t].map (cG w) = [cG w (.leaf t)] from rfl, cG_leaf h37 h44]; simp [chunk]; done) | (rw [hs2, cut_front, List.map_append, show [Tr.bin t y z].map (cG w) = [cG w (.bin t y z)] from rfl, cG_bin4 h72]; rfl) | (rw [hs2, cut_front, List.map_append, show [Tr.bin t y z].map (cG w) = [cG w (.bin t y z)] from rfl, cG_bin h72]; rfl) | (rw [hs1, hI]; refine (snoc_set _ _ _ _).trans ?_; rw [List.map_append, show [Tr.un t y].map (cG w) = [cG w (.un t y)] from rfl, cG_un6 h112]; rfl) | (rw [hs1, hI]; refine (snoc_set _ _ _ _).trans ?_; rw [List.map_append, show [Tr.un t y].map (cG w) = [cG w (.un t y)] from rfl, cG_un h112]; rfl)), trivial⟩)
         · skip
           try simp at h92
           refine AW.seq ?_
           refine AW.le (σ' := ⟨_, [(0, _), (1, _), (4, _), (5, _), (6, _), (7, _), (8, _), (9, _), (31, _)], [(17, _), (9, _)]⟩) (Le.sub0 U ⟨U, U, U, U, U, U, U, U, U, trivial⟩ ⟨U, U, trivial⟩) ?_
           refine AW.region ?_
           refine AWl.put (R_eq U (.no U) U (.tm U) (.const U)) U ?_
           refine AWl.av U U U U U ?_
           refine AWl.nil ?_
           refine AW.cond (.tm U) (fun h112 => ?_) (fun h112 => ?_)
           · skip
             try simp at h112
             obtain ⟨ts0, y, rfl, hs1⟩ := step1 hst (by unfold nk; rw [if_neg (by omega), if_pos (by omega)])
             have hln : (ts0 ++ [y]).length = ts0.length + 1 := by simp
             have hI : ((((ts0 ++ [y]).length : Nat) : Int) - 1).toNat = ts0.length := by omega
             have hi0 : ((ts0 ++ [y]).map (cG w))[((((ts0 ++ [y]).length : Nat) : Int) - 1).toNat]? = some (cG w y) := (by rw [hI]; exact snoc_get _ _)
             refine AW.takeR (id := 17) (i := ((((ts0 ++ [y]).length : Nat) : Int) - 1).toNat) (p := 0) 731 732 U hi0 U (fun _ => rfl) (fun _ => rfl) fun c731 => ?_
             refine AW.region ?_
             refine AWl.mv U U U U U ?_
             refine AWl.mv U U U U U ?_
             refine AWl.put (R_sub U (.no U) U (.tm U) (.const U) (fun _ => by omega)) U ?_
             refine AWl.mv U U U U U ?_
             refine AWl.mv U U U U U ?_
             refine AWl.put (R_sub U (.no U) U (.tm U) (.const U) (fun _ => by omega)) U ?_
             refine AWl.put (by exact R_indexAddr_rf U (.no U) U (.tm U) U (.tm U) Tryz.underlying108 ty109 (fun _ => ⟨by omega, set_self (by simp <;> omega)⟩)) U ?_
             refine AWl.put (R_load_hdr (nid := 731) (hid := 732) U (.no U) U (.tm U) U (set_self (by simp <;> omega)) ty109 U U U U U U) U ?_
             refine AWl.mv U U U U U ?_
             refine AWl.put (by exact R_lenm U (.no U) U (.tm U) (by exact .t) Tryz.underlying24) U ?_
             refine AWl.adds (R_call 12400 (specl9Repeated (w.length + 1) (wordR w y) (up_word w y) 0 (w.length : Nat) (by omega) (by omega)) U U U (.cons (.tm U) U (.cons (.const U) U (.cons (.tm U) U .nil))) U U) U ?_
             refine AWl.put (by exact R_indexAddr_rf U (.no U) U (.tm U) U (.tm U) Tryz.underlying108 ty109 (fun _ => ⟨by omega, set_self (by simp <;> omega)⟩)) U ?_
             refine AWl.absupd (R_store_pr U U U (.tm U) U (.tm U) U (set_self (by simp <;> omega)) ty109 U U U U) ?_
             refine AWl.nil ?_
             refine AW.le (σ' := ⟨_, [(0, _), (1, _), (4, _), (5, _), (6, _), (7, _), (8, _), (9, _), (31, _)], [(17, _), (9, _), (731, _), (732, _)]⟩) (Le.sub0 U ⟨U, U, U, U, U, U, U, U, U, trivial⟩ ⟨U, U, U, U, trivial⟩) ?_
             refine AW.region ?_
             refine AWl.mv U U U U U ?_
             refine AWl.put (R_add U (.no U) U (.tm U) (.const U) (fun _ => by omega)) U ?_
             refine AWl.av U U U U U ?_
             refine AWl.nil ?_
             repeat (with_reducible refine BlockQ.nor ?_)
             refine Round2.next (i + 1) (ts1) ⟨⟨by omega, by first | (rw [hs0]; simp; omega) | (rw [hs1]; simp at hk ⊢; omega) | (rw [hs2]; simp at hk ⊢; omega)⟩, hrun⟩ (by omega) (Le.sub0 rfl ⟨rfl, rfl, rfl, rfl, rfl, rfl, trivial⟩ ⟨(by refine congrArg (fun r => some (R.row 1 r)) ?_; first | rfl | (rw [hs0, List.map_append, show [Tr.leaf t].map (cG w) = [cG w (.leaf t)] from rfl, cG_leaf2 h37]; simp [chunk]; done) | (rw [hs0, List.map_append, show [Tr.leaf t].map (cG w) = [cG w (.leaf t)] from rfl, cG_leaf3 h44, lTo_end hkn]; simp [chunk]; done) | (rw [hs0, List.map_append, show [Tr.leaf t].map (cG w) = [cG w (.leaf t)] from rfl, cG_leaf h37 h44]; simp [chunk]; done) | (rw [hs2, cut_front, List.map_append, show [Tr.bin t y z].map (cG w) = [cG w (.bin t y z)] from rfl, cG_bin4 h72]; rfl) | (rw [hs2, cut_front, List.map_append, show [Tr.bin t y z].map (cG w) = [cG w (.bin t y z)] from rfl, cG_bin h72]; rfl) | (rw [hs1, hI]; refine (snoc_set _ _ _ _).trans ?_; rw [List.map_append, show [Tr.un t y].map (cG w) = [cG w (.un t y)] from rfl, cG_un6 h112]; rfl) | (rw [hs1, hI]; refine (snoc_set _ _ _ _).trans ?_; rw [List.map_append, show [Tr.un t y].map (cG w) = [cG w (.un t y)] from rfl, cG_un h112]; rfl)), trivial⟩)
           · skip
             try simp at h112
             refine AW.sr ?_
             refine AWl.put (R_eq U (.no U) U (.tm U) (.const U)) U ?_
             refine AWl.av U U U U U ?_
             refine AWl.nil ?_
             refine AW.cond (.tm U) (fun h126 => ?_) (fun h126 => ?_)
             · skip
               try simp at h126
               obtain ⟨ts0, y, rfl, hs1⟩ := step1 hst (by unfold nk; rw [if_neg (by omega), if_pos (by omega)])
               have hln : (ts0 ++ [y]).length = ts0.length + 1 := by simp
               have hI : ((((ts0 ++ [y]).length : Nat) : Int) - 1).toNat = ts0.length := by omega
               have hi0 : ((ts0 ++ [y]).map (cG w))[((((ts0 ++ [y]).length : Nat) : Int) - 1).toNat]? = some (cG w y) := (by rw [hI]; exact snoc_get _ _)
               have hhi := tok_high hto.1 h126
               refine AW.takeR (id := 17) (i := ((((ts0 ++ [y]).length : Nat) : Int) - 1).toNat) (p := 0) 731 732 U hi0 U (fun _ => rfl) (fun _ => rfl) fun c731 => ?_
               refine AW.drawn 14 (nthB [[], [], [1], [], [], [4], [3, 4, 5], [3, 4, 5, 6], [], [8], [], [10], [3, 4, 5, 6, 7, 8, 9, 10, 11], [0, 1, 2, 3, 4, 5, 6, 7, 8, 9, 10, 11, 12]]) (by kernel_rfl) (by kernel_rfl) (by kernel_rfl) ?_
               refine DrawC.step U U U (Loc.of U fun σ' hs => R_move U (.no U) (hd_sup hs U) (.tm (hs.slots _ _ U))) ?_
               refine DrawC.step U U U (Loc.of U fun σ' hs => R_move U (.no U) (hd_sup hs U) (.tm (hs.slots _ _ U))) ?_
               refine DrawC.step U U U (Loc.of U fun σ' hs => R_sub U (.no U) (hd_sup hs U) (.tm (hs.slots _ _ U)) (.const U) (fun _ => by omega)) ?_
               refine DrawC.step U U U (Loc.of U fun σ' hs => R_move U (.no U) (hd_sup hs U) (.tm (hs.slots _ _ U))) ?_
               refine DrawC.step U U U (Loc.of U fun σ' hs => R_move U (.no U) (hd_sup hs U) (.tm (hs.slots _ _ U))) ?_
               refine DrawC.step U U U (Loc.of U fun σ' hs => R_sub U (.no U) (hd_sup hs U) (.tm (hs.slots _ _ U)) (.const U) (fun _ => by omega)) ?_
               refine DrawC.step U U U (Loc.of U fun σ' hs => (by exact R_indexAddr_rf U (.no U) (hd_sup hs U) (.tm (hs.slots _ _ U)) (hs.res _ _ U) (.tm (hs.slots _ _ U)) Tryz.underlying108 ty109 (fun _ => ⟨by omega, set_self (by simp <;> omega)⟩))) ?_
               refine DrawC.step U U U (Loc.of U fun σ' hs => R_load_hdr (nid := 731) (hid := 732) U (.no U) (hd_sup hs U) (.tm (hs.slots _ _ U)) (hs.res _ _ U) (set_self (by simp <;> omega)) ty109 U U U U (hs.res _ _ U) (hs.res _ _ U)) ?_
               refine DrawC.step U U U (Loc.of U fun σ' hs => (by exact R_fieldAddr_pp U (.no U) (hd_sup hs U) (.tm (hs.slots _ _ U)) fl100_2)) ?_
               refine DrawC.step U U U (Loc.of U fun σ' hs => (by exact R_load_pp U (.no U) (hd_sup hs U) (.tm (hs.slots _ _ U)) (hs.res _ _ U) ty3 U U)) ?_
               refine DrawC.step U U U (Loc.of U fun σ' hs => (by exact R_fieldAddr_pp U (.no U) (hd_sup hs U) (.tm (hs.slots _ _ U)) fl100_3)) ?_
               refine DrawC.step U U U (Loc.of U fun σ' hs => (by exact R_load_pp U (.no U) (hd_sup hs U) (.tm (hs.slots _ _ U)) (hs.res _ _ U) ty3 U U)) ?_
               refine DrawC.step U U U (Loc.ofs U fun σ' hs hf => R_call 14000 (specl9Repeated (w.length + 1) (wordR w y) (up_word w y) t.Low t.High (by omega) (by omega)) U U (hd_sup hs U) (.cons (.tm (hs.slots _ _ U)) (readA_sup hs U) (.cons (.tm (hs.slots _ _ U)) (readA_sup hs U) (.cons (.tm (hs.slots _ _ U)) (readA_sup hs U) .nil))) U (all_fresh hf)) ?_
               refine DrawC.step U U U (Loc.of U fun σ' hs => (by exact R_indexAddr_rf U (.no U) (hd_sup hs U) (.tm (hs.slots _ _ U)) (hs.res _ _ U) (.tm (hs.slots _ _ U)) Tryz.underlying108 ty109 (fun _ => ⟨by omega, set_self (by simp <;> omega)⟩))) ?_
               refine DrawC.fin U U ?_
               refine AWl.absupd (R_store_pr U U U (.tm U) U (.tm U) U (set_self (by simp <;> omega)) ty109 U U U U) ?_
               refine AWl.nil ?_
               refine AW.le (σ' := ⟨_, [(0, _), (1, _), (4, _), (5, _), (6, _), (7, _), (8, _), (9, _), (31, _)], [(17, _), (9, _), (731, _), (732, _)]⟩) (Le.sub0 U ⟨U, U, U, U, U, U, U, U, U, trivial⟩ ⟨U, U, U, U, trivial⟩) ?_
               refine AW.region ?_
               refine AWl.mv U U U U U ?_
               refine AWl.put (R_add U (.no U) U (.tm U) (.const U) (fun _ => by omega)) U ?_
               refine AWl.av U U U U U ?_
               refine AWl.nil ?_
               repeat (with_reducible refine BlockQ.nor ?_)
               refine Round2.next (i + 1) (ts1) ⟨⟨by omega, by first | (rw [hs0]; simp; omega) | (rw [hs1]; simp at hk ⊢; omega) | (rw [hs2]; simp at hk ⊢; omega)⟩, hrun⟩ (by omega) (Le.sub0 rfl ⟨rfl, rfl, rfl, rfl, rfl, rfl, trivial⟩ ⟨(by refine congrArg (fun r => some (R.row 1 r)) ?_; first | rfl | (rw [hs0, List.map_append, show [Tr.leaf t].map (cG w) = [cG w (.leaf t)] from rfl, cG_leaf2 h37]; simp [chunk]; done) | (rw [hs0, List.map_append, show [Tr.leaf t].map (cG w) = [cG w (.leaf t)] from rfl, cG_leaf3 h44, lTo_end hkn]; simp [chunk]; done) | (rw [hs0, List.map_append, show [Tr.leaf t].map (cG w) = [cG w (.leaf t)] from rfl, cG_leaf h37 h44]; simp [chunk]; done) | (rw [hs2, cut_front, List.map_append, show [Tr.bin t y z].map (cG w) = [cG w (.bin t y z)] from rfl, cG_bin4 h72]; rfl) | (rw [hs2, cut_front, List.map_append, show [Tr.bin t y z].map (cG w) = [cG w (.bin t y z)] from rfl, cG_bin h72]; rfl) | (rw [hs1, hI]; refine (snoc_set _ _ _ _).trans ?_; rw [List.map_append, show [Tr.un t y].map (cG w) = [cG w (.un t y)] from rfl, cG_un6 h112]; rfl) | (rw [hs1, hI]; refine (snoc_set _ _ _ _).trans ?_; rw [List.map_append, show [Tr.un t y].map (cG w) = [cG w (.un t y)] from rfl, cG_un h112]; rfl)), trivial⟩)
             · skip
               try simp at h126
               have hs0 := step0 hst (by unfold nk; rw [if_neg (by omega), if_neg (by omega)])
               refine AW.region ?_
               refine AWl.mv U U U U U ?_
               refine AWl.mv U U U U U ?_
               refine AWl.adds (R_call 3400 (specl9Grid _ (w.length + 1) false _ (by simp) diag_no (by omega)) U U U (.cons (.tm U) U (.cons (.const U) U .nil)) U U) U ?_
               refine AWl.absadd (R_list (xs := [.tmp 34]) 35 U U U (.cons (.tm U) U U .nil) Tryz.underlying108 in109 U U U U) U ?_
               refine AWl.abschgput (R_append_own U U U (.tm U) U (.tm U) U U Tryz.underlying108 in109 U (by (simp [chunk]; omega)) (by (unfold maxLen; simp [chunk]; omega))) U ?_
               refine AWl.le (σ' := ⟨_, [(0, _), (1, _), (4, _), (5, _), (6, _), (7, _), (8, _), (9, _), (31, _), (36, _), (112, _), (126, _)], [(17, _), (9, _)]⟩) (Le.sub0 U ⟨U, U, U, U, U, U, U, U, U, U, U, U, trivial⟩ ⟨U, U, trivial⟩) ?_
               refine AWl.av U U U U U ?_
               refine AWl.nil (AW.region ?_)
               refine AWl.mv U U U U U ?_
               refine AWl.put (R_add U (.no U) U (.tm U) (.const U) (fun _ => by omega)) U ?_
               refine AWl.av U U U U U ?_
               refine AWl.nil ?_
               repeat (with_reducible refine BlockQ.nor ?_)
               refine Round2.next (i + 1) (ts1) ⟨⟨by omega, by first | (rw [hs0]; simp; omega) | (rw [hs1]; simp at hk ⊢; omega) | (rw [hs2]; simp at hk ⊢; omega)⟩, hrun⟩ (by omega) (Le.sub0 rfl ⟨rfl, rfl, rfl, rfl, rfl, rfl, trivial⟩ ⟨(by refine congrArg (fun r => some (R.row 1 r)) ?_; first | rfl | (rw [hs0, List.map_append, show [Tr.leaf t].map (cG w) = [cG w (.leaf t)] from rfl, cG_leaf2 h37]; simp [chunk]; done) | (rw [hs0, List.map_append, show [Tr.leaf t].map (cG w) = [cG w (.leaf t)] from rfl, cG_leaf3 h44, lTo_end hkn]; simp [chunk]; done) | (rw [hs0, List.map_append, show [Tr.leaf t].map (cG w) = [cG w (.leaf t)] from rfl, cG_leaf h37 h44]; simp [chunk]; done) | (rw [hs2, cut_front, List.map_append, show [Tr.bin t y z].map (cG w) = [cG w (.bin t y z)] from rfl, cG_bin4 h72]; rfl) | (rw [hs2, cut_front, List.map_append, show [Tr.bin t y z].map (cG w) = [cG w (.bin t y z)] from rfl, cG_bin h72]; rfl) | (rw [hs1, hI]; refine (snoc_set _ _ _ _).trans ?_; rw [List.map_append, show [Tr.un t y].map (cG w) = [cG w (.un t y)] from rfl, cG_un6 h112]; rfl) | (rw [hs1, hI]; refine (snoc_set _ _ _ _).trans ?_; rw [List.map_append, show [Tr.un t y].map (cG w) = [cG w (.un t y)] from rfl, cG_un h112]; rfl)), trivial⟩)
 · skip
   try simp at h21
   have hdone : ts = [x] := (by rw [List.drop_eq_nil_of_le (by omega), runTr] at he; simpa using he)
   subst hdone
   refine AW.exit ?_
   refine AW.sr ?_
   refine AWl.mv U U U U U ?_
   refine AWl.put (by exact R_indexAddr_rf U (.no U) U (.tm U) U (.const U) Tryz.underlying108 ty109 (fun _ => ⟨by omega, U⟩)) U ?_
   refine AWl.put (by exact R_load_pr U (.no U) U (.tm U) U U ty109 U U) U ?_
   refine AWl.put ((by exact R_indexAddr_vw U (.no U) U (.tm U) (.const U) Tryz.underlying109 ty71 (fun _ => ⟨by omega, map_get (gridF_row (i := 0) (by omega))⟩))) U ?_
   refine AWl.put (by exact R_load_vw U (.no U) U (.tm U) ty71 U U) U ?_
   refine AWl.mv U U U U U ?_
   refine AWl.put (by exact R_lenm U (.no U) U (.tm U) (by exact .t) Tryz.underlying24) U ?_
   refine AWl.put ((by exact R_indexAddr_vw U (.no U) U (.tm U) (.tm U) Tryz.underlying71 ty4 (fun _ => ⟨by omega, map_get (row_at (j := w.length) (by omega))⟩))) U ?_
   refine AWl.put (by exact R_load_vw U (.no U) U (.tm U) ty4 U U) U ?_
   refine AWl.av U U U U U ?_
   refine AWl.nil (AW.ret ?_)
   refine Res.one U (.tmp U .nil) U ?_
   rfl
end Go.Proofs.YtbkhopfpejhnlaaGreat
