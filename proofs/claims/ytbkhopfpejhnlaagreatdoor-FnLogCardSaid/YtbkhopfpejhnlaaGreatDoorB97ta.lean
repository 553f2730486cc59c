import Derived.Test.YtbkhopfpejhnlaaGreatDoorB94ta
set_option linter.unusedVariables false
set_option linter.unusedSimpArgs false
set_option maxHeartbeats 1000000
set_option maxRecDepth 100000
namespace Go.Q
open Go.D
theorem nl_none {l : List UInt8} {i : Nat} (h : Lib.indexByte (l.drop i) 10 < 0) : nlAt l i = none := by
 have e := nlAt_index l i
 cases hn : nlAt l i with
 | none => rfl
 | some n => rw [hn] at e; simp only at e; omega
theorem nl_some {l : List UInt8} {i : Nat} (h : 0 ≤ Lib.indexByte (l.drop i) 10) : ∃ n : Nat, nlAt l i = some n ∧ Lib.indexByte (l.drop i) 10 = (n : Int) ∧ i + n < l.length := by
 have e := nlAt_index l i
 cases hn : nlAt l i with
 | none => rw [hn] at e; simp only at e; omega
 | some n =>
  rw [hn] at e
  exact ⟨n, rfl, e, (List.getElem?_eq_some_iff.1 (nlAt_some hn).1).1⟩
def lineS (l : List UInt8) (i n : Nat) : List UInt8 := (l.drop i).take (n + 1)
def lastI (vs : List Int) : Int := vs.getLast?.getD 0
theorem last_get {vs : List Int} (h : 0 < vs.length) : vs[((vs.length : Int) - 1).toNat]? = some (lastI vs) := by
 have e : ((vs.length : Int) - 1).toNat = vs.length - 1 := by omega
 rw [e]
 unfold lastI
 rw [List.getLast?_eq_getElem?, List.getElem?_eq_getElem (by omega)]; rfl
theorem last_le {vs : List Int} (h : ∀ v ∈ vs, 1 ≤ v ∧ v ≤ 999) : 0 ≤ lastI vs ∧ lastI vs ≤ 999 := by
 unfold lastI
 cases hl : vs.getLast? with
 | none => simp
 | some v =>
  have := h v (List.mem_of_getLast? hl)
  simp only [Option.getD_some]; omega
theorem scan_next {l : List UInt8} {vs : List Int} {bt : List TBatch} {i f n : Nat} (hn : nlAt l i = some n) (h1 : recG (lineS l i n) = true) (h2 : 0 < vs.length → recV (lineS l i n) = lastI vs + 1) (hf : l.length < i + f) :
 scanF f l vs bt i = scanF (f - 1) l (vs ++ [recV (lineS l i n)]) (bt ++ [recB (lineS l i n)]) (i + (n + 1)) := by
 have hl := (List.getElem?_eq_some_iff.1 (nlAt_some hn).1).1
 obtain ⟨f', rfl⟩ : ∃ f', f = f' + 1 := ⟨f - 1, by omega⟩
 rw [scan_more hn h1 (by
  rcases Nat.eq_zero_or_pos vs.length with h | h
  · exact .inl (List.eq_nil_of_length_eq_zero h)
  · exact .inr (h2 h))]
 rfl
theorem scan_end {l : List UInt8} {vs : List Int} {bt : List TBatch} {i f n : Nat} (hn : nlAt l i = some n) (h : recG (lineS l i n) = true → 0 < vs.length ∧ recV (lineS l i n) ≠ lastI vs + 1) : scanF f l vs bt i = (vs, bt, i) := by
 refine scan_stop hn ?_
 by_cases hg : recG (lineS l i n) = true
 · obtain ⟨h1, h2⟩ := h hg
   exact .inr ⟨fun e => by rw [e] at h1; simp at h1, h2⟩
 · exact .inl (Bool.eq_false_iff.2 hg)
theorem line_len (l : List UInt8) (i n : Nat) : (lineS l i n).length ≤ l.length := by unfold lineS; simp; omega
theorem line_ext (l : List UInt8) (i n : Nat) : (bs l).extract i (i + n + 1) = bs (lineS l i n) := by
 rw [bs_extract, List.drop_take]
 unfold lineS
 rw [show i + n + 1 - i = n + 1 by omega]
theorem line_rng {l : List UInt8} {i n : Nat} {vs : List Int} (h : ∀ v ∈ vs, 1 ≤ v ∧ v ≤ 999) (hg : recG (lineS l i n) = true) : ∀ v ∈ vs ++ [recV (lineS l i n)], 1 ≤ v ∧ v ≤ 999 := fun v hv => by
 rcases List.mem_append.1 hv with hv | hv
 · exact h v hv
 · rw [List.mem_singleton] at hv
   rw [hv]; exact (recG_get hg).2.1
theorem scanL_long {l : List UInt8} (h : 4000 < l.length) : scanL l = ([], [], 0) := by unfold scanL; rw [if_neg (by omega)]
end Go.Q
namespace Go.Proofs.YtbkhopfpejhnlaaGreatDoor
open Go.RowKit Go.Q Go.D
theorem implScanLogL (l : List UInt8) (hz : l.length ≤ 1073741824) : FnT Tryz.prog 31 [.one (.v (.string (bs l)))] (.tup [.one (.sl 1 ((scanL l).1.map cInt)), .one (.sl 1 ((scanL l).2.1.map cBatch)), .one (.v (.int .i64 ((scanL l).2.2 : Nat)))]) := by
 refine FnT.walk Tryz.func31 U (by kernel_rfl) Tryz.ntmps31 U fun hlen w0 => ?_
 try simp [cEdge, cGraph, cChange, cBatch, cHistory] at hlen
 have hsz := bs_size l
 refine AW.sr ?_
 refine AWl.ac ?_
 refine AWl.nilS (i := 2) 20001 1 U U ?_
 refine AWl.ac ?_
 refine AWl.nilS (i := 3) 20002 1 U U ?_
 refine AWl.ac ?_
 refine AWl.nil (AW.sr ?_)
 refine AWl.add (R_empty 12 U U U Tryz.underlying55 ty3 U) U ?_
 refine AWl.av ?_
 refine AWl.nil (AW.sr ?_)
 refine AWl.add (R_empty 13 U U U Tryz.underlying56 ty47 U) U ?_
 refine AWl.av ?_
 refine AWl.nil (AW.sr ?_)
 refine AWl.ac ?_
 refine AWl.nil (AW.seq ?_)
 refine AW.block ?_
 refine AW.loop4 (fun (i : Nat) (vs : List Int) (bt : List TBatch) (f : Nat) => (i ≤ l.length ∧ l.length < i + f ∧ vs.length ≤ i ∧ bt.length = vs.length ∧ (∀ v ∈ vs, 1 ≤ v ∧ v ≤ 999)) ∧ (l.length ≤ 4000 → scanL l = scanF f l vs bt i) ∧ (4000 < l.length → vs = [] ∧ bt = [] ∧ i = 0)) (fun (i : Nat) (vs : List Int) (bt : List TBatch) (f : Nat) => ⟨_, [(7, (true, .a (.one (.t (.v (.int .i64 (i : Nat))))))), (5, (true, .a (.one (.rf 12)))), (6, (true, .a (.one (.rf 13)))), (0, _), (2, _), (3, _), (4, _)], [(12, .row 1 (vs.map cInt)), (13, .row 1 (bt.map cBatch))]⟩) (fun (i : Nat) (vs : List Int) (bt : List TBatch) (f : Nat) => l.length - i) (0) ([]) ([]) (l.length + 1) ⟨⟨by omega, by omega, by simp, U, fun v hv => by cases hv⟩, (fun h => by unfold scanL; rw [if_pos h]), (fun _ => ⟨U, U, U⟩)⟩ (Le.sub0 U ⟨U, U, U, U, U, U, U, Y⟩ ⟨U, U, Y⟩) ?_
 rintro i vs bt f ⟨hk, he⟩
 refine AW.seq ?_
 refine AW.sr ?_
 refine AWl.mv ?_
 refine AWl.p (R_len_s U (.no U) U (.tm U) Tryz.underlying9) U ?_
 refine AWl.p (R_le U (.no U) U (.tm U) (.const U)) U ?_
 refine AWl.nil ?_
 refine AW.cond (.tm U) (fun h16 => ?_) (fun h16 => ?_)
 · skip
   try simp at h16
   have hix : FnT Tryz.prog 72 [.one (.v (.string ((bs l).extract i (bs l).size))), .one (.v (.int .u8 10))] (.a (.one (.v (.int .i64 (Lib.indexByte (l.drop i) 10))))) := by (have := stringsIndexByte (bs (l.drop i)) 10; rw [bs_list] at this; rw [bs_extract, bs_size, List.take_of_length_le (Nat.le_refl _)]; exact this)
   have hlast := last_le hk.2.2.2.2
   refine AW.skip ?_
   refine AW.block ?_
   refine AW.sr ?_
   refine AWl.mv ?_
   refine AWl.mv ?_
   refine AWl.p (R_strSlice (n := i) U (.no U) U (.tm U) (.yes (.tm U) (fun _ => by first | omega | (simp <;> omega))) .no Tryz.underlying9 (fun _ => ⟨by omega, by first | omega | (simp; omega)⟩)) U ?_
   refine AWl.p (R_callz (FnT.fr (hix)) U (.no U) U (.cons (.tm U) U (.cons (.const U) U .nil))) U ?_
   refine AWl.av ?_
   refine AWl.nil (AW.seq ?_)
   refine AW.seq ?_
   refine AW.le (σ' := ⟨_, [(0, _), (2, _), (3, _), (4, _), (5, _), (6, _), (7, _), (8, _)], [(12, _), (13, _)]⟩) (Le.sub0 U ⟨U, U, U, U, U, U, U, U, Y⟩ ⟨U, U, Y⟩) ?_
   refine AW.region ?_
   refine AWl.mv ?_
   refine AWl.p (R_lt U (.no U) U (.tm U) (.const U)) U ?_
   refine AWl.nil ?_
   refine AW.cond (.tm U) (fun h22 => ?_) (fun h22 => ?_)
   · skip
     try simp at h22
     refine AW.exit ?_
     refine AW.sr ?_
     refine AWl.mv ?_
     refine AWl.mv ?_
     refine AWl.mv ?_
     refine AWl.av ?_
     refine AWl.av ?_
     refine AWl.av ?_
     refine AWl.nil (AW.ret ?_)
     refine Res.many U (.tmp U (.tmp U (.tmp U .nil))) U ?_ (by simp)
     rw [he.1 (by omega), scan_none (nl_none h22)]; rfl
   · skip
     try simp at h22
     obtain ⟨n, hn, hX, hnl⟩ := nl_some (l := l) (i := i) (by omega)
     rw [hX]
     have hdr : FnT Tryz.prog 26 [.one (.v (.string ((bs l).extract i (i + n + 1))))] (.tup [.one (.v (.int .i64 (recV (lineS l i n)))), .agg (cBatch (recB (lineS l i n))), .one (.v (.bool (recG (lineS l i n))))]) := by (rw [line_ext]; exact implDecodeRecordL _ (Nat.le_trans (line_len l i n) hz))
     refine AW.skip ?_
     refine AW.sr ?_
     refine AWl.mv ?_
     refine AWl.mv ?_
     refine AWl.mv ?_
     refine AWl.mv ?_
     refine AWl.p (R_add U (.no U) U (.tm U) (.tm U) (fun _ => by omega)) U ?_
     refine AWl.p (R_add U (.no U) U (.tm U) (.const U) (fun _ => by omega)) U ?_
     refine AWl.p (R_strSlice (n := i) (m := i + n + 1) U (.no U) U (.tm U) (.yes (.tm U) (fun _ => by first | omega | (simp <;> omega))) (.yes (.tm U) (fun _ => by first | omega | (simp <;> omega))) Tryz.underlying9 (fun _ => ⟨by omega, by first | omega | (simp; omega)⟩)) U ?_
     refine AWl.adds (R_call 3100 (hdr) U U U (.cons (.tm U) U .nil) U U) U ?_
     refine AWl.p (R_movet U (.no U) U U fun _ => rfl) U ?_
     refine AWl.p (R_extract U (.no U) U U (fun _ => rfl) U) U ?_
     refine AWl.p (R_extract U (.no U) U U (fun _ => rfl) U) U ?_
     refine AWl.p (R_extract U (.no U) U U (fun _ => rfl) U) U ?_
     refine AWl.add (R_alloc 10 U U U in47 U U U) U ?_
     refine AWl.av ?_
     refine AWl.chgb (R_store_pb U U U (.tm U) (.tm U) U ty47 U U U (by kernel_rfl) U) ?_
     refine AWl.le (σ' := ⟨_, [(0, _), (2, _), (3, _), (4, _), (5, _), (6, _), (7, _), (8, _), (9, _), (10, _), (22, _), (34, _)], [(12, _), (13, _), (3100, _), (10, _)]⟩) (Le.sub0 U ⟨U, U, U, U, U, U, U, U, U, U, U, U, Y⟩ ⟨U, U, U, U, Y⟩) ?_
     refine AWl.av ?_
     refine AWl.nil (AW.seq ?_)
     refine AW.sr ?_
     refine AWl.mv ?_
     refine AWl.p (R_not U (.no U) U (.tm U)) U ?_
     refine AWl.mv ?_
     refine AWl.p (R_move U (by exact .not1 U U U U) U (.tmp U (by exact fun _ => rfl))) U ?_
     refine AWl.p (by exact R_lenm U (by exact .not1 U U U U) U (.tmp U (by exact id)) (by exact .rf U) Tryz.underlying55) U ?_
     refine AWl.p (R_gt U (by exact .not1 U U U U) U (.tmp U (by exact id)) (.const U)) U ?_
     refine AWl.p (R_move U (by exact .not1 U U U U) U (.tmp U (by exact id))) U ?_
     refine AWl.p (R_move U (by exact .yes U U U U) U (.tmp U (by exact fun _ => rfl))) U ?_
     refine AWl.p (R_move U (by exact .yes U U U U) U (.tmp U (by exact fun _ => rfl))) U ?_
     refine AWl.p (R_move U (by exact .yes U U U U) U (.tmp U (by exact fun _ => rfl))) U ?_
     refine AWl.p (by exact R_lenm U (by exact .yes U U U U) U (.tmp U (by exact id)) (by exact .rf U) Tryz.underlying55) U ?_
     refine AWl.p (R_sub U (by exact .yes U U U U) U (.tmp U (by exact id)) (.const U) (fun hq => by first | omega | (simp at hq; omega))) U ?_
     refine AWl.p ((by exact R_indexAddr_rf U (by exact .yes U U U U) U (.tmp U (by exact id)) U (.tmp U (by exact id)) Tryz.underlying55 ty3 (fun hq => ⟨by simp at hq; omega, map_get (last_get (by simp at hq; omega))⟩))) U ?_
     refine AWl.p ((by exact R_load_prq U (by exact .yes U U U U) U (.tmp U (by exact id)) U (fun hq => map_get (last_get (by simp at hq; omega))) ty3 U U)) U ?_
     refine AWl.p (R_add U (by exact .yes U U U U) U (.tmp U (by exact id)) (.const U) (fun hq => by first | omega | (simp at hq; omega))) U ?_
     refine AWl.p (R_ne U (by exact .yes U U U U) U (.tmp U (by exact id)) (.tmp U (by exact id))) U ?_
     refine AWl.p (R_and U (by exact .not1 U U U U) U (.tmp U (by exact id)) (.tmp U (by exact id))) U ?_
     refine AWl.p (R_or U (.no U) U (.tm U) (.tmp U (by exact id))) U ?_
     refine AWl.nil ?_
     refine AW.cond (.tm U) (fun h52 => ?_) (fun h52 => ?_)
     · skip
       try simp at h52
       refine AW.exit ?_
       refine AW.seq ?_
       refine AW.le (σ' := ⟨_, [(0, _), (2, _), (3, _), (4, _), (5, _), (6, _), (7, _), (8, _), (9, _), (10, _), (11, _)], [(12, _), (13, _), (3100, _), (10, _)]⟩) (Le.sub0 U ⟨U, U, U, U, U, U, U, U, U, U, U, Y⟩ ⟨U, U, U, U, Y⟩) ?_
       refine AW.region ?_
       refine AWl.mv ?_
       refine AWl.mv ?_
       refine AWl.mv ?_
       refine AWl.av ?_
       refine AWl.av ?_
       refine AWl.av ?_
       refine AWl.nil (AW.ret ?_)
       refine Res.many U (.tmp U (.tmp U (.tmp U .nil))) U ?_ (by simp)
       rw [he.1 (by omega), scan_end hn (fun hg => h52.elim (fun h => by rw [hg] at h; cases h) id)]; rfl
     · skip
       try simp at h52
       have hg : recG (lineS l i n) = true := h52.1
       have hv : 0 < vs.length → recV (lineS l i n) = lastI vs + 1 := h52.2
       refine AW.skip ?_
       refine AW.seq ?_
       refine AW.le (σ' := ⟨_, [(0, _), (2, _), (3, _), (4, _), (5, _), (6, _), (7, _), (8, _), (9, _), (10, _), (11, _)], [(12, _), (13, _), (3100, _), (10, _)]⟩) (Le.sub0 U ⟨U, U, U, U, U, U, U, U, U, U, U, Y⟩ ⟨U, U, U, U, Y⟩) ?_
       refine AW.region ?_
       refine AWl.mv ?_
       refine AWl.mv ?_
       refine AWl.absadd (R_list (xs := [.tmp 54]) 55 U U U (.cons (.tm U) U U .nil) Tryz.underlying55 in3 U U U U) U ?_
       refine AWl.abschgput (R_append_own U U U (.tm U) U (.tm U) U U Tryz.underlying55 in3 U (by (simp [chunk]; omega)) (by (unfold maxLen; simp [chunk]; omega))) U ?_
       refine AWl.le (σ' := ⟨_, [(0, _), (2, _), (3, _), (4, _), (5, _), (6, _), (7, _), (8, _), (9, _), (10, _), (11, _), (56, _)], [(12, _), (13, _), (3100, _), (10, _)]⟩) (Le.sub0 U ⟨U, U, U, U, U, U, U, U, U, U, U, U, Y⟩ ⟨U, U, U, U, Y⟩) ?_
       refine AWl.av ?_
       refine AWl.nil (AW.sr ?_)
       refine AWl.mv ?_
       refine AWl.p (by exact R_load_pp U (.no U) U (.tm U) U ty47 U U) U ?_
       refine AWl.absadd (R_list (xs := [.tmp 58]) 59 U U U (.cons (.tm U) U U .nil) Tryz.underlying56 in47 U U U U) U ?_
       refine AWl.abschgput (R_append_own U U U (.tm U) U (.tm U) U U Tryz.underlying56 in47 U (by (simp [chunk]; omega)) (by (unfold maxLen; simp [chunk]; omega))) U ?_
       refine AWl.le (σ' := ⟨_, [(0, _), (2, _), (3, _), (4, _), (5, _), (6, _), (7, _), (8, _), (9, _), (10, _), (11, _), (60, _)], [(12, _), (13, _), (10, _)]⟩) (Le.sub0 U ⟨U, U, U, U, U, U, U, U, U, U, U, U, Y⟩ ⟨U, U, U, Y⟩) ?_
       refine AWl.av ?_
       refine AWl.nil (AW.region ?_)
       refine AWl.mv ?_
       refine AWl.mv ?_
       refine AWl.p (R_add U (.no U) U (.tm U) (.const U) (fun _ => by omega)) U ?_
       refine AWl.p (R_add U (.no U) U (.tm U) (.tm U) (fun _ => by omega)) U ?_
       refine AWl.av ?_
       refine AWl.nil ?_
       repeat (with_reducible refine BlockQ.nor ?_)
       refine Round4.next (i + (n + 1)) (vs ++ [recV (lineS l i n)]) (bt ++ [recB (lineS l i n)]) (f - 1) ⟨⟨by omega, by omega, by simp; omega, by simp [hk.2.2.2.1], line_rng hk.2.2.2.2 hg⟩, (fun h => by rw [he.1 h]; exact scan_next hn hg hv hk.2.1), (fun h => by omega)⟩ (by omega) (Le.sub0 rfl ⟨rfl, rfl, rfl, rfl, rfl, rfl, rfl, Y⟩ ⟨(by (refine congrArg (fun r => some (R.row _ r)) ?_; simp [chunk, List.map_set, cInt, cBool, cIntS, cPair, cToken, cExpr, cEdge, cGraph, cStep, cWalk, cChange, cBatch, cHistory, cPositions, cAutomaton, cProductStep, cPathAtom, cConjunction, cView, cDelta, cRegistered, cRegistry])), (by (refine congrArg (fun r => some (R.row _ r)) ?_; simp [chunk, List.map_set, cInt, cBool, cIntS, cPair, cToken, cExpr, cEdge, cGraph, cStep, cWalk, cChange, cBatch, cHistory, cPositions, cAutomaton, cProductStep, cPathAtom, cConjunction, cView, cDelta, cRegistered, cRegistry])), Y⟩)
 · skip
   try simp at h16
   refine AW.exit ?_
   refine AW.sr ?_
   refine AWl.mv ?_
   refine AWl.mv ?_
   refine AWl.mv ?_
   refine AWl.av ?_
   refine AWl.av ?_
   refine AWl.av ?_
   refine AWl.nil (AW.ret ?_)
   refine Res.many U (.tmp U (.tmp U (.tmp U .nil))) U ?_ (by simp)
   obtain ⟨e1, e2, e3⟩ := he.2 (by omega); rw [scanL_long (by omega), e1, e2, e3]; rfl
theorem implScanLog (s : ByteArray) (hz : s.size ≤ 1048576) : FnT Tryz.prog 31 [.one (.v (.string s))] (.tup [.one (.sl 1 ((scanL s.data.toList).1.map cInt)), .one (.sl 1 ((scanL s.data.toList).2.1.map cBatch)), .one (.v (.int .i64 ((scanL s.data.toList).2.2 : Nat)))]) := by
 have := implScanLogL s.data.toList (by rw [← bs_size, bs_of]; omega)
 rw [bs_of] at this; exact this
theorem specScanLogL (l : List UInt8) (hz : l.length ≤ 1073741824) : FnT Tryz.prog 32 [.one (.v (.string (bs l)))] (.tup [.one (.sl 1 ((scanL l).1.map cInt)), .one (.sl 1 ((scanL l).2.1.map cBatch)), .one (.v (.int .i64 ((scanL l).2.2 : Nat)))]) := by
 refine FnT.walk Tryz.func32 U (by kernel_rfl) Tryz.ntmps32 U fun hlen w0 => ?_
 try simp [cEdge, cGraph, cChange, cBatch, cHistory] at hlen
 have hsz := bs_size l
 refine AW.sr ?_
 refine AWl.ac ?_
 refine AWl.nilS (i := 2) 20001 1 U U ?_
 refine AWl.ac ?_
 refine AWl.nilS (i := 3) 20002 1 U U ?_
 refine AWl.ac ?_
 refine AWl.nil (AW.sr ?_)
 refine AWl.add (R_empty 12 U U U Tryz.underlying55 ty3 U) U ?_
 refine AWl.av ?_
 refine AWl.nil (AW.sr ?_)
 refine AWl.add (R_empty 13 U U U Tryz.underlying56 ty47 U) U ?_
 refine AWl.av ?_
 refine AWl.nil (AW.sr ?_)
 refine AWl.ac ?_
 refine AWl.nil (AW.seq ?_)
 refine AW.sr ?_
 refine AWl.ac ?_
 refine AWl.nil (AW.block ?_)
 refine AW.loop5 (fun (i : Nat) (u : Nat) (vs : List Int) (bt : List TBatch) (f : Nat) => ((u ≤ i ∧ i ≤ l.length) ∧ l.length < u + f ∧ vs.length ≤ u ∧ bt.length = vs.length ∧ (∀ v ∈ vs, 1 ≤ v ∧ v ≤ 999) ∧ (∀ k, u ≤ k → k < i → l[k]? ≠ some 10)) ∧ (l.length ≤ 4000 → scanL l = scanF f l vs bt u) ∧ (4000 < l.length → vs = [] ∧ bt = [] ∧ u = 0)) (fun (i : Nat) (u : Nat) (vs : List Int) (bt : List TBatch) (f : Nat) => ⟨_, [(8, (true, .a (.one (.t (.v (.int .i64 (i : Nat))))))), (7, (true, .a (.one (.t (.v (.int .i64 (u : Nat))))))), (5, (true, .a (.one (.rf 12)))), (6, (true, .a (.one (.rf 13)))), (0, _)], [(12, .row 1 (vs.map cInt)), (13, .row 1 (bt.map cBatch))]⟩) (fun (i : Nat) (u : Nat) (vs : List Int) (bt : List TBatch) (f : Nat) => l.length - i) (0) (0) ([]) ([]) (l.length + 1) ⟨⟨⟨by omega, by omega⟩, by omega, by simp, U, (fun v hv => by cases hv), fun k h1 h2 => by omega⟩, (fun h => by unfold scanL; rw [if_pos h]), (fun _ => ⟨U, U, U⟩)⟩ (Le.sub0 U ⟨U, U, U, U, U, Y⟩ ⟨U, U, Y⟩) ?_
 rintro i u vs bt f ⟨hk, he⟩
 refine AW.seq ?_
 refine AW.sr ?_
 refine AWl.mv ?_
 refine AWl.mv ?_
 refine AWl.p (R_len_s U (.no U) U (.tm U) Tryz.underlying9) U ?_
 refine AWl.p (R_lt U (.no U) U (.tm U) (.tm U)) U ?_
 refine AWl.mv ?_
 refine AWl.p (R_move U (by exact .yes1 U U U U) U (.tmp U (by exact fun _ => rfl))) U ?_
 refine AWl.p (R_len_s U (by exact .yes1 U U U U) U (.tmp U (by exact id)) Tryz.underlying9) U ?_
 refine AWl.p (R_le U (by exact .yes1 U U U U) U (.tmp U (by exact id)) (.const U)) U ?_
 refine AWl.p (R_and U (.no U) U (.tm U) (.tmp U (by exact id))) U ?_
 refine AWl.nil ?_
 refine AW.cond (.tm U) (fun h22 => ?_) (fun h22 => ?_)
 · skip
   try simp at h22
   obtain ⟨b, hb⟩ : ∃ ξ, l[i]? = some ξ := ⟨_, List.getElem?_eq_getElem (by omega)⟩
   have hlast := last_le hk.2.2.2.2.1
   refine AW.skip ?_
   refine AW.seq ?_
   refine AW.block ?_
   refine AW.seq ?_
   refine AW.seq ?_
   refine AW.le (σ' := ⟨_, [(0, _), (5, _), (6, _), (7, _), (8, _)], [(12, _), (13, _)]⟩) (Le.sub0 U ⟨U, U, U, U, U, Y⟩ ⟨U, U, Y⟩) ?_
   refine AW.region ?_
   refine AWl.mv ?_
   refine AWl.mv ?_
   refine AWl.p (R_strIndex U (.no U) U (.tm U) (.tm U) Tryz.underlying9 (fun _ => ⟨by omega, (by rw [bs_get]; exact hb)⟩)) U ?_
   refine AWl.p (R_ne U (.no U) U (.tm U) (.const U)) U ?_
   refine AWl.nil ?_
   refine AW.cond (.tm U) (fun h28 => ?_) (fun h28 => ?_)
   · skip
     try simp at h28
     refine AW.exit ?_
     refine AW.region ?_
     refine AWl.mv ?_
     refine AWl.p (R_add U (.no U) U (.tm U) (.const U) (fun _ => by omega)) U ?_
     refine AWl.av ?_
     refine AWl.nil ?_
     repeat (with_reducible refine BlockQ.nor ?_)
     refine Round5.next (i + 1) (u) (vs) (bt) (f) ⟨⟨⟨by omega, by omega⟩, hk.2.1, hk.2.2.1, hk.2.2.2.1, hk.2.2.2.2.1, (fun k h1 h2 => by by_cases e : k = i; (subst e; rw [hb]; exact fun e2 => h28 (by rw [Option.some.inj e2]; rfl)); exact hk.2.2.2.2.2 k h1 (by omega))⟩, he.1, he.2⟩ (by omega) (Le.sub0 rfl ⟨rfl, rfl, rfl, rfl, rfl, Y⟩ ⟨(by rfl), (by rfl), Y⟩)
   · skip
     try simp at h28
     have hb10 : b = 10 := UInt8.toNat_inj.1 (show b.toNat = 10 by omega)
     have hn : nlAt l u = some (i - u) := nlAt_intro (by rw [show u + (i - u) = i by omega, hb, hb10]) (fun k h => hk.2.2.2.2.2 (u + k) (by omega) (by omega))
     have hdr : FnT Tryz.prog 73 [.one (.v (.string ((bs l).extract u (i + 1))))] (.tup [.one (.v (.int .i64 (recV (lineS l u (i - u))))), .agg (cBatch (recB (lineS l u (i - u)))), .one (.v (.bool (recG (lineS l u (i - u)))))]) := by (rw [show i + 1 = u + (i - u) + 1 by omega, line_ext]; exact specDecodeRecordL _ (Nat.le_trans (line_len l u (i - u)) hz))
     refine AW.skip ?_
     refine AW.sr ?_
     refine AWl.mv ?_
     refine AWl.mv ?_
     refine AWl.mv ?_
     refine AWl.p (R_add U (.no U) U (.tm U) (.const U) (fun _ => by omega)) U ?_
     refine AWl.p (R_strSlice (n := u) (m := i + 1) U (.no U) U (.tm U) (.yes (.tm U) (fun _ => by first | omega | (simp <;> omega))) (.yes (.tm U) (fun _ => by first | omega | (simp <;> omega))) Tryz.underlying9 (fun _ => ⟨by omega, by first | omega | (simp; omega)⟩)) U ?_
     refine AWl.adds (R_call 3500 (hdr) U U U (.cons (.tm U) U .nil) U U) U ?_
     refine AWl.p (R_movet U (.no U) U U fun _ => rfl) U ?_
     refine AWl.p (R_extract U (.no U) U U (fun _ => rfl) U) U ?_
     refine AWl.p (R_extract U (.no U) U U (fun _ => rfl) U) U ?_
     refine AWl.p (R_extract U (.no U) U U (fun _ => rfl) U) U ?_
     refine AWl.add (R_alloc 10 U U U in47 U U U) U ?_
     refine AWl.av ?_
     refine AWl.chgb (R_store_pb U U U (.tm U) (.tm U) U ty47 U U U (by kernel_rfl) U) ?_
     refine AWl.le (σ' := ⟨_, [(0, _), (5, _), (6, _), (7, _), (8, _), (9, _), (10, _), (28, _), (38, _)], [(12, _), (13, _), (3500, _), (10, _)]⟩) (Le.sub0 U ⟨U, U, U, U, U, U, U, U, U, Y⟩ ⟨U, U, U, U, Y⟩) ?_
     refine AWl.av ?_
     refine AWl.nil (AW.seq ?_)
     refine AW.sr ?_
     refine AWl.mv ?_
     refine AWl.p (R_not U (.no U) U (.tm U)) U ?_
     refine AWl.mv ?_
     refine AWl.p (R_move U (by exact .not1 U U U U) U (.tmp U (by exact fun _ => rfl))) U ?_
     refine AWl.p (by exact R_lenm U (by exact .not1 U U U U) U (.tmp U (by exact id)) (by exact .rf U) Tryz.underlying55) U ?_
     refine AWl.p (R_gt U (by exact .not1 U U U U) U (.tmp U (by exact id)) (.const U)) U ?_
     refine AWl.p (R_move U (by exact .not1 U U U U) U (.tmp U (by exact id))) U ?_
     refine AWl.p (R_move U (by exact .yes U U U U) U (.tmp U (by exact fun _ => rfl))) U ?_
     refine AWl.p (R_move U (by exact .yes U U U U) U (.tmp U (by exact fun _ => rfl))) U ?_
     refine AWl.p (R_move U (by exact .yes U U U U) U (.tmp U (by exact fun _ => rfl))) U ?_
     refine AWl.p (by exact R_lenm U (by exact .yes U U U U) U (.tmp U (by exact id)) (by exact .rf U) Tryz.underlying55) U ?_
     refine AWl.p (R_sub U (by exact .yes U U U U) U (.tmp U (by exact id)) (.const U) (fun hq => by first | omega | (simp at hq; omega))) U ?_
     refine AWl.p ((by exact R_indexAddr_rf U (by exact .yes U U U U) U (.tmp U (by exact id)) U (.tmp U (by exact id)) Tryz.underlying55 ty3 (fun hq => ⟨by simp at hq; omega, map_get (last_get (by simp at hq; omega))⟩))) U ?_
     refine AWl.p ((by exact R_load_prq U (by exact .yes U U U U) U (.tmp U (by exact id)) U (fun hq => map_get (last_get (by simp at hq; omega))) ty3 U U)) U ?_
     refine AWl.p (R_add U (by exact .yes U U U U) U (.tmp U (by exact id)) (.const U) (fun hq => by first | omega | (simp at hq; omega))) U ?_
     refine AWl.p (R_ne U (by exact .yes U U U U) U (.tmp U (by exact id)) (.tmp U (by exact id))) U ?_
     refine AWl.p (R_and U (by exact .not1 U U U U) U (.tmp U (by exact id)) (.tmp U (by exact id))) U ?_
     refine AWl.p (R_or U (.no U) U (.tm U) (.tmp U (by exact id))) U ?_
     refine AWl.nil ?_
     refine AW.cond (.tm U) (fun h56 => ?_) (fun h56 => ?_)
     · skip
       try simp at h56
       refine AW.seq ?_
       refine AW.le (σ' := ⟨_, [(0, _), (5, _), (6, _), (7, _), (8, _), (9, _), (10, _), (11, _)], [(12, _), (13, _), (3500, _), (10, _)]⟩) (Le.sub0 U ⟨U, U, U, U, U, U, U, U, Y⟩ ⟨U, U, U, U, Y⟩) ?_
       refine AW.region ?_
       refine AWl.mv ?_
       refine AWl.mv ?_
       refine AWl.mv ?_
       refine AWl.av ?_
       refine AWl.av ?_
       refine AWl.av ?_
       refine AWl.nil (AW.ret ?_)
       refine Res.many U (.tmp U (.tmp U (.tmp U .nil))) U ?_ (by simp)
       rw [he.1 (by omega), scan_end hn (fun hg => h56.elim (fun h => by rw [hg] at h; cases h) id)]; rfl
     · skip
       try simp at h56
       have hg : recG (lineS l u (i - u)) = true := h56.1
       have hv : 0 < vs.length → recV (lineS l u (i - u)) = lastI vs + 1 := h56.2
       refine AW.skip ?_
       refine AW.seq ?_
       refine AW.le (σ' := ⟨_, [(0, _), (5, _), (6, _), (7, _), (8, _), (9, _), (10, _), (11, _)], [(12, _), (13, _), (3500, _), (10, _)]⟩) (Le.sub0 U ⟨U, U, U, U, U, U, U, U, Y⟩ ⟨U, U, U, U, Y⟩) ?_
       refine AW.region ?_
       refine AWl.mv ?_
       refine AWl.mv ?_
       refine AWl.absadd (R_list (xs := [.tmp 61]) 62 U U U (.cons (.tm U) U U .nil) Tryz.underlying55 in3 U U U U) U ?_
       refine AWl.abschgput (R_append_own U U U (.tm U) U (.tm U) U U Tryz.underlying55 in3 U (by (simp [chunk]; omega)) (by (unfold maxLen; simp [chunk]; omega))) U ?_
       refine AWl.le (σ' := ⟨_, [(0, _), (5, _), (6, _), (7, _), (8, _), (9, _), (10, _), (11, _), (63, _)], [(12, _), (13, _), (3500, _), (10, _)]⟩) (Le.sub0 U ⟨U, U, U, U, U, U, U, U, U, Y⟩ ⟨U, U, U, U, Y⟩) ?_
       refine AWl.av ?_
       refine AWl.nil (AW.sr ?_)
       refine AWl.mv ?_
       refine AWl.p (by exact R_load_pp U (.no U) U (.tm U) U ty47 U U) U ?_
       refine AWl.absadd (R_list (xs := [.tmp 65]) 66 U U U (.cons (.tm U) U U .nil) Tryz.underlying56 in47 U U U U) U ?_
       refine AWl.abschgput (R_append_own U U U (.tm U) U (.tm U) U U Tryz.underlying56 in47 U (by (simp [chunk]; omega)) (by (unfold maxLen; simp [chunk]; omega))) U ?_
       refine AWl.le (σ' := ⟨_, [(0, _), (5, _), (6, _), (7, _), (8, _), (9, _), (10, _), (11, _), (67, _)], [(12, _), (13, _), (10, _)]⟩) (Le.sub0 U ⟨U, U, U, U, U, U, U, U, U, Y⟩ ⟨U, U, U, Y⟩) ?_
       refine AWl.av ?_
       refine AWl.nil (AW.region ?_)
       refine AWl.mv ?_
       refine AWl.p (R_add U (.no U) U (.tm U) (.const U) (fun _ => by omega)) U ?_
       refine AWl.av ?_
       refine AWl.nil (AW.region ?_)
       refine AWl.mv ?_
       refine AWl.p (R_add U (.no U) U (.tm U) (.const U) (fun _ => by omega)) U ?_
       refine AWl.av ?_
       refine AWl.nil ?_
       repeat (with_reducible refine BlockQ.nor ?_)
       refine Round5.next (i + 1) (i + 1) (vs ++ [recV (lineS l u (i - u))]) (bt ++ [recB (lineS l u (i - u))]) (f - 1) ⟨⟨⟨by omega, by omega⟩, by omega, by simp; omega, by simp [hk.2.2.2.1], line_rng hk.2.2.2.2.1 hg, fun k h1 h2 => by omega⟩, (fun h => by rw [he.1 h, scan_next hn hg hv hk.2.1, show u + (i - u + 1) = i + 1 by omega]), (fun h => by omega)⟩ (by omega) (Le.sub0 rfl ⟨rfl, rfl, rfl, rfl, rfl, Y⟩ ⟨(by (refine congrArg (fun r => some (R.row _ r)) ?_; simp [chunk, List.map_set, cInt, cBool, cIntS, cPair, cToken, cExpr, cEdge, cGraph, cStep, cWalk, cChange, cBatch, cHistory, cPositions, cAutomaton, cProductStep, cPathAtom, cConjunction, cView, cDelta, cRegistered, cRegistry])), (by (refine congrArg (fun r => some (R.row _ r)) ?_; simp [chunk, List.map_set, cInt, cBool, cIntS, cPair, cToken, cExpr, cEdge, cGraph, cStep, cWalk, cChange, cBatch, cHistory, cPositions, cAutomaton, cProductStep, cPathAtom, cConjunction, cView, cDelta, cRegistered, cRegistry])), Y⟩)
 · skip
   try simp at h22
   refine AW.exit ?_
   refine AW.seq ?_
   refine AW.le (σ' := ⟨_, [(0, _), (5, _), (6, _), (7, _), (8, _)], [(12, _), (13, _)]⟩) (Le.sub0 U ⟨U, U, U, U, U, Y⟩ ⟨U, U, Y⟩) ?_
   refine AW.region ?_
   refine AWl.mv ?_
   refine AWl.mv ?_
   refine AWl.mv ?_
   refine AWl.av ?_
   refine AWl.av ?_
   refine AWl.av ?_
   refine AWl.nil (AW.ret ?_)
   refine Res.many U (.tmp U (.tmp U (.tmp U .nil))) U ?_ (by simp)
   rcases Nat.lt_or_ge 4000 l.length with hL | hL; (obtain ⟨e1, e2, e3⟩ := he.2 hL; rw [scanL_long hL, e1, e2, e3]; rfl); (have hno : nlAt l u = none := nlAt_none (fun k h1 h2 => hk.2.2.2.2.2 k h1 (by have := (List.getElem?_eq_some_iff.1 h2).1; omega) h2); rw [he.1 hL, scan_none hno]; rfl)
theorem specScanLog (s : ByteArray) (hz : s.size ≤ 1048576) : FnT Tryz.prog 32 [.one (.v (.string s))] (.tup [.one (.sl 1 ((scanL s.data.toList).1.map cInt)), .one (.sl 1 ((scanL s.data.toList).2.1.map cBatch)), .one (.v (.int .i64 ((scanL s.data.toList).2.2 : Nat)))]) := by
 have := specScanLogL s.data.toList (by rw [← bs_size, bs_of]; omega)
 rw [bs_of] at this; exact this
end Go.Proofs.YtbkhopfpejhnlaaGreatDoor
