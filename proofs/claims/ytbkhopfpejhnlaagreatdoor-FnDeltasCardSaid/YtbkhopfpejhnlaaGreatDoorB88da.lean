import Derived.Test.YtbkhopfpejhnlaaGreatDoorB87da
set_option linter.unusedVariables false
set_option linter.unusedSimpArgs false
set_option maxHeartbeats 1000000
set_option maxRecDepth 100000
namespace Go.Q
open Go.D
theorem parseP_few {l : List UInt8} : (parseP l).1.length ≤ 25 := by
 unfold parseP
 split
 · simp
 · split
   · rename_i h
     simp only [Bool.and_eq_true] at h
     exact ap_few h.2
   · simp
theorem cut_len (l : List UInt8) : (Lib.cut l [32, 45]).1.length ≤ l.length ∧ (Lib.cut l [32, 45]).2.1.length ≤ l.length := by
 rcases cut_cases l with h | ⟨i, h, _⟩
 · rw [h]; simp
 · rw [h]; simp [List.length_take]; omega
theorem pre_len {a : List UInt8} (h : Lib.hasPrefix a [43] = true) : 1 ≤ a.length := by
 cases a with
 | nil => simp [Lib.hasPrefix] at h
 | cons b r => simp
theorem ext1 (a : List UInt8) : (bs a).extract 1 (bs a).size = bs (a.drop 1) := by rw [bs_extract, bs_size, List.take_of_length_le (Nat.le_refl _)]
theorem pd_no1 {l : List UInt8} (h : (Lib.cut l [32, 45]).2.2 = false ∨ Lib.hasPrefix (Lib.cut l [32, 45]).1 [43] = false) : parseD l = (⟨[], []⟩, false) := by
 unfold parseD
 rw [if_neg]
 rcases h with h | h <;> rw [h] <;> simp
theorem pd_no2 {l : List UInt8} (hf : (Lib.cut l [32, 45]).2.2 = true) (hp : Lib.hasPrefix (Lib.cut l [32, 45]).1 [43] = true) (h : ((parseP (Lib.cut l [32, 45]).1.tail).2 = false ∨ (parseP (Lib.cut l [32, 45]).2.1).2 = false) ∨ ¬ bs (fmtDelta ⟨(parseP (Lib.cut l [32, 45]).1.tail).1, (parseP (Lib.cut l [32, 45]).2.1).1⟩) = bs l) : parseD l = (⟨[], []⟩, false) := by
 rw [← List.drop_one] at h
 unfold parseD
 rw [if_neg]
 intro hh
 simp only [Bool.and_eq_true] at hh
 rcases h with (h | h) | h
 · rw [h] at hh; exact absurd hh.1.1.2 (by decide)
 · rw [h] at hh; exact absurd hh.1.2 (by decide)
 · exact h (congrArg bs (of_decide_eq_true ((delta_text hf hp hh.1.1.2 hh.1.2).trans hh.2)))
theorem pd_yes {l : List UInt8} (hf : (Lib.cut l [32, 45]).2.2 = true) (hp : Lib.hasPrefix (Lib.cut l [32, 45]).1 [43] = true) (h : ((parseP (Lib.cut l [32, 45]).1.tail).2 = true ∧ (parseP (Lib.cut l [32, 45]).2.1).2 = true) ∧ bs (fmtDelta ⟨(parseP (Lib.cut l [32, 45]).1.tail).1, (parseP (Lib.cut l [32, 45]).2.1).1⟩) = bs l) : parseD l = (⟨(parseP ((Lib.cut l [32, 45]).1.drop 1)).1, (parseP (Lib.cut l [32, 45]).2.1).1⟩, true) := by
 rw [← List.drop_one] at h
 obtain ⟨⟨h1, h2⟩, h3⟩ := h
 have hd := (delta_text hf hp h1 h2).symm.trans (decide_eq_true (bs_inj h3))
 unfold parseD
 rw [hf, hp, h1, h2, hd]
 rfl
end Go.Q
namespace Go.Proofs.YtbkhopfpejhnlaaGreatDoor
open Go.RowKit Go.Q Go.D
theorem implParseDeltaL (l : List UInt8) (hz : l.length ≤ 2000000) : FnT Tryz.prog 21 [.one (.v (.string (bs l)))] (.tup [.agg (cDelta (parseD l).1), .one (.v (.bool (parseD l).2))]) := by
 have hcc := stringsCut (bs l) [32, 45] (by rw [bs_size]; omega)
 rw [bs_list] at hcc
 have hpp : FnT Tryz.prog 54 [.one (.v (.string (bs (Lib.cut l [32, 45]).1))), .one (.v (.string (bs [43])))] (.a (.one (.v (.bool (Lib.hasPrefix (Lib.cut l [32, 45]).1 [43]))))) := by
  have := stringsHasPrefix (bs (Lib.cut l [32, 45]).1) [43]
  rw [bs_list] at this; exact this
 have hcl := cut_len l
 have hp1 := implParsePairs ((Lib.cut l [32, 45]).1.drop 1) (by rw [List.length_drop]; omega)
 rw [← ext1] at hp1
 have hp2 := implParsePairs (Lib.cut l [32, 45]).2.1 (by omega)
 have hf1 := parseP_few (l := (Lib.cut l [32, 45]).1.drop 1)
 have hf2 := parseP_few (l := (Lib.cut l [32, 45]).2.1)
 refine FnT.walk Tryz.func21 U (by kernel_rfl) Tryz.ntmps21 U fun hlen w0 => ?_
 try simp [cPair, cToken, cExpr, cEdge, cGraph, cStep, cWalk, cChange, cBatch, cHistory, cPositions, cAutomaton, cProductStep, cPathAtom, cConjunction, cView, cDelta, cRegistered, cRegistry] at hlen
 have hsz := bs_size (Lib.cut l [32, 45]).1
 refine AW.sr ?_
 refine AWl.add (R_alloc 2 U U U in28 U U U) U ?_
 refine AWl.ac U U U U U ?_
 refine AWl.nil (AW.sr ?_)
 refine AWl.mv U U U U U ?_
 refine AWl.put (R_callz (FnT.fr (hcc)) U (.no U) U (.cons (.tm U) U (.cons (.const U) U .nil))) U ?_
 refine AWl.put (R_movet U (.no U) U U fun _ => rfl) U ?_
 refine AWl.put (R_extract U (.no U) U U (fun _ => rfl) U) U ?_
 refine AWl.put (R_extract U (.no U) U U (fun _ => rfl) U) U ?_
 refine AWl.put (R_extract U (.no U) U U (fun _ => rfl) U) U ?_
 refine AWl.av U U U U U ?_
 refine AWl.av U U U U U ?_
 refine AWl.av U U U U U ?_
 refine AWl.nil (AW.seq ?_)
 refine AW.seq ?_
 refine AW.le (σ' := ⟨_, [(0, _), (2, _), (3, _), (4, _), (5, _), (6, _)], [(2, _)]⟩) (Le.sub0 U ⟨U, U, U, U, U, U, trivial⟩ ⟨U, trivial⟩) ?_
 refine AW.region ?_
 refine AWl.mv U U U U U ?_
 refine AWl.put (R_not U (.no U) U (.tm U)) U ?_
 refine AWl.mv U U U U U ?_
 refine AWl.put (R_move U (by first | exact .not1 U U U U | exact .not U U U U) U (.tmp U (by first | exact fun _ => rfl | exact id | simp))) U ?_
 refine AWl.put (R_callz (FnT.fr (hpp)) U (by first | exact .not1 U U U U | exact .not U U U U) U (.cons (.tmp U (by first | exact fun _ => rfl | exact id | simp)) U (.cons (.const U) U .nil))) U ?_
 refine AWl.put (R_not U (by first | exact .not1 U U U U | exact .not U U U U) U (.tmp U (by first | exact fun _ => rfl | exact id | simp))) U ?_
 refine AWl.put (R_or U (.no U) U (.tm U) (.tmp U (by first | exact fun _ => rfl | exact id | simp))) U ?_
 refine AWl.nil ?_
 refine AW.cond (.tm U) (fun h24 => ?_) (fun h24 => ?_)
 · skip
   try simp at h24
   refine AW.seq ?_
   refine AW.le (σ' := ⟨_, [(0, _), (2, _), (3, _), (4, _), (5, _), (6, _)], [(2, _)]⟩) (Le.sub0 U ⟨U, U, U, U, U, U, trivial⟩ ⟨U, trivial⟩) ?_
   refine AW.region ?_
   refine AWl.put (R_build (ps := []) U U U in28 U U st28 .nil U) U ?_
   refine AWl.nilA (i := 25) 20001 2 0 U U U ?_
   refine AWl.nilA (i := 25) 20002 2 1 U U U ?_
   refine AWl.chgb (R_store_pb U U U (.tm U) (.tm U) U ty28 U U U (by kernel_rfl) U) ?_
   refine AWl.le (σ' := ⟨_, [(0, _), (2, _), (3, _), (4, _), (5, _), (6, _)], [(2, _), (20001, _), (20002, _)]⟩) (Le.sub0 U ⟨U, U, U, U, U, U, trivial⟩ ⟨U, U, U, trivial⟩) ?_
   refine AWl.ac U U U U U ?_
   refine AWl.nil (AW.ret ?_)
   refine Res.many U (.cell U U ty28 U U (.tmp U .nil)) U ?_ (by simp)
   rw [pd_no1 h24]; rfl
 · skip
   try simp at h24
   have hff : (Lib.cut l [32, 45]).2.2 = true := (by grind)
   have hfp : Lib.hasPrefix (Lib.cut l [32, 45]).1 [43] = true := (by grind)
   have hpl := pre_len hfp
   refine AW.skip ?_
   refine AW.seq ?_
   refine AW.le (σ' := ⟨_, [(0, _), (2, _), (3, _), (4, _), (5, _), (6, _)], [(2, _)]⟩) (Le.sub0 U ⟨U, U, U, U, U, U, trivial⟩ ⟨U, trivial⟩) ?_
   refine AW.region ?_
   refine AWl.mv U U U U U ?_
   refine AWl.put (R_strSlice (n := 1) U (.no U) U (.tm U) (.yes (.const U) (fun _ => by first | omega | (simp <;> omega))) .no Tryz.underlying9 (fun _ => ⟨by omega, by first | omega | (simp; omega)⟩)) U ?_
   refine AWl.adds (R_call 2900 (hp1) U U U (.cons (.tm U) U .nil) U U) U ?_
   refine AWl.put (R_movet U (.no U) U U fun _ => rfl) U ?_
   refine AWl.put (R_extract U (.no U) U U (fun _ => rfl) U) U ?_
   refine AWl.put (R_extract U (.no U) U U (fun _ => rfl) U) U ?_
   refine AWl.av U U U U U ?_
   refine AWl.av U U U U U ?_
   refine AWl.nil (AW.seq ?_)
   refine AW.le (σ' := ⟨_, [(0, _), (2, _), (3, _), (4, _), (5, _), (6, _), (7, _), (8, _)], [(2, _), (2900, _)]⟩) (Le.sub0 U ⟨U, U, U, U, U, U, U, U, trivial⟩ ⟨U, U, trivial⟩) ?_
   refine AW.region ?_
   refine AWl.mv U U U U U ?_
   refine AWl.adds (R_call 3400 (hp2) U U U (.cons (.tm U) U .nil) U U) U ?_
   refine AWl.put (R_movet U (.no U) U U fun _ => rfl) U ?_
   refine AWl.put (R_extract U (.no U) U U (fun _ => rfl) U) U ?_
   refine AWl.put (R_extract U (.no U) U U (fun _ => rfl) U) U ?_
   refine AWl.av U U U U U ?_
   refine AWl.av U U U U U ?_
   refine AWl.nil (AW.sr ?_)
   refine AWl.mv U U U U U ?_
   refine AWl.mv U U U U U ?_
   refine AWl.put (R_build (ps := [(0, .tmp 37), (1, .tmp 38)]) U U U in28 U U st28 (.cons (.tm U) U U fp28_0 (.cons (.tm U) U U fp28_1 .nil)) U) U ?_
   refine AWl.add (R_alloc 11 U U U in28 U U U) U ?_
   refine AWl.chgb (R_store_pb U U U (.tm U) (.tm U) U ty28 U U U (by kernel_rfl) U) ?_
   refine AWl.nil (AW.seq ?_)
   refine AW.seq ?_
   refine AW.le (σ' := ⟨_, [(0, _), (2, _), (3, _), (4, _), (5, _), (6, _), (7, _), (8, _), (9, _), (10, _), (11, _)], [(2, _), (2900, _), (3400, _), (11, _)]⟩) (Le.sub0 U ⟨U, U, U, U, U, U, U, U, U, U, U, trivial⟩ ⟨U, U, U, U, trivial⟩) ?_
   refine AW.region ?_
   refine AWl.mv U U U U U ?_
   refine AWl.put (R_not U (.no U) U (.tm U)) U ?_
   refine AWl.mv U U U U U ?_
   refine AWl.put (R_move U (by first | exact .not1 U U U U | exact .not U U U U) U (.tmp U (by first | exact fun _ => rfl | exact id | simp))) U ?_
   refine AWl.put (R_not U (by first | exact .not1 U U U U | exact .not U U U U) U (.tmp U (by first | exact fun _ => rfl | exact id | simp))) U ?_
   refine AWl.put (R_or U (.no U) U (.tm U) (.tmp U (by first | exact fun _ => rfl | exact id | simp))) U ?_
   refine AWl.mv U U U U U ?_
   refine AWl.put ((by first | exact R_load U (by first | exact .not1 U U U U | exact .not U U U U) U (.tmp U (by first | exact fun _ => rfl | exact id | simp)) ty28 U U | exact R_load_pp U (by first | exact .not1 U U U U | exact .not U U U U) U (.tmp U (by first | exact fun _ => rfl | exact id | simp)) U ty28 U U | exact R_load_vw U (by first | exact .not1 U U U U | exact .not U U U U) U (.tmp U (by first | exact fun _ => rfl | exact id | simp)) ty28 U U | exact R_load_pr U (by first | exact .not1 U U U U | exact .not U U U U) U (.tmp U (by first | exact fun _ => rfl | exact id | simp)) U (by first | assumption | exact map_get (by assumption)) ty28 U U)) U ?_
   refine AWl.put (R_callz (FnT.fr (implFormatDelta ⟨(parseP ((Lib.cut l [32, 45]).1.drop 1)).1, (parseP (Lib.cut l [32, 45]).2.1).1⟩ (Nat.le_trans hf1 (by omega)) (Nat.le_trans hf2 (by omega)))) U (by first | exact .not1 U U U U | exact .not U U U U) U (.cons (.tmp U (by first | exact fun _ => rfl | exact id | simp)) U .nil)) U ?_
   refine AWl.put (R_move U (by first | exact .not1 U U U U | exact .not U U U U) U (.tmp U (by first | exact fun _ => rfl | exact id | simp))) U ?_
   refine AWl.put (R_nestr U (by first | exact .not1 U U U U | exact .not U U U U) U (.tmp U (by first | exact fun _ => rfl | exact id | simp)) (.tmp U (by first | exact fun _ => rfl | exact id | simp))) U ?_
   refine AWl.put (R_or U (.no U) U (.tm U) (.tmp U (by first | exact fun _ => rfl | exact id | simp))) U ?_
   refine AWl.nil ?_
   refine AW.cond (.tm U) (fun h51 => ?_) (fun h51 => ?_)
   · skip
     try simp at h51
     refine AW.seq ?_
     refine AW.le (σ' := ⟨_, [(0, _), (2, _), (3, _), (4, _), (5, _), (6, _), (7, _), (8, _), (9, _), (10, _), (11, _)], [(2, _), (2900, _), (3400, _), (11, _)]⟩) (Le.sub0 U ⟨U, U, U, U, U, U, U, U, U, U, U, trivial⟩ ⟨U, U, U, U, trivial⟩) ?_
     refine AW.region ?_
     refine AWl.put (R_build (ps := []) U U U in28 U U st28 .nil U) U ?_
     refine AWl.nilA (i := 52) 20003 2 0 U U U ?_
     refine AWl.nilA (i := 52) 20004 2 1 U U U ?_
     refine AWl.chgb (R_store_pb U U U (.tm U) (.tm U) U ty28 U U U (by kernel_rfl) U) ?_
     refine AWl.le (σ' := ⟨_, [(0, _), (2, _), (3, _), (4, _), (5, _), (6, _), (7, _), (8, _), (9, _), (10, _), (11, _)], [(2, _), (2900, _), (3400, _), (11, _), (20003, _), (20004, _)]⟩) (Le.sub0 U ⟨U, U, U, U, U, U, U, U, U, U, U, trivial⟩ ⟨U, U, U, U, U, U, trivial⟩) ?_
     refine AWl.ac U U U U U ?_
     refine AWl.nil (AW.ret ?_)
     refine Res.many U (.cell U U ty28 U U (.tmp U .nil)) U ?_ (by simp)
     rw [pd_no2 hff hfp h51]; rfl
   · skip
     try simp at h51
     refine AW.skip ?_
     refine AW.seq ?_
     refine AW.le (σ' := ⟨_, [(0, _), (2, _), (3, _), (4, _), (5, _), (6, _), (7, _), (8, _), (9, _), (10, _), (11, _)], [(2, _), (2900, _), (3400, _), (11, _)]⟩) (Le.sub0 U ⟨U, U, U, U, U, U, U, U, U, U, U, trivial⟩ ⟨U, U, U, U, trivial⟩) ?_
     refine AW.region ?_
     refine AWl.put ((by first | exact R_load U (.no U) U (.tm U) ty28 U U | exact R_load_pp U (.no U) U (.tm U) U ty28 U U | exact R_load_vw U (.no U) U (.tm U) ty28 U U | exact R_load_pr U (.no U) U (.tm U) U (by first | assumption | exact map_get (by assumption)) ty28 U U)) U ?_
     refine AWl.chgb (R_store_pb U U U (.tm U) (.tm U) U ty28 U U U (by kernel_rfl) U) ?_
     refine AWl.le (σ' := ⟨_, [(0, _), (2, _), (3, _), (4, _), (5, _), (6, _), (7, _), (8, _), (9, _), (10, _), (11, _)], [(2, _), (2900, _), (3400, _), (11, _)]⟩) (Le.sub0 U ⟨U, U, U, U, U, U, U, U, U, U, U, trivial⟩ ⟨U, U, U, U, trivial⟩) ?_
     refine AWl.ac U U U U U ?_
     refine AWl.nil (AW.ret ?_)
     refine Res.many U (.cell U U ty28 U U (.tmp U .nil)) U ?_ (by simp)
     rw [pd_yes hff hfp h51]; rfl
theorem implParseDelta (s : ByteArray) (hz : s.size ≤ 1048576) : FnT Tryz.prog 21 [.one (.v (.string s))] (.tup [.agg (cDelta (parseD s.data.toList).1), .one (.v (.bool (parseD s.data.toList).2))]) := by
 have := implParseDeltaL s.data.toList (by rw [← bs_size, bs_of]; omega)
 rw [bs_of] at this; exact this
end Go.Proofs.YtbkhopfpejhnlaaGreatDoor
