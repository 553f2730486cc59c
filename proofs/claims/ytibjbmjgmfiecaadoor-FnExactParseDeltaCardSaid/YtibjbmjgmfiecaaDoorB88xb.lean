/- Deltas read: both texts. -/
import Derived.Test.YtibjbmjgmfiecaaDoorB87xb
set_option linter.unusedVariables false
set_option linter.unusedSimpArgs false
set_option maxHeartbeats 1000000
set_option maxRecDepth 100000
namespace Go.Q
open Go.D
theorem parseP_few {l : List UInt8} : (parseP l).1.length ≤ 25 := by
  unfold parseP
  split
  · simp
  · split
    · rename_i h
      simp only [Bool.and_eq_true] at h
      exact ap_few h.2
    · simp
theorem cut_len (l : List UInt8) : (Lib.cut l [32, 45]).1.length ≤ l.length ∧ (Lib.cut l [32, 45]).2.1.length ≤ l.length := by
  rcases cut_cases l with h | ⟨i, h, _⟩
  · rw [h]; simp
  · rw [h]; simp [List.length_take]; omega
theorem pre_len {a : List UInt8} (h : Lib.hasPrefix a [43] = true) : 1 ≤ a.length := by
  cases a with
  | nil => simp [Lib.hasPrefix] at h
  | cons b r => simp
theorem ext1 (a : List UInt8) : (bs a).extract 1 (bs a).size = bs (a.drop 1) := by rw [bs_extract, bs_size, List.take_of_length_le (Nat.le_refl _)]
theorem extn (a : List UInt8) (n : Nat) : (bs a).extract n (bs a).size = bs (a.drop n) := by rw [bs_extract, bs_size, List.take_of_length_le (Nat.le_refl _)]
theorem pd_no1 {l : List UInt8} (h : (Lib.cut l [32, 45]).2.2 = false ∨ Lib.hasPrefix (Lib.cut l [32, 45]).1 [43] = false) : parseD l = (⟨[], []⟩, false) := by
  unfold parseD
  rw [if_neg]
  rcases h with h | h <;> rw [h] <;> simp
theorem pd_no2 {l : List UInt8} (hf : (Lib.cut l [32, 45]).2.2 = true) (hp : Lib.hasPrefix (Lib.cut l [32, 45]).1 [43] = true) (h : ((parseP (Lib.cut l [32, 45]).1.tail).2 = false ∨ (parseP (Lib.cut l [32, 45]).2.1).2 = false) ∨ ¬ bs (fmtDelta ⟨(parseP (Lib.cut l [32, 45]).1.tail).1, (parseP (Lib.cut l [32, 45]).2.1).1⟩) = bs l) : parseD l = (⟨[], []⟩, false) := by
  rw [← List.drop_one] at h
  unfold parseD
  rw [if_neg]
  intro hh
  simp only [Bool.and_eq_true] at hh
  rcases h with (h | h) | h
  · rw [h] at hh; exact absurd hh.1.1.2 (by decide)
  · rw [h] at hh; exact absurd hh.1.2 (by decide)
  · exact h (congrArg bs (of_decide_eq_true ((delta_text hf hp hh.1.1.2 hh.1.2).trans hh.2)))
theorem pd_yes {l : List UInt8} (hf : (Lib.cut l [32, 45]).2.2 = true) (hp : Lib.hasPrefix (Lib.cut l [32, 45]).1 [43] = true) (h : ((parseP (Lib.cut l [32, 45]).1.tail).2 = true ∧ (parseP (Lib.cut l [32, 45]).2.1).2 = true) ∧ bs (fmtDelta ⟨(parseP (Lib.cut l [32, 45]).1.tail).1, (parseP (Lib.cut l [32, 45]).2.1).1⟩) = bs l) : parseD l = (⟨(parseP ((Lib.cut l [32, 45]).1.drop 1)).1, (parseP (Lib.cut l [32, 45]).2.1).1⟩, true) := by
  rw [← List.drop_one] at h
  obtain ⟨⟨h1, h2⟩, h3⟩ := h
  have hd := (delta_text hf hp h1 h2).symm.trans (decide_eq_true (bs_inj h3))
  unfold parseD
  rw [hf, hp, h1, h2, hd]
  rfl
theorem b43 {b : UInt8} : (b.toNat : Int) = 43 ↔ b = 43 := ⟨fun h => UInt8.toNat_inj.1 (show b.toNat = 43 by omega), fun h => by rw [h]; rfl⟩
theorem ps_yes {l m : List UInt8} {b : UInt8} (h : (((b.toNat : Int) = 43 ∧ (parseP l.tail).2 = true) ∧ (parseP m).2 = true) ∧ isDelta ⟨(parseP l.tail).1, (parseP m).1⟩ = true) : (decide (b = 43) && (parseP (l.drop 1)).2 && (parseP m).2 && isDelta ⟨(parseP (l.drop 1)).1, (parseP m).1⟩) = true := by
  rw [← List.drop_one, b43] at h
  simp only [Bool.and_eq_true, decide_eq_true_eq]
  exact h
theorem ps_no {l m : List UInt8} {b : UInt8} (h : ((b.toNat : Int) = 43 → (parseP l.tail).2 = true → (parseP m).2 = true → isDelta ⟨(parseP l.tail).1, (parseP m).1⟩ = false)) : ¬ (decide (b = 43) && (parseP (l.drop 1)).2 && (parseP m).2 && isDelta ⟨(parseP (l.drop 1)).1, (parseP m).1⟩) = true := by
  rw [← List.drop_one, b43] at h
  simp only [Bool.and_eq_true, decide_eq_true_eq]
  intro hh
  have := h hh.1.1.1 hh.1.1.2 hh.1.2
  rw [hh.2] at this; cases this
theorem parseD_few (l : List UInt8) : (parseD l).1.Added.length ≤ 25 ∧ (parseD l).1.Removed.length ≤ 25 := by
  unfold parseD
  split
  · exact ⟨parseP_few, parseP_few⟩
  · exact ⟨Nat.zero_le _, Nat.zero_le _⟩
end Go.Q
namespace Go.Proofs.YtibjbmjgmfiecaaDoor
open Go.RowKit Go.Q Go.D
theorem implParseDeltaL (l : List UInt8) (hz : l.length ≤ 2000000) : FnT Tryd.prog 13 [.one (.v (.string (bs l)))] (.tup [.agg (cDelta (parseD l).1), .one (.v (.bool (parseD l).2))]) := by
  have hcc := stringsCut (bs l) [32, 45] (by rw [bs_size]; omega)
  rw [bs_list] at hcc
  have hpp : FnT Tryd.prog 43 [.one (.v (.string (bs (Lib.cut l [32, 45]).1))), .one (.v (.string (bs [43])))] (.a (.one (.v (.bool (Lib.hasPrefix (Lib.cut l [32, 45]).1 [43]))))) := by
    have := stringsHasPrefix (bs (Lib.cut l [32, 45]).1) [43]
    rw [bs_list] at this; exact this
  have hcl := cut_len l
  have hp1 := implParsePairs ((Lib.cut l [32, 45]).1.drop 1) (by rw [List.length_drop]; omega)
  rw [← ext1] at hp1
  have hp2 := implParsePairs (Lib.cut l [32, 45]).2.1 (by omega)
  have hf1 := parseP_few (l := (Lib.cut l [32, 45]).1.drop 1)
  have hf2 := parseP_few (l := (Lib.cut l [32, 45]).2.1)
  refine FnT.walk Tryd.func13 rfl (by kernel_rfl) Tryd.ntmps13 rfl fun hlen w0 => ?_
  try simp [cPair, cToken, cExpr, cEdge, cGraph, cStep, cWalk, cChange, cBatch, cHistory, cPositions, cAutomaton, cProductStep, cPathAtom, cConjunction, cView, cDelta, cRegistered, cRegistry] at hlen
  have hsz := bs_size (Lib.cut l [32, 45]).1
  refine AW.seq ?_
  refine AW.region ?_
  refine AWl.add (R_alloc 2 rfl rfl rfl in35 rfl rfl rfl) rfl ?_
  refine AWl.put (R_assign rfl (.no rfl) rfl (.const rfl)) rfl ?_
  refine AWl.nil ?_
  refine AW.seq ?_
  refine AW.region ?_
  refine AWl.put (R_move rfl (.no rfl) rfl (.tmp rfl fun _ => rfl)) rfl ?_
  refine AWl.put (R_callz (FnT.fr (hcc)) rfl (.no rfl) rfl (.cons (.tmp rfl fun _ => rfl) rfl (.cons (.const rfl) rfl .nil))) rfl ?_
  refine AWl.put (R_movet rfl (.no rfl) rfl rfl fun _ => rfl) rfl ?_
  refine AWl.put (R_extract rfl (.no rfl) rfl rfl (fun _ => rfl) rfl) rfl ?_
  refine AWl.put (R_extract rfl (.no rfl) rfl rfl (fun _ => rfl) rfl) rfl ?_
  refine AWl.put (R_extract rfl (.no rfl) rfl rfl (fun _ => rfl) rfl) rfl ?_
  refine AWl.put (R_assign rfl (.no rfl) rfl (.tmp rfl fun _ => rfl)) rfl ?_
  refine AWl.put (R_assign rfl (.no rfl) rfl (.tmp rfl fun _ => rfl)) rfl ?_
  refine AWl.put (R_assign rfl (.no rfl) rfl (.tmp rfl fun _ => rfl)) rfl ?_
  refine AWl.nil ?_
  refine AW.seq ?_
  refine AW.seq ?_
  refine AW.le (σ' := ⟨_, [(0, _), (2, _), (3, _), (4, _), (5, _), (6, _)], [(2, _)]⟩) (Le.sub0 rfl ⟨rfl, rfl, rfl, rfl, rfl, rfl, trivial⟩ ⟨rfl, trivial⟩) ?_
  refine AW.region ?_
  refine AWl.put (R_move rfl (.no rfl) rfl (.tmp rfl fun _ => rfl)) rfl ?_
  refine AWl.put (R_not rfl (.no rfl) rfl (.tmp rfl fun _ => rfl)) rfl ?_
  refine AWl.put (R_move rfl (.no rfl) rfl (.tmp rfl fun _ => rfl)) rfl ?_
  refine AWl.put (R_move rfl (by first | exact .not1 rfl rfl rfl rfl | exact .not rfl rfl rfl rfl) rfl (.tmp rfl (by first | exact fun _ => rfl | exact id | simp))) rfl ?_
  refine AWl.put (R_callz (FnT.fr (hpp)) rfl (by first | exact .not1 rfl rfl rfl rfl | exact .not rfl rfl rfl rfl) rfl (.cons (.tmp rfl (by first | exact fun _ => rfl | exact id | simp)) rfl (.cons (.const rfl) rfl .nil))) rfl ?_
  refine AWl.put (R_not rfl (by first | exact .not1 rfl rfl rfl rfl | exact .not rfl rfl rfl rfl) rfl (.tmp rfl (by first | exact fun _ => rfl | exact id | simp))) rfl ?_
  refine AWl.put (R_or rfl (.no rfl) rfl (.tmp rfl fun _ => rfl) (.tmp rfl (by first | exact fun _ => rfl | exact id | simp))) rfl ?_
  refine AWl.nil ?_
  refine AW.cond (.tmp rfl fun _ => rfl) (fun h24 => ?_) (fun h24 => ?_)
  · skip
    try simp at h24
    refine AW.seq ?_
    refine AW.le (σ' := ⟨_, [(0, _), (2, _), (3, _), (4, _), (5, _), (6, _)], [(2, _)]⟩) (Le.sub0 rfl ⟨rfl, rfl, rfl, rfl, rfl, rfl, trivial⟩ ⟨rfl, trivial⟩) ?_
    refine AW.region ?_
    refine AWl.put (R_build (ps := []) rfl rfl rfl in35 rfl rfl st35 .nil rfl) rfl ?_
    refine AWl.nilA (i := 25) 20001 2 0 rfl rfl rfl ?_
    refine AWl.nilA (i := 25) 20002 2 1 rfl rfl rfl ?_
    refine AWl.chgb (R_store_pb rfl rfl rfl (.tmp rfl fun _ => rfl) (.tmp rfl fun _ => rfl) rfl ty35 rfl rfl rfl (by kernel_rfl) rfl) ?_
    refine AWl.le (σ' := ⟨_, [(0, _), (2, _), (3, _), (4, _), (5, _), (6, _)], [(2, _), (20001, _), (20002, _)]⟩) (Le.sub0 rfl ⟨rfl, rfl, rfl, rfl, rfl, rfl, trivial⟩ ⟨rfl, rfl, rfl, trivial⟩) ?_
    refine AWl.put (R_assign rfl (.no rfl) rfl (.const rfl)) rfl ?_
    refine AWl.nil ?_
    refine AW.ret ?_
    refine Res.many rfl (.cell rfl rfl ty35 rfl rfl (.tmp rfl .nil)) rfl ?_ (by simp)
    rw [pd_no1 h24]; rfl
  · skip
    try simp at h24
    have hff : (Lib.cut l [32, 45]).2.2 = true := (by grind)
    have hfp : Lib.hasPrefix (Lib.cut l [32, 45]).1 [43] = true := (by grind)
    have hpl := pre_len hfp
    refine AW.skip ?_
    refine AW.seq ?_
    refine AW.le (σ' := ⟨_, [(0, _), (2, _), (3, _), (4, _), (5, _), (6, _)], [(2, _)]⟩) (Le.sub0 rfl ⟨rfl, rfl, rfl, rfl, rfl, rfl, trivial⟩ ⟨rfl, trivial⟩) ?_
    refine AW.region ?_
    refine AWl.put (R_move rfl (.no rfl) rfl (.tmp rfl fun _ => rfl)) rfl ?_
    refine AWl.put (R_strSlice (n := 1) rfl (.no rfl) rfl (.tmp rfl fun _ => rfl) (.yes (.const rfl) (fun _ => by first | omega | (simp <;> omega))) .no Tryd.underlying9 (fun _ => ⟨by omega, by first | omega | (simp; omega)⟩)) rfl ?_
    refine AWl.adds (R_call 2900 (hp1) rfl rfl rfl (.cons (.tmp rfl fun _ => rfl) rfl .nil) rfl rfl) rfl ?_
    refine AWl.put (R_movet rfl (.no rfl) rfl rfl fun _ => rfl) rfl ?_
    refine AWl.put (R_extract rfl (.no rfl) rfl rfl (fun _ => rfl) rfl) rfl ?_
    refine AWl.put (R_extract rfl (.no rfl) rfl rfl (fun _ => rfl) rfl) rfl ?_
    refine AWl.put (R_assign rfl (.no rfl) rfl (.tmp rfl fun _ => rfl)) rfl ?_
    refine AWl.put (R_assign rfl (.no rfl) rfl (.tmp rfl fun _ => rfl)) rfl ?_
    refine AWl.nil ?_
    refine AW.seq ?_
    refine AW.le (σ' := ⟨_, [(0, _), (2, _), (3, _), (4, _), (5, _), (6, _), (7, _), (8, _)], [(2, _), (2900, _)]⟩) (Le.sub0 rfl ⟨rfl, rfl, rfl, rfl, rfl, rfl, rfl, rfl, trivial⟩ ⟨rfl, rfl, trivial⟩) ?_
    refine AW.region ?_
    refine AWl.put (R_move rfl (.no rfl) rfl (.tmp rfl fun _ => rfl)) rfl ?_
    refine AWl.adds (R_call 3400 (hp2) rfl rfl rfl (.cons (.tmp rfl fun _ => rfl) rfl .nil) rfl rfl) rfl ?_
    refine AWl.put (R_movet rfl (.no rfl) rfl rfl fun _ => rfl) rfl ?_
    refine AWl.put (R_extract rfl (.no rfl) rfl rfl (fun _ => rfl) rfl) rfl ?_
    refine AWl.put (R_extract rfl (.no rfl) rfl rfl (fun _ => rfl) rfl) rfl ?_
    refine AWl.put (R_assign rfl (.no rfl) rfl (.tmp rfl fun _ => rfl)) rfl ?_
    refine AWl.put (R_assign rfl (.no rfl) rfl (.tmp rfl fun _ => rfl)) rfl ?_
    refine AWl.nil ?_
    refine AW.seq ?_
    refine AW.region ?_
    refine AWl.put (R_move rfl (.no rfl) rfl (.tmp rfl fun _ => rfl)) rfl ?_
    refine AWl.put (R_move rfl (.no rfl) rfl (.tmp rfl fun _ => rfl)) rfl ?_
    refine AWl.put (R_build (ps := [(0, .tmp 37), (1, .tmp 38)]) rfl rfl rfl in35 rfl rfl st35 (.cons (.tmp rfl fun _ => rfl) rfl rfl fp35_0 (.cons (.tmp rfl fun _ => rfl) rfl rfl fp35_1 .nil)) rfl) rfl ?_
    refine AWl.add (R_alloc 11 rfl rfl rfl in35 rfl rfl rfl) rfl ?_
    refine AWl.chgb (R_store_pb rfl rfl rfl (.tmp rfl fun _ => rfl) (.tmp rfl fun _ => rfl) rfl ty35 rfl rfl rfl (by kernel_rfl) rfl) ?_
    refine AWl.nil ?_
    refine AW.seq ?_
    refine AW.seq ?_
    refine AW.le (σ' := ⟨_, [(0, _), (2, _), (3, _), (4, _), (5, _), (6, _), (7, _), (8, _), (9, _), (10, _), (11, _)], [(2, _), (2900, _), (3400, _), (11, _)]⟩) (Le.sub0 rfl ⟨rfl, rfl, rfl, rfl, rfl, rfl, rfl, rfl, rfl, rfl, rfl, trivial⟩ ⟨rfl, rfl, rfl, rfl, trivial⟩) ?_
    refine AW.region ?_
    refine AWl.put (R_move rfl (.no rfl) rfl (.tmp rfl fun _ => rfl)) rfl ?_
    refine AWl.put (R_not rfl (.no rfl) rfl (.tmp rfl fun _ => rfl)) rfl ?_
    refine AWl.put (R_move rfl (.no rfl) rfl (.tmp rfl fun _ => rfl)) rfl ?_
    refine AWl.put (R_move rfl (by first | exact .not1 rfl rfl rfl rfl | exact .not rfl rfl rfl rfl) rfl (.tmp rfl (by first | exact fun _ => rfl | exact id | simp))) rfl ?_
    refine AWl.put (R_not rfl (by first | exact .not1 rfl rfl rfl rfl | exact .not rfl rfl rfl rfl) rfl (.tmp rfl (by first | exact fun _ => rfl | exact id | simp))) rfl ?_
    refine AWl.put (R_or rfl (.no rfl) rfl (.tmp rfl fun _ => rfl) (.tmp rfl (by first | exact fun _ => rfl | exact id | simp))) rfl ?_
    refine AWl.put (R_move rfl (.no rfl) rfl (.tmp rfl fun _ => rfl)) rfl ?_
    refine AWl.put ((by first | exact R_load rfl (by first | exact .not1 rfl rfl rfl rfl | exact .not rfl rfl rfl rfl) rfl (.tmp rfl (by first | exact fun _ => rfl | exact id | simp)) ty35 rfl rfl | exact R_load_pp rfl (by first | exact .not1 rfl rfl rfl rfl | exact .not rfl rfl rfl rfl) rfl (.tmp rfl (by first | exact fun _ => rfl | exact id | simp)) rfl ty35 rfl rfl | exact R_load_vw rfl (by first | exact .not1 rfl rfl rfl rfl | exact .not rfl rfl rfl rfl) rfl (.tmp rfl (by first | exact fun _ => rfl | exact id | simp)) ty35 rfl rfl | exact R_load_pr rfl (by first | exact .not1 rfl rfl rfl rfl | exact .not rfl rfl rfl rfl) rfl (.tmp rfl (by first | exact fun _ => rfl | exact id | simp)) rfl (by first | assumption | exact map_get (by assumption)) ty35 rfl rfl)) rfl ?_
    refine AWl.put (R_callz (FnT.fr (implFormatDelta ⟨(parseP ((Lib.cut l [32, 45]).1.drop 1)).1, (parseP (Lib.cut l [32, 45]).2.1).1⟩ (Nat.le_trans hf1 (by omega)) (Nat.le_trans hf2 (by omega)))) rfl (by first | exact .not1 rfl rfl rfl rfl | exact .not rfl rfl rfl rfl) rfl (.cons (.tmp rfl (by first | exact fun _ => rfl | exact id | simp)) rfl .nil)) rfl ?_
    refine AWl.put (R_move rfl (by first | exact .not1 rfl rfl rfl rfl | exact .not rfl rfl rfl rfl) rfl (.tmp rfl (by first | exact fun _ => rfl | exact id | simp))) rfl ?_
    refine AWl.put (R_nestr rfl (by first | exact .not1 rfl rfl rfl rfl | exact .not rfl rfl rfl rfl) rfl (.tmp rfl (by first | exact fun _ => rfl | exact id | simp)) (.tmp rfl (by first | exact fun _ => rfl | exact id | simp))) rfl ?_
    refine AWl.put (R_or rfl (.no rfl) rfl (.tmp rfl fun _ => rfl) (.tmp rfl (by first | exact fun _ => rfl | exact id | simp))) rfl ?_
    refine AWl.nil ?_
    refine AW.cond (.tmp rfl fun _ => rfl) (fun h51 => ?_) (fun h51 => ?_)
    · skip
      try simp at h51
      refine AW.seq ?_
      refine AW.le (σ' := ⟨_, [(0, _), (2, _), (3, _), (4, _), (5, _), (6, _), (7, _), (8, _), (9, _), (10, _), (11, _)], [(2, _), (2900, _), (3400, _), (11, _)]⟩) (Le.sub0 rfl ⟨rfl, rfl, rfl, rfl, rfl, rfl, rfl, rfl, rfl, rfl, rfl, trivial⟩ ⟨rfl, rfl, rfl, rfl, trivial⟩) ?_
      refine AW.region ?_
      refine AWl.put (R_build (ps := []) rfl rfl rfl in35 rfl rfl st35 .nil rfl) rfl ?_
      refine AWl.nilA (i := 52) 20003 2 0 rfl rfl rfl ?_
      refine AWl.nilA (i := 52) 20004 2 1 rfl rfl rfl ?_
      refine AWl.chgb (R_store_pb rfl rfl rfl (.tmp rfl fun _ => rfl) (.tmp rfl fun _ => rfl) rfl ty35 rfl rfl rfl (by kernel_rfl) rfl) ?_
      refine AWl.le (σ' := ⟨_, [(0, _), (2, _), (3, _), (4, _), (5, _), (6, _), (7, _), (8, _), (9, _), (10, _), (11, _)], [(2, _), (2900, _), (3400, _), (11, _), (20003, _), (20004, _)]⟩) (Le.sub0 rfl ⟨rfl, rfl, rfl, rfl, rfl, rfl, rfl, rfl, rfl, rfl, rfl, trivial⟩ ⟨rfl, rfl, rfl, rfl, rfl, rfl, trivial⟩) ?_
      refine AWl.put (R_assign rfl (.no rfl) rfl (.const rfl)) rfl ?_
      refine AWl.nil ?_
      refine AW.ret ?_
      refine Res.many rfl (.cell rfl rfl ty35 rfl rfl (.tmp rfl .nil)) rfl ?_ (by simp)
      rw [pd_no2 hff hfp h51]; rfl
    · skip
      try simp at h51
      refine AW.skip ?_
      refine AW.seq ?_
      refine AW.le (σ' := ⟨_, [(0, _), (2, _), (3, _), (4, _), (5, _), (6, _), (7, _), (8, _), (9, _), (10, _), (11, _)], [(2, _), (2900, _), (3400, _), (11, _)]⟩) (Le.sub0 rfl ⟨rfl, rfl, rfl, rfl, rfl, rfl, rfl, rfl, rfl, rfl, rfl, trivial⟩ ⟨rfl, rfl, rfl, rfl, trivial⟩) ?_
      refine AW.region ?_
      refine AWl.put ((by first | exact R_load rfl (.no rfl) rfl (.tmp rfl fun _ => rfl) ty35 rfl rfl | exact R_load_pp rfl (.no rfl) rfl (.tmp rfl fun _ => rfl) rfl ty35 rfl rfl | exact R_load_vw rfl (.no rfl) rfl (.tmp rfl fun _ => rfl) ty35 rfl rfl | exact R_load_pr rfl (.no rfl) rfl (.tmp rfl fun _ => rfl) rfl (by first | assumption | exact map_get (by assumption)) ty35 rfl rfl)) rfl ?_
      refine AWl.chgb (R_store_pb rfl rfl rfl (.tmp rfl fun _ => rfl) (.tmp rfl fun _ => rfl) rfl ty35 rfl rfl rfl (by kernel_rfl) rfl) ?_
      refine AWl.le (σ' := ⟨_, [(0, _), (2, _), (3, _), (4, _), (5, _), (6, _), (7, _), (8, _), (9, _), (10, _), (11, _)], [(2, _), (2900, _), (3400, _), (11, _)]⟩) (Le.sub0 rfl ⟨rfl, rfl, rfl, rfl, rfl, rfl, rfl, rfl, rfl, rfl, rfl, trivial⟩ ⟨rfl, rfl, rfl, rfl, trivial⟩) ?_
      refine AWl.put (R_assign rfl (.no rfl) rfl (.const rfl)) rfl ?_
      refine AWl.nil ?_
      refine AW.ret ?_
      refine Res.many rfl (.cell rfl rfl ty35 rfl rfl (.tmp rfl .nil)) rfl ?_ (by simp)
      rw [pd_yes hff hfp h51]; rfl
theorem implParseDelta (s : ByteArray) (hz : s.size ≤ 1048576) : FnT Tryd.prog 13 [.one (.v (.string s))] (.tup [.agg (cDelta (parseD s.data.toList).1), .one (.v (.bool (parseD s.data.toList).2))]) := by
  have := implParseDeltaL s.data.toList (by rw [← bs_size, bs_of]; omega)
  rw [bs_of] at this; exact this
theorem specParseDeltaL (l : List UInt8) (hz : l.length ≤ 2000000) : FnT Tryd.prog 12 [.one (.v (.string (bs l)))] (.tup [.agg (cDelta (parseD l).1), .one (.v (.bool (parseD l).2))]) := by
  have hp1 : ∀ i, FnT Tryd.prog 40 [.one (.v (.string ((bs l).extract 1 i)))] (.tup [.one (.sl 2 ((parseP ((l.take i).drop 1)).1.map cPair)), .one (.v (.bool (parseP ((l.take i).drop 1)).2))]) := fun i => by
    rw [bs_extract]
    exact specParsePairs _ (by rw [List.length_drop, List.length_take]; omega)
  have hp2 : ∀ i, FnT Tryd.prog 40 [.one (.v (.string ((bs l).extract i (bs l).size)))] (.tup [.one (.sl 2 ((parseP (l.drop i)).1.map cPair)), .one (.v (.bool (parseP (l.drop i)).2))]) := fun i => by
    rw [extn]
    exact specParsePairs _ (by rw [List.length_drop]; omega)
  refine FnT.walk Tryd.func12 rfl (by kernel_rfl) Tryd.ntmps12 rfl fun hlen w0 => ?_
  try simp [cPair, cToken, cExpr, cEdge, cGraph, cStep, cWalk, cChange, cBatch, cHistory, cPositions, cAutomaton, cProductStep, cPathAtom, cConjunction, cView, cDelta, cRegistered, cRegistry] at hlen
  have hsz := bs_size l
  refine AW.seq ?_
  refine AW.region ?_
  refine AWl.add (R_alloc 2 rfl rfl rfl in35 rfl rfl rfl) rfl ?_
  refine AWl.put (R_assign rfl (.no rfl) rfl (.const rfl)) rfl ?_
  refine AWl.nil ?_
  refine AW.seq ?_
  refine AW.seq ?_
  refine AW.region ?_
  refine AWl.put (R_assign rfl (.no rfl) rfl (.const rfl)) rfl ?_
  refine AWl.nil ?_
  refine AW.block ?_
  refine AW.loop1 (fun (i : Nat) => (1 ≤ i ∧ (i ≤ l.length ∨ i = 1) ∧ (∀ j, 1 ≤ j → j < i → Lib.occAt l [32, 45] j = false)) ∧ True) (fun (i : Nat) => ⟨_, [(4, (true, .a (.one (.t (.v (.int .i64 i)))))), (0, _), (2, _)], [(2, .box [.t (.v (.slice none 0 0)), .t (.v (.slice none 0 0))])]⟩) (fun (i : Nat) => l.length - i) (1) ⟨⟨by omega, .inr rfl, fun j h1 h2 => by omega⟩, trivial⟩ (Le.sub0 rfl ⟨rfl, rfl, rfl, trivial⟩ ⟨rfl, trivial⟩) ?_
  rintro i ⟨hk, he⟩
  refine AW.seq ?_
  refine AW.seq ?_
  refine AW.region ?_
  refine AWl.put (R_move rfl (.no rfl) rfl (.tmp rfl fun _ => rfl)) rfl ?_
  refine AWl.put (R_add rfl (.no rfl) rfl (.tmp rfl fun _ => rfl) (.const rfl) (fun _ => by omega)) rfl ?_
  refine AWl.put (R_move rfl (.no rfl) rfl (.tmp rfl fun _ => rfl)) rfl ?_
  refine AWl.put (R_len_s rfl (.no rfl) rfl (.tmp rfl fun _ => rfl) Tryd.underlying9) rfl ?_
  refine AWl.put (R_lt rfl (.no rfl) rfl (.tmp rfl fun _ => rfl) (.tmp rfl fun _ => rfl)) rfl ?_
  refine AWl.nil ?_
  refine AW.cond (.tmp rfl fun _ => rfl) (fun h14 => ?_) (fun h14 => ?_)
  · skip
    try simp at h14
    obtain ⟨b0, hb0⟩ : ∃ ξ, l[0]? = some ξ := ⟨_, List.getElem?_eq_getElem (by omega)⟩
    obtain ⟨b1, hb1⟩ : ∃ ξ, l[i]? = some ξ := ⟨_, List.getElem?_eq_getElem (by omega)⟩
    obtain ⟨b2, hb2⟩ : ∃ ξ, l[i + 1]? = some ξ := ⟨_, List.getElem?_eq_getElem (by omega)⟩
    refine AW.skip ?_
    refine AW.seq ?_
    refine AW.block ?_
    refine AW.seq ?_
    refine AW.region ?_
    refine AWl.put (R_move rfl (.no rfl) rfl (.tmp rfl fun _ => rfl)) rfl ?_
    refine AWl.put (R_move rfl (.no rfl) rfl (.tmp rfl fun _ => rfl)) rfl ?_
    refine AWl.put (R_strIndex rfl (.no rfl) rfl (.tmp rfl fun _ => rfl) (.tmp rfl fun _ => rfl) Tryd.underlying9 (fun _ => ⟨by omega, (by rw [Int.toNat_natCast, bs_get]; exact hb1)⟩)) rfl ?_
    refine AWl.put (R_eq rfl (.no rfl) rfl (.tmp rfl fun _ => rfl) (.const rfl)) rfl ?_
    refine AWl.put (R_move rfl (.no rfl) rfl (.tmp rfl fun _ => rfl)) rfl ?_
    refine AWl.put (R_move rfl (by first | exact .yes1 rfl rfl rfl rfl | exact .yes rfl rfl rfl rfl) rfl (.tmp rfl (by first | exact fun _ => rfl | exact id | simp))) rfl ?_
    refine AWl.put (R_move rfl (by first | exact .yes1 rfl rfl rfl rfl | exact .yes rfl rfl rfl rfl) rfl (.tmp rfl (by first | exact fun _ => rfl | exact id | simp))) rfl ?_
    refine AWl.put (R_add rfl (by first | exact .yes1 rfl rfl rfl rfl | exact .yes rfl rfl rfl rfl) rfl (.tmp rfl (by first | exact fun _ => rfl | exact id | simp)) (.const rfl) (fun hq => by first | omega | (simp at hq; omega))) rfl ?_
    refine AWl.put (R_strIndex rfl (by first | exact .yes1 rfl rfl rfl rfl | exact .yes rfl rfl rfl rfl) rfl (.tmp rfl (by first | exact fun _ => rfl | exact id | simp)) (.tmp rfl (by first | exact fun _ => rfl | exact id | simp)) Tryd.underlying9 (fun _ => ⟨by omega, (by rw [show ((i : Int) + 1).toNat = i + 1 by omega, bs_get]; exact hb2)⟩)) rfl ?_
    refine AWl.put (R_eq rfl (by first | exact .yes1 rfl rfl rfl rfl | exact .yes rfl rfl rfl rfl) rfl (.tmp rfl (by first | exact fun _ => rfl | exact id | simp)) (.const rfl)) rfl ?_
    refine AWl.put (R_and rfl (.no rfl) rfl (.tmp rfl fun _ => rfl) (.tmp rfl (by first | exact fun _ => rfl | exact id | simp))) rfl ?_
    refine AWl.nil ?_
    refine AW.cond (.tmp rfl fun _ => rfl) (fun h27 => ?_) (fun h27 => ?_)
    · skip
      try simp at h27
      have ho : Lib.occAt l [32, 45] i = true := (occ2.2 (by rw [hb1, hb2]; exact ⟨congrArg some (UInt8.toNat_inj.1 (show b1.toNat = 32 by omega)), congrArg some (UInt8.toNat_inj.1 (show b2.toNat = 45 by omega))⟩))
      refine AW.seq ?_
      refine AW.le (σ' := ⟨_, [(0, _), (2, _), (4, _)], [(2, _)]⟩) (Le.sub0 rfl ⟨rfl, rfl, rfl, trivial⟩ ⟨rfl, trivial⟩) ?_
      refine AW.region ?_
      refine AWl.put (R_move rfl (.no rfl) rfl (.tmp rfl fun _ => rfl)) rfl ?_
      refine AWl.put (R_move rfl (.no rfl) rfl (.tmp rfl fun _ => rfl)) rfl ?_
      refine AWl.put (R_strSlice (n := 1) (m := i) rfl (.no rfl) rfl (.tmp rfl fun _ => rfl) (.yes (.const rfl) (fun _ => by first | omega | (simp <;> omega))) (.yes (.tmp rfl fun _ => rfl) (fun _ => by first | omega | (simp <;> omega))) Tryd.underlying9 (fun _ => ⟨by omega, by first | omega | (simp; omega)⟩)) rfl ?_
      refine AWl.adds (R_call 3200 (hp1 i) rfl rfl rfl (.cons (.tmp rfl fun _ => rfl) rfl .nil) rfl rfl) rfl ?_
      refine AWl.put (R_movet rfl (.no rfl) rfl rfl fun _ => rfl) rfl ?_
      refine AWl.put (R_extract rfl (.no rfl) rfl rfl (fun _ => rfl) rfl) rfl ?_
      refine AWl.put (R_extract rfl (.no rfl) rfl rfl (fun _ => rfl) rfl) rfl ?_
      refine AWl.put (R_assign rfl (.no rfl) rfl (.tmp rfl fun _ => rfl)) rfl ?_
      refine AWl.put (R_assign rfl (.no rfl) rfl (.tmp rfl fun _ => rfl)) rfl ?_
      refine AWl.nil ?_
      refine AW.seq ?_
      refine AW.le (σ' := ⟨_, [(0, _), (2, _), (4, _), (5, _), (6, _)], [(2, _), (3200, _)]⟩) (Le.sub0 rfl ⟨rfl, rfl, rfl, rfl, rfl, trivial⟩ ⟨rfl, rfl, trivial⟩) ?_
      refine AW.region ?_
      refine AWl.put (R_move rfl (.no rfl) rfl (.tmp rfl fun _ => rfl)) rfl ?_
      refine AWl.put (R_move rfl (.no rfl) rfl (.tmp rfl fun _ => rfl)) rfl ?_
      refine AWl.put (R_add rfl (.no rfl) rfl (.tmp rfl fun _ => rfl) (.const rfl) (fun _ => by omega)) rfl ?_
      refine AWl.put (R_strSlice (n := i + 2) rfl (.no rfl) rfl (.tmp rfl fun _ => rfl) (.yes (.tmp rfl fun _ => rfl) (fun _ => by first | omega | (simp <;> omega))) .no Tryd.underlying9 (fun _ => ⟨by omega, by first | omega | (simp; omega)⟩)) rfl ?_
      refine AWl.adds (R_call 4000 (hp2 (i + 2)) rfl rfl rfl (.cons (.tmp rfl fun _ => rfl) rfl .nil) rfl rfl) rfl ?_
      refine AWl.put (R_movet rfl (.no rfl) rfl rfl fun _ => rfl) rfl ?_
      refine AWl.put (R_extract rfl (.no rfl) rfl rfl (fun _ => rfl) rfl) rfl ?_
      refine AWl.put (R_extract rfl (.no rfl) rfl rfl (fun _ => rfl) rfl) rfl ?_
      refine AWl.put (R_assign rfl (.no rfl) rfl (.tmp rfl fun _ => rfl)) rfl ?_
      refine AWl.put (R_assign rfl (.no rfl) rfl (.tmp rfl fun _ => rfl)) rfl ?_
      refine AWl.nil ?_
      refine AW.seq ?_
      refine AW.le (σ' := ⟨_, [(0, _), (2, _), (4, _), (5, _), (6, _), (7, _), (8, _)], [(2, _), (3200, _), (4000, _)]⟩) (Le.sub0 rfl ⟨rfl, rfl, rfl, rfl, rfl, rfl, rfl, trivial⟩ ⟨rfl, rfl, rfl, trivial⟩) ?_
      refine AW.region ?_
      refine AWl.put (R_move rfl (.no rfl) rfl (.tmp rfl fun _ => rfl)) rfl ?_
      refine AWl.put (R_move rfl (.no rfl) rfl (.tmp rfl fun _ => rfl)) rfl ?_
      refine AWl.put (R_build (ps := [(0, .tmp 43), (1, .tmp 44)]) rfl rfl rfl in35 rfl rfl st35 (.cons (.tmp rfl fun _ => rfl) rfl rfl fp35_0 (.cons (.tmp rfl fun _ => rfl) rfl rfl fp35_1 .nil)) rfl) rfl ?_
      refine AWl.add (R_alloc 9 rfl rfl rfl in35 rfl rfl rfl) rfl ?_
      refine AWl.chgb (R_store_pb rfl rfl rfl (.tmp rfl fun _ => rfl) (.tmp rfl fun _ => rfl) rfl ty35 rfl rfl rfl (by kernel_rfl) rfl) ?_
      refine AWl.nil ?_
      refine AW.seq ?_
      refine AW.seq ?_
      refine AW.region ?_
      refine AWl.put (R_move rfl (.no rfl) rfl (.tmp rfl fun _ => rfl)) rfl ?_
      refine AWl.put (R_strIndex rfl (.no rfl) rfl (.tmp rfl fun _ => rfl) (.const rfl) Tryd.underlying9 (fun _ => ⟨by omega, (by rw [bs_get]; exact hb0)⟩)) rfl ?_
      refine AWl.put (R_eq rfl (.no rfl) rfl (.tmp rfl fun _ => rfl) (.const rfl)) rfl ?_
      refine AWl.put (R_move rfl (.no rfl) rfl (.tmp rfl fun _ => rfl)) rfl ?_
      refine AWl.put (R_move rfl (by first | exact .yes1 rfl rfl rfl rfl | exact .yes rfl rfl rfl rfl) rfl (.tmp rfl (by first | exact fun _ => rfl | exact id | simp))) rfl ?_
      refine AWl.put (R_and rfl (.no rfl) rfl (.tmp rfl fun _ => rfl) (.tmp rfl (by first | exact fun _ => rfl | exact id | simp))) rfl ?_
      refine AWl.put (R_move rfl (.no rfl) rfl (.tmp rfl fun _ => rfl)) rfl ?_
      refine AWl.put (R_move rfl (by first | exact .yes1 rfl rfl rfl rfl | exact .yes rfl rfl rfl rfl) rfl (.tmp rfl (by first | exact fun _ => rfl | exact id | simp))) rfl ?_
      refine AWl.put (R_and rfl (.no rfl) rfl (.tmp rfl fun _ => rfl) (.tmp rfl (by first | exact fun _ => rfl | exact id | simp))) rfl ?_
      refine AWl.put (R_move rfl (.no rfl) rfl (.tmp rfl fun _ => rfl)) rfl ?_
      refine AWl.put ((by first | exact R_load rfl (by first | exact .yes1 rfl rfl rfl rfl | exact .yes rfl rfl rfl rfl) rfl (.tmp rfl (by first | exact fun _ => rfl | exact id | simp)) ty35 rfl rfl | exact R_load_pp rfl (by first | exact .yes1 rfl rfl rfl rfl | exact .yes rfl rfl rfl rfl) rfl (.tmp rfl (by first | exact fun _ => rfl | exact id | simp)) rfl ty35 rfl rfl | exact R_load_vw rfl (by first | exact .yes1 rfl rfl rfl rfl | exact .yes rfl rfl rfl rfl) rfl (.tmp rfl (by first | exact fun _ => rfl | exact id | simp)) ty35 rfl rfl | exact R_load_pr rfl (by first | exact .yes1 rfl rfl rfl rfl | exact .yes rfl rfl rfl rfl) rfl (.tmp rfl (by first | exact fun _ => rfl | exact id | simp)) rfl (by first | assumption | exact map_get (by assumption)) ty35 rfl rfl)) rfl ?_
      refine AWl.put (R_callz (FnT.fr (specIsDelta ⟨(parseP ((l.take i).drop 1)).1, (parseP (l.drop (i + 2))).1⟩)) rfl (by first | exact .yes1 rfl rfl rfl rfl | exact .yes rfl rfl rfl rfl) rfl (.cons (.tmp rfl (by first | exact fun _ => rfl | exact id | simp)) rfl .nil)) rfl ?_
      refine AWl.put (R_and rfl (.no rfl) rfl (.tmp rfl fun _ => rfl) (.tmp rfl (by first | exact fun _ => rfl | exact id | simp))) rfl ?_
      refine AWl.nil ?_
      refine AW.cond (.tmp rfl fun _ => rfl) (fun h58 => ?_) (fun h58 => ?_)
      · skip
        try simp at h58
        refine AW.seq ?_
        refine AW.le (σ' := ⟨_, [(0, _), (2, _), (4, _), (5, _), (6, _), (7, _), (8, _), (9, _)], [(2, _), (3200, _), (4000, _), (9, _)]⟩) (Le.sub0 rfl ⟨rfl, rfl, rfl, rfl, rfl, rfl, rfl, rfl, trivial⟩ ⟨rfl, rfl, rfl, rfl, trivial⟩) ?_
        refine AW.region ?_
        refine AWl.put ((by first | exact R_load rfl (.no rfl) rfl (.tmp rfl fun _ => rfl) ty35 rfl rfl | exact R_load_pp rfl (.no rfl) rfl (.tmp rfl fun _ => rfl) rfl ty35 rfl rfl | exact R_load_vw rfl (.no rfl) rfl (.tmp rfl fun _ => rfl) ty35 rfl rfl | exact R_load_pr rfl (.no rfl) rfl (.tmp rfl fun _ => rfl) rfl (by first | assumption | exact map_get (by assumption)) ty35 rfl rfl)) rfl ?_
        refine AWl.chgb (R_store_pb rfl rfl rfl (.tmp rfl fun _ => rfl) (.tmp rfl fun _ => rfl) rfl ty35 rfl rfl rfl (by kernel_rfl) rfl) ?_
        refine AWl.le (σ' := ⟨_, [(0, _), (2, _), (4, _), (5, _), (6, _), (7, _), (8, _), (9, _)], [(2, _), (3200, _), (4000, _), (9, _)]⟩) (Le.sub0 rfl ⟨rfl, rfl, rfl, rfl, rfl, rfl, rfl, rfl, trivial⟩ ⟨rfl, rfl, rfl, rfl, trivial⟩) ?_
        refine AWl.put (R_assign rfl (.no rfl) rfl (.const rfl)) rfl ?_
        refine AWl.nil ?_
        refine AW.ret ?_
        refine Res.many rfl (.cell rfl rfl ty35 rfl rfl (.tmp rfl .nil)) rfl ?_ (by simp)
        rw [spec_at hk.1 ho hk.2.2 hb0, if_pos (ps_yes h58)]; rfl
      · skip
        try simp at h58
        refine AW.skip ?_
        refine AW.seq ?_
        refine AW.le (σ' := ⟨_, [(0, _), (2, _), (4, _), (5, _), (6, _), (7, _), (8, _), (9, _)], [(2, _), (3200, _), (4000, _), (9, _)]⟩) (Le.sub0 rfl ⟨rfl, rfl, rfl, rfl, rfl, rfl, rfl, rfl, trivial⟩ ⟨rfl, rfl, rfl, rfl, trivial⟩) ?_
        refine AW.region ?_
        refine AWl.put (R_build (ps := []) rfl rfl rfl in35 rfl rfl st35 .nil rfl) rfl ?_
        refine AWl.nilA (i := 60) 20001 2 0 rfl rfl rfl ?_
        refine AWl.nilA (i := 60) 20002 2 1 rfl rfl rfl ?_
        refine AWl.chgb (R_store_pb rfl rfl rfl (.tmp rfl fun _ => rfl) (.tmp rfl fun _ => rfl) rfl ty35 rfl rfl rfl (by kernel_rfl) rfl) ?_
        refine AWl.le (σ' := ⟨_, [(0, _), (2, _), (4, _), (5, _), (6, _), (7, _), (8, _), (9, _)], [(2, _), (3200, _), (4000, _), (9, _), (20001, _), (20002, _)]⟩) (Le.sub0 rfl ⟨rfl, rfl, rfl, rfl, rfl, rfl, rfl, rfl, trivial⟩ ⟨rfl, rfl, rfl, rfl, rfl, rfl, trivial⟩) ?_
        refine AWl.put (R_assign rfl (.no rfl) rfl (.const rfl)) rfl ?_
        refine AWl.nil ?_
        refine AW.ret ?_
        refine Res.many rfl (.cell rfl rfl ty35 rfl rfl (.tmp rfl .nil)) rfl ?_ (by simp)
        rw [spec_at hk.1 ho hk.2.2 hb0, if_neg (ps_no h58)]; rfl
    · skip
      try simp at h27
      have hno : Lib.occAt l [32, 45] i = false := (Bool.eq_false_iff.2 fun hh => by obtain ⟨g1, g2⟩ := occ2.1 hh; rw [hb1] at g1; rw [hb2] at g2; cases g1; cases g2; simp at h27)
      refine AW.skip ?_
      refine AW.le (σ' := ⟨_, [(0, _), (2, _), (4, _)], [(2, _)]⟩) (Le.sub0 rfl ⟨rfl, rfl, rfl, trivial⟩ ⟨rfl, trivial⟩) ?_
      refine AW.region ?_
      refine AWl.put (R_move rfl (.no rfl) rfl (.tmp rfl fun _ => rfl)) rfl ?_
      refine AWl.put (R_add rfl (.no rfl) rfl (.tmp rfl fun _ => rfl) (.const rfl) (fun _ => by omega)) rfl ?_
      refine AWl.put (R_assign rfl (.no rfl) rfl (.tmp rfl fun _ => rfl)) rfl ?_
      refine AWl.nil ?_
      repeat (with_reducible refine BlockQ.nor ?_)
      refine Round1.next (i + 1) ⟨⟨by omega, .inl (by omega), fun j h1 h2 => (by by_cases e : j = i; subst e; exact hno; exact hk.2.2 j h1 (by omega))⟩, trivial⟩ (by omega) (Le.sub0 rfl ⟨rfl, rfl, rfl, trivial⟩ ⟨(by first | rfl | (refine congrArg (fun r => some (R.row _ r)) ?_; simp [chunk, List.map_set, cInt, cBool, cIntS, cPair, cToken, cExpr, cEdge, cGraph, cStep, cWalk, cChange, cBatch, cHistory, cPositions, cAutomaton, cProductStep, cPathAtom, cConjunction, cView, cDelta, cRegistered, cRegistry])), trivial⟩)
  · skip
    try simp at h14
    refine AW.exit ?_
    refine AW.seq ?_
    refine AW.region ?_
    refine AWl.put (R_build (ps := []) rfl rfl rfl in35 rfl rfl st35 .nil rfl) rfl ?_
    refine AWl.nilA (i := 61) 20003 2 0 rfl rfl rfl ?_
    refine AWl.nilA (i := 61) 20004 2 1 rfl rfl rfl ?_
    refine AWl.chgb (R_store_pb rfl rfl rfl (.tmp rfl fun _ => rfl) (.tmp rfl fun _ => rfl) rfl ty35 rfl rfl rfl (by kernel_rfl) rfl) ?_
    refine AWl.le (σ' := ⟨_, [(0, _), (2, _), (4, _), (14, _)], [(2, _), (20003, _), (20004, _)]⟩) (Le.sub0 rfl ⟨rfl, rfl, rfl, rfl, trivial⟩ ⟨rfl, rfl, rfl, trivial⟩) ?_
    refine AWl.put (R_assign rfl (.no rfl) rfl (.const rfl)) rfl ?_
    refine AWl.nil ?_
    refine AW.ret ?_
    refine Res.many rfl (.cell rfl rfl ty35 rfl rfl (.tmp rfl .nil)) rfl ?_ (by simp)
    rw [spec_none fun j h1 h2 => hk.2.2 j h1 (by omega)]; rfl
theorem specParseDelta (s : ByteArray) (hz : s.size ≤ 1048576) : FnT Tryd.prog 12 [.one (.v (.string s))] (.tup [.agg (cDelta (parseD s.data.toList).1), .one (.v (.bool (parseD s.data.toList).2))]) := by
  have := specParseDeltaL s.data.toList (by rw [← bs_size, bs_of]; omega)
  rw [bs_of] at this; exact this
end Go.Proofs.YtibjbmjgmfiecaaDoor
