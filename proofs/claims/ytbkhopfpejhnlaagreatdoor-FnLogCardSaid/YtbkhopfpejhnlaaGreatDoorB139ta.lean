import Derived.Test.YtbkhopfpejhnlaaGreatDoorB136ta
set_option linter.unusedVariables false
set_option linter.unusedSimpArgs false
set_option maxHeartbeats 1000000
set_option maxRecDepth 100000
namespace Go.Q
open Go.RowKit Go.D
end Go.Q
namespace Go.Proofs.YtbkhopfpejhnlaaGreatDoor
open Go.RowKit Go.Q Go.D
set_option maxRecDepth 100000 in
theorem specl1Spoil (s : ByteArray) (hs : s.size ≤ 1000000) : FnD Tryz.prog 69 [.one (.v (.string s))] (fun t : ByteArray => t.size ≤ s.size + 3) (fun t => .a (.one (.v (.string t)))) := by
 refine FnD.walk Tryz.func69 U (by kernel_rfl) Tryz.ntmps69 U (fun g => rfl) fun w0 g => ?_
 refine AW.sr ?_
 refine AWl.ac ?_
 refine AWl.nil (AW.seq ?_)
 refine AW.sr ?_
 refine AWl.mv ?_
 refine AWl.p (R_len_s U (.no U) U (.tm U) Tryz.underlying9) U ?_
 refine AWl.p (R_eq U (.no U) U (.tm U) (.const U)) U ?_
 refine AWl.nil ?_
 refine AW.cond (.tm U) (fun h8 => ?_) (fun h8 => ?_)
 · skip
   try simp at h8
   refine AW.sr ?_
   refine AWl.mv ?_
   refine AWl.opE (R_calld 1000 (specl1Text 3 (by omega)) U U U (.tm U) U U (.cons (.const U) U .nil) (fun _ => rfl) (fun _ => rfl)) ?_
   rintro _ ⟨z10, hz10, rfl⟩
   try dsimp only at hz10
   refine AWl.av ?_
   refine AWl.nil (AW.ret ?_)
   apply DRes.mk rfl
   case h =>
    refine Res.one U (.tmp U .nil) U ?_
    rfl
   case hp => exact (by omega)
 · skip
   try simp at h8
   have h8b : 0 < s.size := Nat.pos_of_ne_zero fun e => h8 (by exact ByteArray.size_eq_zero_iff.1 e)
   refine AW.skip ?_
   refine AW.sr ?_
   refine AWl.mv ?_
   refine AWl.mv ?_
   refine AWl.p (R_len_s U (.no U) U (.tm U) Tryz.underlying9) U ?_
   refine AWl.opE (R_calld 1400 (specl1Below _) U U U (.tm U) U U (.cons (.tm U) U .nil) (fun _ => rfl) (fun _ => rfl)) ?_
   rintro _ ⟨z14, hz14, rfl⟩
   try dsimp only at hz14
   refine AWl.av ?_
   refine AWl.nil (AW.seq ?_)
   refine AW.seq ?_
   refine AW.le (σ' := ⟨_, [(0, _), (1, _), (4, _), (5, _)], [(888888, _)]⟩) (Le.sub0 U ⟨U, U, U, U, Y⟩ ⟨U, Y⟩) ?_
   refine AW.region ?_
   refine AWl.mv ?_
   refine AWl.opE (R_calld 1600 (specl1Below _) U U U (.tm U) U U (.cons (.const U) U .nil) (fun _ => rfl) (fun _ => rfl)) ?_
   rintro _ ⟨z16, hz16, rfl⟩
   try dsimp only at hz16
   refine AWl.nil (AW.block ?_)
   refine AW.sr ?_
   refine AWl.p (R_eq U (.no U) U (.tm U) (.const U)) U ?_
   refine AWl.av ?_
   refine AWl.nil ?_
   refine AW.cond (.tm U) (fun h17 => ?_) (fun h17 => ?_)
   · skip
     try simp at h17
     have hb : 0 ≤ z14 ∧ z14 < (s.size : Int) := by ((try simp at hz14); omega)
     refine AW.seq ?_
     refine AW.drawn 9 (nthB [[], [], [0, 1], [], [], [4], [3, 4, 5], [0, 1, 2, 3, 4, 5, 6], [0, 1, 2, 3, 4, 5, 6, 7]]) (by kernel_rfl) (by kernel_rfl) (by kernel_rfl) ?_
     refine DrawC.step U U U (Loc.of U fun σ' hs => R_move U (.no U) (hd_sup hs U) (.tm (hs.slots _ _ U))) ?_
     refine DrawC.step U U U (Loc.of U fun σ' hs => R_move U (.no U) (hd_sup hs U) (.tm (hs.slots _ _ U))) ?_
     refine DrawC.step U U U (Loc.of U fun σ' hs => R_strSlice (m := z14.toNat) U (.no U) (hd_sup hs U) (.tm (hs.slots _ _ U)) .no (.yes (.tm (hs.slots _ _ U)) (fun _ => by first | omega | (simp <;> omega))) Tryz.underlying9 (fun _ => ⟨by omega, by first | omega | (simp; omega)⟩)) ?_
     refine DrawC.step U U U (Loc.of U fun σ' hs => R_move U (.no U) (hd_sup hs U) (.tm (hs.slots _ _ U))) ?_
     refine DrawC.step U U U (Loc.of U fun σ' hs => R_move U (.no U) (hd_sup hs U) (.tm (hs.slots _ _ U))) ?_
     refine DrawC.step U U U (Loc.of U fun σ' hs => R_add U (.no U) (hd_sup hs U) (.tm (hs.slots _ _ U)) (.const U) (fun _ => by omega)) ?_
     refine DrawC.step U U U (Loc.of U fun σ' hs => R_strSlice (n := z14.toNat + 1) U (.no U) (hd_sup hs U) (.tm (hs.slots _ _ U)) (.yes (.tm (hs.slots _ _ U)) (fun _ => by first | omega | (simp <;> omega))) .no Tryz.underlying9 (fun _ => ⟨by omega, by first | omega | (simp; omega)⟩)) ?_
     refine DrawC.step U U U (Loc.of U fun σ' hs => R_cat U (.no U) (hd_sup hs U) (.tm (hs.slots _ _ U)) (.tm (hs.slots _ _ U)) (fun _ => by simp only [ByteArray.size_append, ByteArray.size_extract, strOfNums_size, List.length_cons, List.length_nil]; omega)) ?_
     refine DrawC.step U U U (Loc.of U fun σ' hs => R_assign U (.no U) (hd_sup hs U) (.tm (hs.slots _ _ U))) ?_
     refine DrawC.fin U U ?_
     refine AWl.nil (AW.ret ?_)
     apply DRes.mk rfl
     case h =>
      refine Res.one U (.tmp U .nil) U ?_
      rfl
     case hp => exact (by simp only [ByteArray.size_append, ByteArray.size_extract, strOfNums_size, List.length_cons, List.length_nil]; omega)
   · skip
     try simp at h17
     have hb : 0 ≤ z14 ∧ z14 < (s.size : Int) := by ((try simp at hz14); omega)
     refine AW.sr ?_
     refine AWl.p (R_eq U (.no U) U (.tm U) (.const U)) U ?_
     refine AWl.av ?_
     refine AWl.nil ?_
     refine AW.cond (.tm U) (fun h27 => ?_) (fun h27 => ?_)
     · skip
       try simp at h27
       refine AW.seq ?_
       refine AW.drawnZ 14 888888 (nthB [[], [], [0, 1], [], [3], [3, 4], [3, 4, 5], [3, 4, 5, 6], [0, 1, 2, 3, 4, 5, 6, 7], [], [], [9, 10], [0, 1, 2, 3, 4, 5, 6, 7, 8, 9, 10, 11], [0, 1, 2, 3, 4, 5, 6, 7, 8, 9, 10, 11, 12]]) (by kernel_rfl) (by kernel_rfl) (by kernel_rfl) U ?_
       refine DrawZ.pure U U U (fun ζ8 hp => by exact Loc.of U fun σ' hs => R_move U (.no U) (hd_sup hs U) (.tm (hs.slots _ _ U))) (fun _ => rfl) (fun _ _ _ => rfl) ?_
       refine DrawZ.pure U U U (fun ζ8 hp => by exact Loc.of U fun σ' hs => R_move U (.no U) (hd_sup hs U) (.tm (hs.slots _ _ U))) (fun _ => rfl) (fun _ _ _ => rfl) ?_
       refine DrawZ.pure U U U (fun ζ8 hp => by exact Loc.of U fun σ' hs => R_strSlice (m := z14.toNat) U (.no U) (hd_sup hs U) (.tm (hs.slots _ _ U)) .no (.yes (.tm (hs.slots _ _ U)) (fun _ => by first | omega | (simp <;> omega))) Tryz.underlying9 (fun _ => ⟨by omega, by first | omega | (simp; omega)⟩)) (fun _ => rfl) (fun _ _ _ => rfl) ?_
       refine DrawZ.pure U U U (fun ζ8 hp => by exact Loc.of U fun σ' hs => R_move U (.no U) (hd_sup hs U) (.tm (hs.slots _ _ U))) (fun _ => rfl) (fun _ _ _ => rfl) ?_
       refine DrawZ.draw U U U (fun ζ8 hp σ' hs hv => by exact R_calld 3300 (specl1Byte) U U (hd_sup hs U) (.tm (hs.slots _ _ U)) (hs.res _ _ U) hv .nil (fun _ => rfl) (fun _ => rfl)) (fun _ _ _ _ hq => hq) ?_
       refine DrawZ.pure U U U (fun ζ8 hp => by obtain ⟨⟨_, _⟩, hz33⟩ := hp; (try dsimp only at hz33); exact Loc.of U fun σ' hs => R_conv U (.no U) (hd_sup hs U) (.tm (hs.slots _ _ U)) (by rw [Tryz.underlying3]; rfl) Tryz.underlying5 (fun _ => rfl)) (fun _ => rfl) (by intro ζ ζ' h; first | rfl | (simp only [h 4 U])) ?_
       refine DrawZ.pure U U U (fun ζ8 hp => by obtain ⟨⟨⟨_, _⟩, hz33⟩, _⟩ := hp; (try dsimp only at hz33); exact Loc.of1 U fun σ' hs hf => R_list (xs := [.tmp 34]) 35 U U (hd_sup hs U) (.cons (.tm (hs.slots _ _ U)) U U .nil) Tryz.underlying22 in5 U U U hf) (fun _ => rfl) (by intro ζ ζ' h; first | rfl | (simp only [h 4 U])) ?_
       refine DrawZ.pure U U U (fun ζ8 hp => by obtain ⟨⟨⟨⟨_, _⟩, hz33⟩, _⟩, _⟩ := hp; (try dsimp only at hz33); exact Loc.of U fun σ' hs => R_rowStr1 U (.no U) (hd_sup hs U) (.tm (hs.slots _ _ U)) (hs.res _ _ U) Tryz.underlying22 Tryz.underlying5 Tryz.underlying9) (fun _ => rfl) (by intro ζ ζ' h; first | rfl | (simp only [h 4 U])) ?_
       refine DrawZ.pure U U U (fun ζ8 hp => by obtain ⟨⟨⟨⟨⟨⟨⟨⟨_, _⟩, _⟩, _⟩, _⟩, hz33⟩, _⟩, _⟩, _⟩ := hp; (try dsimp only at hz33); exact Loc.of U fun σ' hs => R_cat U (.no U) (hd_sup hs U) (.tm (hs.slots _ _ U)) (.tm (hs.slots _ _ U)) (fun _ => by simp only [ByteArray.size_append, ByteArray.size_extract, strOfNums_size, List.length_cons, List.length_nil]; omega)) (fun _ => rfl) (by intro ζ ζ' h; first | rfl | (simp only [h 4 U])) ?_
       refine DrawZ.pure U U U (fun ζ8 hp => by exact Loc.of U fun σ' hs => R_move U (.no U) (hd_sup hs U) (.tm (hs.slots _ _ U))) (fun _ => rfl) (fun _ _ _ => rfl) ?_
       refine DrawZ.pure U U U (fun ζ8 hp => by exact Loc.of U fun σ' hs => R_move U (.no U) (hd_sup hs U) (.tm (hs.slots _ _ U))) (fun _ => rfl) (fun _ _ _ => rfl) ?_
       refine DrawZ.pure U U U (fun ζ8 hp => by exact Loc.of U fun σ' hs => R_strSlice (n := z14.toNat) U (.no U) (hd_sup hs U) (.tm (hs.slots _ _ U)) (.yes (.tm (hs.slots _ _ U)) (fun _ => by first | omega | (simp <;> omega))) .no Tryz.underlying9 (fun _ => ⟨by omega, by first | omega | (simp; omega)⟩)) (fun _ => rfl) (fun _ _ _ => rfl) ?_
       refine DrawZ.pure U U U (fun ζ8 hp => by obtain ⟨⟨⟨⟨⟨⟨⟨⟨⟨⟨⟨⟨_, _⟩, _⟩, _⟩, _⟩, hz33⟩, _⟩, _⟩, _⟩, _⟩, _⟩, _⟩, _⟩ := hp; (try dsimp only at hz33); exact Loc.of U fun σ' hs => R_cat U (.no U) (hd_sup hs U) (.tm (hs.slots _ _ U)) (.tm (hs.slots _ _ U)) (fun _ => by simp only [ByteArray.size_append, ByteArray.size_extract, strOfNums_size, List.length_cons, List.length_nil]; omega)) (fun _ => rfl) (by intro ζ ζ' h; first | rfl | (simp only [h 4 U])) ?_
       refine DrawZ.pure U U U (fun ζ8 hp => by obtain ⟨⟨⟨⟨⟨⟨⟨⟨⟨⟨⟨⟨⟨_, _⟩, _⟩, _⟩, _⟩, hz33⟩, _⟩, _⟩, _⟩, _⟩, _⟩, _⟩, _⟩, _⟩ := hp; (try dsimp only at hz33); exact Loc.of U fun σ' hs => R_assign U (.no U) (hd_sup hs U) (.tm (hs.slots _ _ U))) (fun _ => rfl) (by intro ζ ζ' h; first | rfl | (simp only [h 4 U])) ?_
       refine DrawZ.fin U (fun _ => rfl) (fun _ => rfl) ?_
       intro ζ8 hp
       obtain ⟨⟨⟨⟨⟨⟨⟨⟨⟨⟨⟨⟨⟨⟨_, _⟩, _⟩, _⟩, _⟩, hz33⟩, _⟩, _⟩, _⟩, _⟩, _⟩, _⟩, _⟩, _⟩, _⟩ := hp
       try dsimp only at hz33
       dsimp only [finSl, finRs, addsR, List.map_cons, List.map_nil]
       refine AWl.nil (AW.ret ?_)
       apply DRes.mk rfl
       case h =>
        refine Res.one U (.tmp U .nil) U ?_
        rfl
       case hp => exact (by simp only [ByteArray.size_append, ByteArray.size_extract, strOfNums_size, List.length_cons, List.length_nil]; omega)
     · skip
       try simp at h27
       refine AW.sr ?_
       refine AWl.p (R_eq U (.no U) U (.tm U) (.const U)) U ?_
       refine AWl.av ?_
       refine AWl.nil ?_
       refine AW.cond (.tm U) (fun h42 => ?_) (fun h42 => ?_)
       · skip
         try simp at h42
         refine AW.seq ?_
         refine AW.le (σ' := ⟨_, [(0, _), (1, _), (4, _), (5, _), (16, _)], [(888888, _)]⟩) (Le.sub0 U ⟨U, U, U, U, U, Y⟩ ⟨U, Y⟩) ?_
         refine AW.region ?_
         refine AWl.mv ?_
         refine AWl.mv ?_
         refine AWl.p (R_strSlice (m := z14.toNat) U (.no U) U (.tm U) .no (.yes (.tm U) (fun _ => by first | omega | (simp <;> omega))) Tryz.underlying9 (fun _ => ⟨by omega, by first | omega | (simp; omega)⟩)) U ?_
         refine AWl.av ?_
         refine AWl.nil (AW.ret ?_)
         apply DRes.mk rfl
         case h =>
          refine Res.one U (.tmp U .nil) U ?_
          rfl
         case hp => exact (by simp only [ByteArray.size_append, ByteArray.size_extract, strOfNums_size, List.length_cons, List.length_nil]; omega)
       · skip
         try simp at h42
         refine AW.skip ?_
         refine AW.seq ?_
         refine AW.le (σ' := ⟨_, [(0, _), (1, _), (4, _), (5, _), (16, _)], [(888888, _)]⟩) (Le.sub0 U ⟨U, U, U, U, U, Y⟩ ⟨U, Y⟩) ?_
         refine AW.drawnZ 21 888888 (nthB [[], [], [0, 1], [], [], [3, 4], [3, 4, 5], [], [7], [7, 8], [3, 4, 5, 6, 7, 8, 9], [3, 4, 5, 6, 7, 8, 9, 10], [3, 4, 5, 6, 7, 8, 9, 10, 11], [3, 4, 5, 6, 7, 8, 9, 10, 11, 12], [0, 1, 2, 3, 4, 5, 6, 7, 8, 9, 10, 11, 12, 13], [], [], [16], [15, 16, 17], [0, 1, 2, 3, 4, 5, 6, 7, 8, 9, 10, 11, 12, 13, 14, 15, 16, 17, 18], [0, 1, 2, 3, 4, 5, 6, 7, 8, 9, 10, 11, 12, 13, 14, 15, 16, 17, 18, 19]]) (by kernel_rfl) (by kernel_rfl) (by kernel_rfl) U ?_
         refine DrawZ.pure U U U (fun ζ11 hp => by exact Loc.of U fun σ' hs => R_move U (.no U) (hd_sup hs U) (.tm (hs.slots _ _ U))) (fun _ => rfl) (fun _ _ _ => rfl) ?_
         refine DrawZ.pure U U U (fun ζ11 hp => by exact Loc.of U fun σ' hs => R_move U (.no U) (hd_sup hs U) (.tm (hs.slots _ _ U))) (fun _ => rfl) (fun _ _ _ => rfl) ?_
         refine DrawZ.pure U U U (fun ζ11 hp => by exact Loc.of U fun σ' hs => R_strSlice (m := z14.toNat) U (.no U) (hd_sup hs U) (.tm (hs.slots _ _ U)) .no (.yes (.tm (hs.slots _ _ U)) (fun _ => by first | omega | (simp <;> omega))) Tryz.underlying9 (fun _ => ⟨by omega, by first | omega | (simp; omega)⟩)) (fun _ => rfl) (fun _ _ _ => rfl) ?_
         refine DrawZ.pure U U U (fun ζ11 hp => by exact Loc.of U fun σ' hs => R_move U (.no U) (hd_sup hs U) (.tm (hs.slots _ _ U))) (fun _ => rfl) (fun _ _ _ => rfl) ?_
         refine DrawZ.pure U U U (fun ζ11 hp => by exact Loc.of U fun σ' hs => R_move U (.no U) (hd_sup hs U) (.tm (hs.slots _ _ U))) (fun _ => rfl) (fun _ _ _ => rfl) ?_
         refine DrawZ.pure U U U (fun ζ11 hp => by exact Loc.of U fun σ' hs => R_strIndex U (.no U) (hd_sup hs U) (.tm (hs.slots _ _ U)) (.tm (hs.slots _ _ U)) Tryz.underlying9 (fun _ => ⟨hb.1, bget hb⟩)) (fun _ => rfl) (fun _ _ _ => rfl) ?_
         refine DrawZ.pure U U U (fun ζ11 hp => by exact Loc.of U fun σ' hs => R_conv U (.no U) (hd_sup hs U) (.tm (hs.slots _ _ U)) (by rw [Tryz.underlying5]; rfl) Tryz.underlying3 (fun _ => rfl)) (fun _ => rfl) (fun _ _ _ => rfl) ?_
         refine DrawZ.pure U U U (fun ζ11 hp => by exact Loc.of U fun σ' hs => R_move U (.no U) (hd_sup hs U) (.tm (hs.slots _ _ U))) (fun _ => rfl) (fun _ _ _ => rfl) ?_
         refine DrawZ.draw U U U (fun ζ11 hp σ' hs hv => by exact R_calld 5500 (specl1Below _) U U (hd_sup hs U) (.tm (hs.slots _ _ U)) (hs.res _ _ U) hv (.cons (.const U) (readDA_sup hs U) .nil) (fun _ => rfl) (fun _ => rfl)) (fun _ _ _ _ hq => hq) ?_
         refine DrawZ.pure U U U (fun ζ11 hp => by obtain ⟨⟨_, _⟩, hz55⟩ := hp; (try dsimp only at hz55); exact Loc.of U fun σ' hs => R_add U (.no U) (hd_sup hs U) (.const U) (.tm (hs.slots _ _ U)) (fun _ => by omega)) (fun _ => rfl) (by intro ζ ζ' h; first | rfl | (simp only [h 8 U])) ?_
         refine DrawZ.pure U U U (fun ζ11 hp => by obtain ⟨⟨⟨⟨⟨⟨⟨_, _⟩, _⟩, _⟩, _⟩, _⟩, hz55⟩, _⟩ := hp; (try dsimp only at hz55); exact Loc.of U fun σ' hs => R_xor U (.no U) (hd_sup hs U) (.tm (hs.slots _ _ U)) (.tm (hs.slots _ _ U))) (fun _ => rfl) (by intro ζ ζ' h; first | rfl | (simp only [h 8 U])) ?_
         refine DrawZ.pure U U U (fun ζ11 hp => by obtain ⟨⟨⟨⟨⟨⟨⟨⟨_, _⟩, _⟩, _⟩, _⟩, _⟩, hz55⟩, _⟩, _⟩ := hp; (try dsimp only at hz55); exact Loc.of U fun σ' hs => R_conv U (.no U) (hd_sup hs U) (.tm (hs.slots _ _ U)) (by rw [Tryz.underlying3]; rfl) Tryz.underlying5 (fun _ => rfl)) (fun _ => rfl) (by intro ζ ζ' h; first | rfl | (simp only [h 8 U])) ?_
         refine DrawZ.pure U U U (fun ζ11 hp => by obtain ⟨⟨⟨⟨⟨⟨⟨⟨⟨_, _⟩, _⟩, _⟩, _⟩, _⟩, hz55⟩, _⟩, _⟩, _⟩ := hp; (try dsimp only at hz55); exact Loc.of1 U fun σ' hs hf => R_list (xs := [.tmp 58]) 59 U U (hd_sup hs U) (.cons (.tm (hs.slots _ _ U)) U U .nil) Tryz.underlying22 in5 U U U hf) (fun _ => rfl) (by intro ζ ζ' h; first | rfl | (simp only [h 8 U])) ?_
         refine DrawZ.pure U U U (fun ζ11 hp => by obtain ⟨⟨⟨⟨⟨⟨⟨⟨⟨⟨_, _⟩, _⟩, _⟩, _⟩, _⟩, hz55⟩, _⟩, _⟩, _⟩, _⟩ := hp; (try dsimp only at hz55); exact Loc.of U fun σ' hs => R_rowStr1 U (.no U) (hd_sup hs U) (.tm (hs.slots _ _ U)) (hs.res _ _ U) Tryz.underlying22 Tryz.underlying5 Tryz.underlying9) (fun _ => rfl) (by intro ζ ζ' h; first | rfl | (simp only [h 8 U])) ?_
         refine DrawZ.pure U U U (fun ζ11 hp => by obtain ⟨⟨⟨⟨⟨⟨⟨⟨⟨⟨⟨⟨⟨⟨_, _⟩, _⟩, _⟩, _⟩, _⟩, _⟩, _⟩, _⟩, hz55⟩, _⟩, _⟩, _⟩, _⟩, _⟩ := hp; (try dsimp only at hz55); exact Loc.of U fun σ' hs => R_cat U (.no U) (hd_sup hs U) (.tm (hs.slots _ _ U)) (.tm (hs.slots _ _ U)) (fun _ => by simp only [ByteArray.size_append, ByteArray.size_extract, strOfNums_size, List.length_cons, List.length_nil]; omega)) (fun _ => rfl) (by intro ζ ζ' h; first | rfl | (simp only [h 8 U])) ?_
         refine DrawZ.pure U U U (fun ζ11 hp => by exact Loc.of U fun σ' hs => R_move U (.no U) (hd_sup hs U) (.tm (hs.slots _ _ U))) (fun _ => rfl) (fun _ _ _ => rfl) ?_
         refine DrawZ.pure U U U (fun ζ11 hp => by exact Loc.of U fun σ' hs => R_move U (.no U) (hd_sup hs U) (.tm (hs.slots _ _ U))) (fun _ => rfl) (fun _ _ _ => rfl) ?_
         refine DrawZ.pure U U U (fun ζ11 hp => by exact Loc.of U fun σ' hs => R_add U (.no U) (hd_sup hs U) (.tm (hs.slots _ _ U)) (.const U) (fun _ => by omega)) (fun _ => rfl) (fun _ _ _ => rfl) ?_
         refine DrawZ.pure U U U (fun ζ11 hp => by exact Loc.of U fun σ' hs => R_strSlice (n := z14.toNat + 1) U (.no U) (hd_sup hs U) (.tm (hs.slots _ _ U)) (.yes (.tm (hs.slots _ _ U)) (fun _ => by first | omega | (simp <;> omega))) .no Tryz.underlying9 (fun _ => ⟨by omega, by first | omega | (simp; omega)⟩)) (fun _ => rfl) (fun _ _ _ => rfl) ?_
         refine DrawZ.pure U U U (fun ζ11 hp => by obtain ⟨⟨⟨⟨⟨⟨⟨⟨⟨⟨⟨⟨⟨⟨⟨⟨⟨⟨⟨_, _⟩, _⟩, _⟩, _⟩, _⟩, _⟩, _⟩, _⟩, hz55⟩, _⟩, _⟩, _⟩, _⟩, _⟩, _⟩, _⟩, _⟩, _⟩, _⟩ := hp; (try dsimp only at hz55); exact Loc.of U fun σ' hs => R_cat U (.no U) (hd_sup hs U) (.tm (hs.slots _ _ U)) (.tm (hs.slots _ _ U)) (fun _ => by simp only [ByteArray.size_append, ByteArray.size_extract, strOfNums_size, List.length_cons, List.length_nil]; omega)) (fun _ => rfl) (by intro ζ ζ' h; first | rfl | (simp only [h 8 U])) ?_
         refine DrawZ.pure U U U (fun ζ11 hp => by obtain ⟨⟨⟨⟨⟨⟨⟨⟨⟨⟨⟨⟨⟨⟨⟨⟨⟨⟨⟨⟨_, _⟩, _⟩, _⟩, _⟩, _⟩, _⟩, _⟩, _⟩, hz55⟩, _⟩, _⟩, _⟩, _⟩, _⟩, _⟩, _⟩, _⟩, _⟩, _⟩, _⟩ := hp; (try dsimp only at hz55); exact Loc.of U fun σ' hs => R_assign U (.no U) (hd_sup hs U) (.tm (hs.slots _ _ U))) (fun _ => rfl) (by intro ζ ζ' h; first | rfl | (simp only [h 8 U])) ?_
         refine DrawZ.fin U (fun _ => rfl) (fun _ => rfl) ?_
         intro ζ11 hp
         obtain ⟨⟨⟨⟨⟨⟨⟨⟨⟨⟨⟨⟨⟨⟨⟨⟨⟨⟨⟨⟨⟨_, _⟩, _⟩, _⟩, _⟩, _⟩, _⟩, _⟩, _⟩, hz55⟩, _⟩, _⟩, _⟩, _⟩, _⟩, _⟩, _⟩, _⟩, _⟩, _⟩, _⟩, _⟩ := hp
         try dsimp only at hz55
         dsimp only [finSl, finRs, addsR, List.map_cons, List.map_nil]
         refine AWl.nil (AW.ret ?_)
         apply DRes.mk rfl
         case h =>
          refine Res.one U (.tmp U .nil) U ?_
          rfl
         case hp => exact (by simp only [ByteArray.size_append, ByteArray.size_extract, strOfNums_size, List.length_cons, List.length_nil]; omega)
end Go.Proofs.YtbkhopfpejhnlaaGreatDoor
