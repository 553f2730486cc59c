import Derived.Test.YtbkhopfpejhnlaaGreatDoorB82ta
import Derived.Test.YtbkhopfpejhnlaaGreatDoorB85ta
set_option linter.unusedVariables false
set_option linter.unusedSimpArgs false
set_option maxHeartbeats 1000000
set_option maxRecDepth 100000
namespace Go.Proofs.YtbkhopfpejhnlaaGreatDoor
open Go.RowKit Go.Q Go.D
theorem specFormatIntP (n : Int) (h0 : 0 ≤ n) (h1 : n < 1000000000000) : FnT Tryz.prog 67 [.one (.v (.int .i64 n))] (.a (.one (.v (.string (bs (itoS n)))))) := by
 rw [itoS_num h0]
 obtain ⟨n0, rfl⟩ := Int.eq_ofNat_of_zero_le h0
 refine FnT.walk Tryz.func67 U (by kernel_rfl) Tryz.ntmps67 U fun hlen w0 => ?_
 try simp [cEdge, cGraph, cChange, cBatch, cHistory] at hlen
 have hn0 : n0 < 1000000000000 := by omega
 refine AW.sr ?_
 refine AWl.ac ?_
 refine AWl.nil (AW.seq ?_)
 refine AW.sr ?_
 refine AWl.mv ?_
 refine AWl.p (R_eq U (.no U) U (.tm U) (.const U)) U ?_
 refine AWl.nil ?_
 refine AW.cond (.tm U) (fun h7 => ?_) (fun h7 => ?_)
 · skip
   try simp at h7
   refine AW.sr ?_
   refine AWl.ac ?_
   refine AWl.nil (AW.ret ?_)
   refine Res.v U U ?_
   (have e : n0 = 0 := (by omega); subst e; unfold numS; rw [dig_small (by simp)]; rfl)
 · skip
   try simp at h7
   refine AW.skip ?_
   refine AW.sr ?_
   refine AWl.ac ?_
   refine AWl.nil (AW.sr ?_)
   refine AWl.mv ?_
   refine AWl.p (R_lt U (.no U) U (.tm U) (.const U)) U ?_
   refine AWl.av ?_
   refine AWl.nil (AW.seq ?_)
   refine AW.block ?_
   refine AW.loop2 (fun (m : Nat) (O : ByteArray) => (m < 1000000000000 ∧ O.size + m ≤ 1000000000000) ∧ bs (restD n0) = bs (restD m) ++ O) (fun (m : Nat) (O : ByteArray) => ⟨_, [(0, (true, .a (.one (.t (.v (.int .i64 (m : Nat))))))), (3, (true, .a (.one (.t (.v (.string O)))))), (2, _), (4, _)], []⟩) (fun (m : Nat) (O : ByteArray) => m) (n0) (⟨#[]⟩) ⟨⟨by omega, by simp [ByteArray.size]; omega⟩, (by rw [show (⟨#[]⟩ : ByteArray) = bs [] from U, bs_append, List.append_nil])⟩ (Le.sub0 U ⟨U, U, U, U, Y⟩ trivial) ?_
   rintro m O ⟨hk, he⟩
   refine AW.seq ?_
   refine AW.sr ?_
   refine AWl.mv ?_
   refine AWl.p (R_ne U (.no U) U (.tm U) (.const U)) U ?_
   refine AWl.nil ?_
   refine AW.cond (.tm U) (fun h11 => ?_) (fun h11 => ?_)
   · skip
     try simp at h11
     have hm0 : m ≠ 0 := by (first | omega | (simp at h11; omega))
     refine AW.skip ?_
     refine AW.block ?_
     refine AW.sr ?_
     refine AWl.mv ?_
     refine AWl.p (R_rem U (.no U) U (.tm U) (.const U) (fun _ => by omega)) U ?_
     refine AWl.av ?_
     refine AWl.nil (AW.seq ?_)
     refine AW.sr ?_
     refine AWl.mv ?_
     refine AWl.p (R_lt U (.no U) U (.tm U) (.const U)) U ?_
     refine AWl.nil ?_
     refine AW.cond (.tm U) (fun h15 => ?_) (fun h15 => ?_)
     · exact absurd h15 (by (first | omega | (simp at h15; omega)))
     · skip
       try simp at h15
       refine AW.skip ?_
       refine AW.seq ?_
       refine AW.le (σ' := ⟨_, [(0, _), (2, _), (3, _), (4, _), (5, _)], []⟩) (Le.sub0 U ⟨U, U, U, U, U, Y⟩ trivial) ?_
       refine AW.region ?_
       refine AWl.mv ?_
       refine AWl.p (R_add U (.no U) U (.const U) (.tm U) (fun _ => by omega)) U ?_
       refine AWl.p (R_conv U (.no U) U (.tm U) (by rw [Tryz.underlying3]; rfl) Tryz.underlying5 (fun _ => (show IntKind.u8.wrap _ = (48 + (m : Int) % 10) by simp [IntKind.wrap, IntKind.bits]; omega))) U ?_
       refine AWl.p (R_listz (xs := [.tmp 20]) (rows := [[.v (.int .u8 (48 + (m : Int) % 10))]]) U U U (.cons (.tm U) U U .nil) Tryz.underlying22 in5 U U (U)) U ?_
       refine AWl.p (R_byteStr U (.no U) U (.tm U) Tryz.underlying22 Tryz.underlying5 Tryz.underlying9) U ?_
       refine AWl.mv ?_
       refine AWl.p (R_cat U (.no U) U (.tm U) (.tm U) (fun _ => by have : (⟨#[UInt8.ofNat ((48 + (m : Int) % 10)).toNat]⟩ : ByteArray).size = 1 := U; omega)) U ?_
       refine AWl.av ?_
       refine AWl.nil ?_
       refine AW.le (σ' := ⟨_, [(0, _), (2, _), (3, _), (4, _), (5, _)], []⟩) (Le.sub0 U ⟨U, U, U, U, U, Y⟩ trivial) ?_
       refine AW.region ?_
       refine AWl.mv ?_
       refine AWl.p (R_quo U (.no U) U (.tm U) (.const U) (fun _ => by omega)) U ?_
       refine AWl.av ?_
       refine AWl.nil ?_
       repeat (with_reducible refine BlockQ.nor ?_)
       refine Round2.next (m / 10) (((ByteArray.mk #[UInt8.ofNat ((48 + (m : Int) % 10)).toNat]) ++ O)) ⟨⟨by omega, (by rw [ByteArray.size_append]; have : (⟨#[UInt8.ofNat ((48 + (m : Int) % 10)).toNat]⟩ : ByteArray).size = 1 := rfl; omega)⟩, (by rw [he, restD_step (by omega), ← bs_append, show (48 + (m : Int) % 10).toNat = 48 + m % 10 by omega]; rw [ByteArray.append_assoc]; rfl)⟩ (by omega) (Le.sub0 rfl ⟨rfl, rfl, rfl, rfl, Y⟩ trivial)
   · skip
     try simp at h11
     refine AW.exit ?_
     refine AW.seq ?_
     refine AW.sr ?_
     refine AWl.mv ?_
     refine AWl.nil ?_
     refine AW.cond (.tm U) (fun h27 => ?_) (fun h27 => ?_)
     · exact absurd h27 (by simp)
     · skip
       try simp at h27
       refine AW.skip ?_
       refine AW.sr ?_
       refine AWl.mv ?_
       refine AWl.av ?_
       refine AWl.nil (AW.ret ?_)
       refine Res.v U U ?_
       (have e : m = 0 := (by omega); have e0 : n0 ≠ 0 := (by omega); rw [e] at he; unfold restD at he; rw [if_neg e0, if_pos rfl] at he; unfold numS; rw [Int.toNat_natCast, he, bs_nil_append])
theorem implFormatEdge (e : TEdge) : FnT Tryz.prog 90 [.agg (cEdge e)] (.a (.one (.v (.string (bs (fmtEdge e)))))) := by
 refine FnT.walk Tryz.func90 U (by kernel_rfl) Tryz.ntmps90 U fun hlen w0 => ?_
 try simp [cEdge, cGraph, cChange, cBatch, cHistory] at hlen
 refine AW.sr ?_
 refine AWl.p (R_boxz U U U (.tm U) (ts := _) (by rfl)) U ?_
 refine AWl.ac ?_
 refine AWl.nil (AW.seq ?_)
 refine AW.sr ?_
 refine AWl.p (by exact R_load U (.no U) U (.tm U) ty95 U U) U ?_
 refine AWl.p (R_callz (FnT.fr (impledgeOk e 5 (by omega) (by omega))) U (.no U) U (.cons (.tm U) U (.cons (.const U) U .nil))) U ?_
 refine AWl.p (R_not U (.no U) U (.tm U)) U ?_
 refine AWl.nil ?_
 refine AW.cond (.tm U) (fun h5 => ?_) (fun h5 => ?_)
 · skip
   try simp at h5
   refine AW.sr ?_
   refine AWl.ac ?_
   refine AWl.nil (AW.ret ?_)
   refine Res.v U U ?_
   (unfold fmtEdge; rw [if_neg (by simpa using h5)]; rfl)
 · skip
   try simp at h5
   have hok : edgeOk e 5 = true := by simpa using h5
   have hr := edge_r hok
   have s1 := numS_len (n := e.ID) (by omega)
   have s2 := numS_len (n := e.From) (by omega)
   have s3 := numS_len (n := e.To) (by omega)
   have s4 : ((ByteArray.mk #[97, 98, 99]).extract e.Label.toNat (e.Label.toNat + 1)).size ≤ 2 := by (rw [lab_abc (by omega) (by omega), bs_size]; exact letS_len _)
   have s5 : (ByteArray.mk #[58]).size = 1 := rfl
   have s6 : (ByteArray.mk #[97, 98, 99]).size = 3 := rfl
   refine AW.skip ?_
   refine AW.seq ?_
   refine AW.drawn 20 (nthB [[], [0], [0, 1], [0, 1, 2], [], [4], [0, 1, 2, 4, 5], [0, 1, 2, 3, 4, 5, 6], [], [8], [], [10], [10, 11], [8, 9, 10, 11, 12], [0, 1, 2, 3, 4, 5, 6, 7, 8, 9, 10, 11, 12, 13], [], [15], [0, 1, 2, 4, 5, 6, 15, 16], [0, 1, 2, 3, 4, 5, 6, 7, 8, 9, 10, 11, 12, 13, 14, 15, 16, 17], [0, 1, 2, 3, 4, 5, 6, 7, 8, 9, 10, 11, 12, 13, 14, 15, 16, 17, 18]]) (by kernel_rfl) (by kernel_rfl) (by kernel_rfl) ?_
   refine DrawC.step U U U (Loc.of U fun σ' hs => (by exact R_fieldAddr U (.no U) (hd_sup hs U) (.tm (hs.slots _ _ U)) fl95_0)) ?_
   refine DrawC.step U U U (Loc.of U fun σ' hs => (by exact R_load U (.no U) (hd_sup hs U) (.tm (hs.slots _ _ U)) ty3 U U)) ?_
   refine DrawC.step U U U (Loc.of U fun σ' hs => R_callz (FnT.fr (implFormatInt e.ID (by omega) (by omega))) U (.no U) (hd_sup hs U) (.cons (.tm (hs.slots _ _ U)) (readA_sup hs U) .nil)) ?_
   refine DrawC.step U U U (Loc.of U fun σ' hs => R_cat U (.no U) (hd_sup hs U) (.tm (hs.slots _ _ U)) (.const U) (fun _ => by simp only [ByteArray.size_append, bs_size]; omega)) ?_
   refine DrawC.step U U U (Loc.of U fun σ' hs => (by exact R_fieldAddr U (.no U) (hd_sup hs U) (.tm (hs.slots _ _ U)) fl95_1)) ?_
   refine DrawC.step U U U (Loc.of U fun σ' hs => (by exact R_load U (.no U) (hd_sup hs U) (.tm (hs.slots _ _ U)) ty3 U U)) ?_
   refine DrawC.step U U U (Loc.of U fun σ' hs => R_callz (FnT.fr (implFormatInt e.From (by omega) (by omega))) U (.no U) (hd_sup hs U) (.cons (.tm (hs.slots _ _ U)) (readA_sup hs U) .nil)) ?_
   refine DrawC.step U U U (Loc.of U fun σ' hs => R_cat U (.no U) (hd_sup hs U) (.tm (hs.slots _ _ U)) (.tm (hs.slots _ _ U)) (fun _ => by simp only [ByteArray.size_append, bs_size]; omega)) ?_
   refine DrawC.step U U U (Loc.of U fun σ' hs => (by exact R_fieldAddr U (.no U) (hd_sup hs U) (.tm (hs.slots _ _ U)) fl95_3)) ?_
   refine DrawC.step U U U (Loc.of U fun σ' hs => (by exact R_load U (.no U) (hd_sup hs U) (.tm (hs.slots _ _ U)) ty3 U U)) ?_
   refine DrawC.step U U U (Loc.of U fun σ' hs => (by exact R_fieldAddr U (.no U) (hd_sup hs U) (.tm (hs.slots _ _ U)) fl95_3)) ?_
   refine DrawC.step U U U (Loc.of U fun σ' hs => (by exact R_load U (.no U) (hd_sup hs U) (.tm (hs.slots _ _ U)) ty3 U U)) ?_
   refine DrawC.step U U U (Loc.of U fun σ' hs => R_add U (.no U) (hd_sup hs U) (.tm (hs.slots _ _ U)) (.const U) (fun _ => by omega)) ?_
   refine DrawC.step U U U (Loc.of U fun σ' hs => R_strSlice (n := e.Label.toNat) (m := e.Label.toNat + 1) U (.no U) (hd_sup hs U) (.const U) (.yes (.tm (hs.slots _ _ U)) (fun _ => by first | omega | (simp <;> omega))) (.yes (.tm (hs.slots _ _ U)) (fun _ => by first | omega | (simp <;> omega))) Tryz.underlying9 (fun _ => ⟨by omega, by omega⟩)) ?_
   refine DrawC.step U U U (Loc.of U fun σ' hs => R_cat U (.no U) (hd_sup hs U) (.tm (hs.slots _ _ U)) (.tm (hs.slots _ _ U)) (fun _ => by simp only [ByteArray.size_append, bs_size]; omega)) ?_
   refine DrawC.step U U U (Loc.of U fun σ' hs => (by exact R_fieldAddr U (.no U) (hd_sup hs U) (.tm (hs.slots _ _ U)) fl95_2)) ?_
   refine DrawC.step U U U (Loc.of U fun σ' hs => (by exact R_load U (.no U) (hd_sup hs U) (.tm (hs.slots _ _ U)) ty3 U U)) ?_
   refine DrawC.step U U U (Loc.of U fun σ' hs => R_callz (FnT.fr (implFormatInt e.To (by omega) (by omega))) U (.no U) (hd_sup hs U) (.cons (.tm (hs.slots _ _ U)) (readA_sup hs U) .nil)) ?_
   refine DrawC.step U U U (Loc.of U fun σ' hs => R_cat U (.no U) (hd_sup hs U) (.tm (hs.slots _ _ U)) (.tm (hs.slots _ _ U)) (fun _ => by simp only [ByteArray.size_append, bs_size]; omega)) ?_
   refine DrawC.step U U U (Loc.of U fun σ' hs => R_assign U (.no U) (hd_sup hs U) (.tm (hs.slots _ _ U))) ?_
   refine DrawC.fin U U ?_
   refine AWl.nil (AW.ret ?_)
   refine Res.v U U ?_
   (unfold fmtEdge; rw [if_pos hok, lab_abc (by omega) (by omega), show (ByteArray.mk #[58]) = bs [58] from rfl]; simp only [bs_append])
theorem specFormatEdge (e : TEdge) : FnT Tryz.prog 95 [.agg (cEdge e)] (.a (.one (.v (.string (bs (fmtEdge e)))))) := by
 refine FnT.walk Tryz.func95 U (by kernel_rfl) Tryz.ntmps95 U fun hlen w0 => ?_
 try simp [cEdge, cGraph, cChange, cBatch, cHistory] at hlen
 refine AW.sr ?_
 refine AWl.p (R_boxz U U U (.tm U) (ts := _) (by rfl)) U ?_
 refine AWl.ac ?_
 refine AWl.nil (AW.seq ?_)
 refine AW.sr ?_
 refine AWl.p (by exact R_fieldAddr U (.no U) U (.tm U) fl95_0) U ?_
 refine AWl.p (by exact R_load U (.no U) U (.tm U) ty3 U U) U ?_
 refine AWl.p (R_callz (FnT.fr (specl1In e.ID 1 99)) U (.no U) U (.cons (.tm U) U (.cons (.const U) U (.cons (.const U) U .nil)))) U ?_
 refine AWl.p (R_not U (.no U) U (.tm U)) U ?_
 refine AWl.mv ?_
 refine AWl.p (by exact R_fieldAddr U (by exact .not1 U U U U) U (.tmp U (by exact fun _ => rfl)) fl95_1) U ?_
 refine AWl.p (by exact R_load U (by exact .not1 U U U U) U (.tmp U (by exact id)) ty3 U U) U ?_
 refine AWl.p (R_callz (FnT.fr (specl1In e.From 0 4)) U (by exact .not1 U U U U) U (.cons (.tmp U (by exact id)) U (.cons (.const U) U (.cons (.const U) U .nil)))) U ?_
 refine AWl.p (R_not U (by exact .not1 U U U U) U (.tmp U (by exact id))) U ?_
 refine AWl.p (R_or U (.no U) U (.tm U) (.tmp U (by exact id))) U ?_
 refine AWl.mv ?_
 refine AWl.p (by exact R_fieldAddr U (by exact .not1 U U U U) U (.tmp U (by exact fun _ => rfl)) fl95_2) U ?_
 refine AWl.p (by exact R_load U (by exact .not1 U U U U) U (.tmp U (by exact id)) ty3 U U) U ?_
 refine AWl.p (R_callz (FnT.fr (specl1In e.To 0 4)) U (by exact .not1 U U U U) U (.cons (.tmp U (by exact id)) U (.cons (.const U) U (.cons (.const U) U .nil)))) U ?_
 refine AWl.p (R_not U (by exact .not1 U U U U) U (.tmp U (by exact id))) U ?_
 refine AWl.p (R_or U (.no U) U (.tm U) (.tmp U (by exact id))) U ?_
 refine AWl.mv ?_
 refine AWl.p (by exact R_fieldAddr U (by exact .not1 U U U U) U (.tmp U (by exact fun _ => rfl)) fl95_3) U ?_
 refine AWl.p (by exact R_load U (by exact .not1 U U U U) U (.tmp U (by exact id)) ty3 U U) U ?_
 refine AWl.p (R_callz (FnT.fr (specl1In e.Label 0 2)) U (by exact .not1 U U U U) U (.cons (.tmp U (by exact id)) U (.cons (.const U) U (.cons (.const U) U .nil)))) U ?_
 refine AWl.p (R_not U (by exact .not1 U U U U) U (.tmp U (by exact id))) U ?_
 refine AWl.p (R_or U (.no U) U (.tm U) (.tmp U (by exact id))) U ?_
 refine AWl.nil ?_
 refine AW.cond (.tm U) (fun h24 => ?_) (fun h24 => ?_)
 · skip
   try simp at h24
   refine AW.seq ?_
   refine AW.le (σ' := ⟨_, [(0, _), (1, _), (2, _)], []⟩) (Le.sub0 U ⟨U, U, U, Y⟩ trivial) ?_
   refine AW.region ?_
   refine AWl.ac ?_
   refine AWl.nil (AW.ret ?_)
   refine Res.v U U ?_
   (unfold fmtEdge; rw [if_neg (by unfold edgeOk; intro hh; simp at h24 hh; simp [hh] at h24)]; rfl)
 · skip
   try simp at h24
   have hok : edgeOk e 5 = true := by (unfold edgeOk; simp at h24 ⊢; simpa [and_assoc] using h24)
   have hr := edge_r hok
   have s1 := numS_len (n := e.ID) (by omega)
   have s2 := numS_len (n := e.From) (by omega)
   have s3 := numS_len (n := e.To) (by omega)
   have s4 := letS_len (2 * e.Label)
   have s5 : (ByteArray.mk #[58]).size = 1 := rfl
   refine AW.skip ?_
   refine AW.seq ?_
   refine AW.le (σ' := ⟨_, [(0, _), (1, _), (2, _)], []⟩) (Le.sub0 U ⟨U, U, U, Y⟩ trivial) ?_
   refine AW.drawn 18 (nthB [[], [0], [0, 1], [0, 1, 2], [], [4], [0, 1, 2, 4, 5], [0, 1, 2, 3, 4, 5, 6], [], [8], [8, 9], [0, 1, 2, 4, 5, 6, 8, 9, 10], [0, 1, 2, 3, 4, 5, 6, 7, 8, 9, 10, 11], [], [13], [0, 1, 2, 4, 5, 6, 8, 9, 10, 11, 13, 14], [0, 1, 2, 3, 4, 5, 6, 7, 8, 9, 10, 11, 12, 13, 14, 15], [0, 1, 2, 3, 4, 5, 6, 7, 8, 9, 10, 11, 12, 13, 14, 15, 16]]) (by kernel_rfl) (by kernel_rfl) (by kernel_rfl) ?_
   refine DrawC.step U U U (Loc.of U fun σ' hs => (by exact R_fieldAddr U (.no U) (hd_sup hs U) (.tm (hs.slots _ _ U)) fl95_0)) ?_
   refine DrawC.step U U U (Loc.of U fun σ' hs => (by exact R_load U (.no U) (hd_sup hs U) (.tm (hs.slots _ _ U)) ty3 U U)) ?_
   refine DrawC.step U U U (Loc.of U fun σ' hs => R_callz (FnT.fr (specFormatInt e.ID (by omega) (by omega))) U (.no U) (hd_sup hs U) (.cons (.tm (hs.slots _ _ U)) (readA_sup hs U) .nil)) ?_
   refine DrawC.step U U U (Loc.of U fun σ' hs => R_cat U (.no U) (hd_sup hs U) (.tm (hs.slots _ _ U)) (.const U) (fun _ => by simp only [ByteArray.size_append, bs_size]; omega)) ?_
   refine DrawC.step U U U (Loc.of U fun σ' hs => (by exact R_fieldAddr U (.no U) (hd_sup hs U) (.tm (hs.slots _ _ U)) fl95_1)) ?_
   refine DrawC.step U U U (Loc.of U fun σ' hs => (by exact R_load U (.no U) (hd_sup hs U) (.tm (hs.slots _ _ U)) ty3 U U)) ?_
   refine DrawC.step U U U (Loc.of U fun σ' hs => R_callz (FnT.fr (specFormatInt e.From (by omega) (by omega))) U (.no U) (hd_sup hs U) (.cons (.tm (hs.slots _ _ U)) (readA_sup hs U) .nil)) ?_
   refine DrawC.step U U U (Loc.of U fun σ' hs => R_cat U (.no U) (hd_sup hs U) (.tm (hs.slots _ _ U)) (.tm (hs.slots _ _ U)) (fun _ => by simp only [ByteArray.size_append, bs_size]; omega)) ?_
   refine DrawC.step U U U (Loc.of U fun σ' hs => (by exact R_fieldAddr U (.no U) (hd_sup hs U) (.tm (hs.slots _ _ U)) fl95_3)) ?_
   refine DrawC.step U U U (Loc.of U fun σ' hs => (by exact R_load U (.no U) (hd_sup hs U) (.tm (hs.slots _ _ U)) ty3 U U)) ?_
   refine DrawC.step U U U (Loc.of U fun σ' hs => R_mul U (.no U) (hd_sup hs U) (.const U) (.tm (hs.slots _ _ U)) (fun _ => by omega)) ?_
   refine DrawC.step U U U (Loc.of U fun σ' hs => R_callz (FnT.fr (specFormatLetter (2 * e.Label) (by omega) (by omega))) U (.no U) (hd_sup hs U) (.cons (.tm (hs.slots _ _ U)) (readA_sup hs U) .nil)) ?_
   refine DrawC.step U U U (Loc.of U fun σ' hs => R_cat U (.no U) (hd_sup hs U) (.tm (hs.slots _ _ U)) (.tm (hs.slots _ _ U)) (fun _ => by simp only [ByteArray.size_append, bs_size]; omega)) ?_
   refine DrawC.step U U U (Loc.of U fun σ' hs => (by exact R_fieldAddr U (.no U) (hd_sup hs U) (.tm (hs.slots _ _ U)) fl95_2)) ?_
   refine DrawC.step U U U (Loc.of U fun σ' hs => (by exact R_load U (.no U) (hd_sup hs U) (.tm (hs.slots _ _ U)) ty3 U U)) ?_
   refine DrawC.step U U U (Loc.of U fun σ' hs => R_callz (FnT.fr (specFormatInt e.To (by omega) (by omega))) U (.no U) (hd_sup hs U) (.cons (.tm (hs.slots _ _ U)) (readA_sup hs U) .nil)) ?_
   refine DrawC.step U U U (Loc.of U fun σ' hs => R_cat U (.no U) (hd_sup hs U) (.tm (hs.slots _ _ U)) (.tm (hs.slots _ _ U)) (fun _ => by simp only [ByteArray.size_append, bs_size]; omega)) ?_
   refine DrawC.step U U U (Loc.of U fun σ' hs => R_assign U (.no U) (hd_sup hs U) (.tm (hs.slots _ _ U))) ?_
   refine DrawC.fin U U ?_
   refine AWl.nil (AW.ret ?_)
   refine Res.v U U ?_
   (unfold fmtEdge; rw [if_pos hok, show (ByteArray.mk #[58]) = bs [58] from rfl]; simp only [bs_append])
theorem implFormatBatch (b : TBatch) : FnT Tryz.prog 60 [.agg (cBatch b)] (.a (.one (.v (.string (bs (fmtBatch b)))))) := by
 refine FnT.walk Tryz.func60 U (by kernel_rfl) Tryz.ntmps60 U fun hlen w0 => ?_
 try simp [cEdge, cGraph, cChange, cBatch, cHistory] at hlen
 refine AW.sr ?_
 refine AWl.p (R_boxz U U U (.tm U) (ts := _) (by rfl)) U ?_
 refine AWl.ac ?_
 refine AWl.nil (AW.seq ?_)
 refine AW.sr ?_
 refine AWl.p (by exact R_fieldAddr U (.no U) U (.tm U) fl47_0) U ?_
 refine AWl.p (by exact R_load U (.no U) U (.tm U) ty45 U U) U ?_
 refine AWl.p (by exact R_lenm U (.no U) U (.tm U) (by exact .t) Tryz.underlying45) U ?_
 refine AWl.p (R_gt U (.no U) U (.tm U) (.const U)) U ?_
 refine AWl.nil ?_
 refine AW.cond (.tm U) (fun h10 => ?_) (fun h10 => ?_)
 · skip
   try simp at h10
   refine AW.sr ?_
   refine AWl.ac ?_
   refine AWl.nil (AW.ret ?_)
   refine Res.v U U ?_
   (rw [batch_long (by omega)]; rfl)
 · skip
   try simp at h10
   have h6 : b.Changes.length ≤ 6 := by (first | omega | (simp at h10; omega))
   refine AW.skip ?_
   refine AW.sr ?_
   refine AWl.add (R_empty 11 U U U Tryz.underlying87 ty9 U) U ?_
   refine AWl.av ?_
   refine AWl.nil (AW.seq ?_)
   refine AW.sr ?_
   refine AWl.p (by exact R_fieldAddr U (.no U) U (.tm U) fl47_0) U ?_
   refine AWl.p (by exact R_load U (.no U) U (.tm U) ty45 U U) U ?_
   refine AWl.p (by exact R_lenm U (.no U) U (.tm U) (by exact .t) Tryz.underlying45) U ?_
   refine AWl.p (R_move U (.no U) U (.const U)) U ?_
   refine AWl.nil (AW.block ?_)
   refine AW.loop1 (fun (k : Nat) => (k ≤ b.Changes.length ∧ (∀ j c, j < k → b.Changes[j]? = some c → fmtEdge c.Edge ≠ [])) ∧ True) (fun (k : Nat) => ⟨_, [(15, (true, .a (.one (.t (.v (.int .i64 (k : Nat))))))), (3, (true, .a (.one (.rf 11)))), (13, _), (14, _)], [(11, .row 1 (((b.Changes.take k).map fmtCh).map cStr))]⟩) (fun (k : Nat) => b.Changes.length - k) (0) ⟨⟨Nat.zero_le _, fun j c hj => by omega⟩, Y⟩ (Le.sub0 U ⟨U, U, U, U, Y⟩ ⟨U, Y⟩) ?_
   rintro k ⟨hk, he⟩
   refine AW.sr ?_
   refine AWl.p (R_lt U (.no U) U (.tm U) (.tm U)) U ?_
   refine AWl.nil (AW.seq ?_)
   refine AW.cond (.tm U) (fun h16 => ?_) (fun h16 => ?_)
   · skip
     try simp at h16
     obtain ⟨x, hx⟩ : ∃ ξ, b.Changes[k]? = some ξ := ⟨_, List.getElem?_eq_getElem (by omega)⟩
     have hl := fmtEdge_len (e := x.Edge)
     have e1 : (ByteArray.mk #[43]).size = 1 := rfl
     have e2 : (ByteArray.mk #[45]).size = 1 := rfl
     refine AW.skip ?_
     refine AW.seq ?_
     refine AW.block ?_
     refine AW.sr ?_
     refine AWl.p (by exact R_indexAddr U (.no U) U (.tm U) (.tm U) Tryz.underlying45 ty97 (fun _ => ⟨by omega, (map_get hx)⟩)) U ?_
     refine AWl.p (by exact R_load U (.no U) U (.tm U) ty97 U U) U ?_
     refine AWl.add (R_alloc 5 U U U in97 U U U) U ?_
     refine AWl.chgb (R_store_pb U U U (.tm U) (.tm U) U ty97 U U U (by kernel_rfl) U) ?_
     refine AWl.nil (AW.sr ?_)
     refine AWl.p (by exact R_fieldAddr_pp U (.no U) U (.tm U) fl97_1) U ?_
     refine AWl.p (by exact R_load_pp U (.no U) U (.tm U) U ty95 U U) U ?_
     refine AWl.p (R_callz (FnT.fr (implFormatEdge x.Edge)) U (.no U) U (.cons (.tm U) U .nil)) U ?_
     refine AWl.av ?_
     refine AWl.nil (AW.seq ?_)
     refine AW.seq ?_
     refine AW.le (σ' := ⟨_, [(3, _), (5, _), (6, _), (13, _), (14, _), (15, _)], [(11, _), (5, _)]⟩) (Le.sub0 U ⟨U, U, U, U, U, U, Y⟩ ⟨U, U, Y⟩) ?_
     refine AW.region ?_
     refine AWl.mv ?_
     refine AWl.p (R_eqstr U (.no U) U (.tm U) (.const U)) U ?_
     refine AWl.nil ?_
     refine AW.cond (.tm U) (fun h23 => ?_) (fun h23 => ?_)
     · skip
       try simp at h23
       refine AW.sr ?_
       refine AWl.ac ?_
       refine AWl.nil (AW.ret ?_)
       refine Res.v U U ?_
       (rw [batch_bad hx (bs_inj (m := []) h23)]; rfl)
     · skip
       try simp at h23
       have hne : fmtEdge x.Edge ≠ [] := by (intro hh; rw [hh] at h23; exact h23 rfl)
       refine AW.skip ?_
       refine AW.sr ?_
       refine AWl.p (by exact R_fieldAddr_pp U (.no U) U (.tm U) fl97_0) U ?_
       refine AWl.p (by exact R_load_pp U (.no U) U (.tm U) U ty4 U U) U ?_
       refine AWl.nil ?_
       refine AW.cond (.tm U) (fun h25 => ?_) (fun h25 => ?_)
       · skip
         try simp at h25
         refine AW.region ?_
         refine AWl.mv ?_
         refine AWl.mv ?_
         refine AWl.p (R_cat U (.no U) U (.const U) (.tm U) (fun _ => by first | omega | (simp only [ByteArray.size_append, bs_size]; omega))) U ?_
         refine AWl.absadd (R_list (xs := [.tmp 28]) 29 U U U (.cons (.tm U) U U .nil) Tryz.underlying87 in9 U U U U) U ?_
         refine AWl.chgput (R_append U U U (.tm U) U (.tm U) (by exact .rf U) (by rfl) Tryz.underlying87 in9 U (by (simp [chunk]; omega)) (by (unfold maxLen; simp [chunk]; omega))) U ?_
         refine AWl.le (σ' := ⟨_, [(3, _), (5, _), (6, _), (13, _), (14, _), (15, _), (23, _), (25, _), (30, _)], [(11, _), (5, _), (29, _)]⟩) (Le.sub0 U ⟨U, U, U, U, U, U, U, U, U, Y⟩ ⟨U, U, U, Y⟩) ?_
         refine AWl.av ?_
         refine AWl.nil (AW.region ?_)
         refine AWl.p (R_add U (.no U) U (.tm U) (.const U) (fun _ => by omega)) U ?_
         refine AWl.mv ?_
         refine AWl.nil ?_
         repeat (with_reducible refine BlockQ.nor ?_)
         refine Round1.next (k + 1) ⟨⟨by omega, batch_more hk.2 hx hne⟩, Y⟩ (by omega) (Le.sub0 rfl ⟨rfl, rfl, rfl, rfl, Y⟩ ⟨(by refine congrArg (fun r => some (R.row 1 r)) ?_; rw [take_at hx]; simp [chunk, cStr, fmtCh, h25]; exact bs_append [43] _), Y⟩)
       · skip
         try simp at h25
         refine AW.region ?_
         refine AWl.mv ?_
         refine AWl.mv ?_
         refine AWl.p (R_cat U (.no U) U (.const U) (.tm U) (fun _ => by first | omega | (simp only [ByteArray.size_append, bs_size]; omega))) U ?_
         refine AWl.absadd (R_list (xs := [.tmp 33]) 34 U U U (.cons (.tm U) U U .nil) Tryz.underlying87 in9 U U U U) U ?_
         refine AWl.chgput (R_append U U U (.tm U) U (.tm U) (by exact .rf U) (by rfl) Tryz.underlying87 in9 U (by (simp [chunk]; omega)) (by (unfold maxLen; simp [chunk]; omega))) U ?_
         refine AWl.le (σ' := ⟨_, [(3, _), (5, _), (6, _), (13, _), (14, _), (15, _), (23, _), (25, _), (35, _)], [(11, _), (5, _), (34, _)]⟩) (Le.sub0 U ⟨U, U, U, U, U, U, U, U, U, Y⟩ ⟨U, U, U, Y⟩) ?_
         refine AWl.av ?_
         refine AWl.nil (AW.region ?_)
         refine AWl.p (R_add U (.no U) U (.tm U) (.const U) (fun _ => by omega)) U ?_
         refine AWl.mv ?_
         refine AWl.nil ?_
         repeat (with_reducible refine BlockQ.nor ?_)
         refine Round1.next (k + 1) ⟨⟨by omega, batch_more hk.2 hx hne⟩, Y⟩ (by omega) (Le.sub0 rfl ⟨rfl, rfl, rfl, rfl, Y⟩ ⟨(by refine congrArg (fun r => some (R.row 1 r)) ?_; rw [take_at hx]; simp [chunk, cStr, fmtCh, h25]; exact bs_append [45] _), Y⟩)
   · skip
     try simp at h16
     refine AW.exit ?_
     refine AW.seq ?_
     refine AW.le (σ' := ⟨_, [(3, _), (13, _), (14, _), (15, _)], [(11, .row 1 ((b.Changes.map fmtCh).map cStr))]⟩) (Le.sub0 U ⟨U, U, U, U, Y⟩ ⟨by rw [List.take_of_length_le (l := b.Changes) (by omega)]; rfl, Y⟩) ?_
     refine AW.region ?_
     refine AWl.mv ?_
     refine AWl.p (R_callz (FnT.fr (stringsJoin (b.Changes.map fmtCh) [32] (by have := joinL_len (sep := [32]) (b := 9) (f := fmtCh) (l := b.Changes) fun c _ => fmtCh_len; simp at this; omega) (by rw [List.length_map]; omega))) U (.no U) U (.cons (.tm U) U (.cons (.const U) U .nil))) U ?_
     refine AWl.av ?_
     refine AWl.nil (AW.ret ?_)
     refine Res.v U U ?_
     (rw [batch_all h6 (by omega) hk.2])
theorem specFormatBatch (b : TBatch) : FnT Tryz.prog 66 [.agg (cBatch b)] (.a (.one (.v (.string (bs (fmtBatch b)))))) := by
 refine FnT.walk Tryz.func66 U (by kernel_rfl) Tryz.ntmps66 U fun hlen w0 => ?_
 try simp [cEdge, cGraph, cChange, cBatch, cHistory] at hlen
 refine AW.sr ?_
 refine AWl.p (R_boxz U U U (.tm U) (ts := _) (by rfl)) U ?_
 refine AWl.ac ?_
 refine AWl.nil (AW.sr ?_)
 refine AWl.ac ?_
 refine AWl.nil (AW.seq ?_)
 refine AW.sr ?_
 refine AWl.p (by exact R_fieldAddr U (.no U) U (.tm U) fl47_0) U ?_
 refine AWl.p (by exact R_load U (.no U) U (.tm U) ty45 U U) U ?_
 refine AWl.p (by exact R_lenm U (.no U) U (.tm U) (by exact .t) Tryz.underlying45) U ?_
 refine AWl.p (R_gt U (.no U) U (.tm U) (.const U)) U ?_
 refine AWl.nil ?_
 refine AW.cond (.tm U) (fun h9 => ?_) (fun h9 => ?_)
 · skip
   try simp at h9
   refine AW.sr ?_
   refine AWl.ac ?_
   refine AWl.nil (AW.ret ?_)
   refine Res.v U U ?_
   (rw [batch_long (by omega)]; rfl)
 · skip
   try simp at h9
   have h6 : b.Changes.length ≤ 6 := by (first | omega | (simp at h9; omega))
   refine AW.skip ?_
   refine AW.seq ?_
   refine AW.sr ?_
   refine AWl.ac ?_
   refine AWl.nil (AW.block ?_)
   refine AW.loop2 (fun (k : Nat) (O : ByteArray) => (k ≤ b.Changes.length ∧ (∀ j c, j < k → b.Changes[j]? = some c → fmtEdge c.Edge ≠ [])) ∧ O = bs (joinL [32] ((b.Changes.take k).map fmtCh))) (fun (k : Nat) (O : ByteArray) => ⟨_, [(4, (true, .a (.one (.t (.v (.int .i64 (k : Nat))))))), (3, (true, .a (.one (.t (.v (.string O)))))), (1, _)], []⟩) (fun (k : Nat) (O : ByteArray) => b.Changes.length - k) (0) (⟨#[]⟩) ⟨⟨Nat.zero_le _, fun j c hj => by omega⟩, (by simp [joinL_nil]; rfl)⟩ (Le.sub0 U ⟨U, U, U, Y⟩ trivial) ?_
   rintro k O ⟨hk, he⟩
   refine AW.seq ?_
   refine AW.sr ?_
   refine AWl.mv ?_
   refine AWl.p (by exact R_fieldAddr U (.no U) U (.tm U) fl47_0) U ?_
   refine AWl.p (by exact R_load U (.no U) U (.tm U) ty45 U U) U ?_
   refine AWl.p (by exact R_lenm U (.no U) U (.tm U) (by exact .t) Tryz.underlying45) U ?_
   refine AWl.p (R_lt U (.no U) U (.tm U) (.tm U)) U ?_
   refine AWl.nil ?_
   refine AW.cond (.tm U) (fun h14 => ?_) (fun h14 => ?_)
   · skip
     try simp at h14
     obtain ⟨x, hx⟩ : ∃ ξ, b.Changes[k]? = some ξ := ⟨_, List.getElem?_eq_getElem (by omega)⟩
     have hl := fmtEdge_len (e := x.Edge)
     have e1 : (ByteArray.mk #[43]).size = 1 := rfl
     have e2 : (ByteArray.mk #[45]).size = 1 := rfl
     have e3 : (ByteArray.mk #[32]).size = 1 := rfl
     have hO : O.size ≤ 100 := by (rw [he, bs_size]; exact Nat.le_trans (joinL_len (sep := [32]) (b := 9) (f := fmtCh) (l := b.Changes.take k) fun c _ => fmtCh_len) (by rw [List.length_take]; simp only [List.length_cons, List.length_nil]; omega))
     refine AW.skip ?_
     refine AW.seq ?_
     refine AW.block ?_
     refine AW.sr ?_
     refine AWl.p (by exact R_fieldAddr U (.no U) U (.tm U) fl47_0) U ?_
     refine AWl.p (by exact R_load U (.no U) U (.tm U) ty45 U U) U ?_
     refine AWl.mv ?_
     refine AWl.p (by exact R_indexAddr U (.no U) U (.tm U) (.tm U) Tryz.underlying45 ty97 (fun _ => ⟨by omega, (map_get hx)⟩)) U ?_
     refine AWl.p (by exact R_fieldAddr U (.no U) U (.tm U) fl97_1) U ?_
     refine AWl.p (by exact R_load U (.no U) U (.tm U) ty95 U U) U ?_
     refine AWl.p (R_callz (FnT.fr (specFormatEdge x.Edge)) U (.no U) U (.cons (.tm U) U .nil)) U ?_
     refine AWl.av ?_
     refine AWl.nil (AW.seq ?_)
     refine AW.seq ?_
     refine AW.le (σ' := ⟨_, [(1, _), (3, _), (4, _), (5, _)], []⟩) (Le.sub0 U ⟨U, U, U, U, Y⟩ trivial) ?_
     refine AW.region ?_
     refine AWl.mv ?_
     refine AWl.p (R_eqstr U (.no U) U (.tm U) (.const U)) U ?_
     refine AWl.nil ?_
     refine AW.cond (.tm U) (fun h25 => ?_) (fun h25 => ?_)
     · skip
       try simp at h25
       refine AW.sr ?_
       refine AWl.ac ?_
       refine AWl.nil (AW.ret ?_)
       refine Res.v U U ?_
       (rw [batch_bad hx (bs_inj (m := []) h25)]; rfl)
     · skip
       try simp at h25
       have hne : fmtEdge x.Edge ≠ [] := by (intro hh; rw [hh] at h25; exact h25 rfl)
       refine AW.skip ?_
       refine AW.seq ?_
       refine AW.sr ?_
       refine AWl.mv ?_
       refine AWl.p (R_gt U (.no U) U (.tm U) (.const U)) U ?_
       refine AWl.nil ?_
       refine AW.cond (.tm U) (fun h27 => ?_) (fun h27 => ?_)
       · skip
         try simp at h27
         have hk0 : k ≠ 0 := by (first | omega | (simp at h27; omega))
         refine AW.region ?_
         refine AWl.mv ?_
         refine AWl.p (R_cat U (.no U) U (.tm U) (.const U) (fun _ => by first | omega | (simp only [ByteArray.size_append, bs_size]; omega))) U ?_
         refine AWl.av ?_
         refine AWl.nil (AW.seq ?_)
         refine AW.le (σ' := ⟨_, [(1, _), (3, _), (4, _), (5, _)], []⟩) (Le.sub0 U ⟨U, U, U, U, Y⟩ trivial) ?_
         refine AW.region ?_
         refine AWl.p (by exact R_fieldAddr U (.no U) U (.tm U) fl47_0) U ?_
         refine AWl.p (by exact R_load U (.no U) U (.tm U) ty45 U U) U ?_
         refine AWl.mv ?_
         refine AWl.p (by exact R_indexAddr U (.no U) U (.tm U) (.tm U) Tryz.underlying45 ty97 (fun _ => ⟨by omega, (map_get hx)⟩)) U ?_
         refine AWl.p (by exact R_fieldAddr U (.no U) U (.tm U) fl97_0) U ?_
         refine AWl.p (by exact R_load U (.no U) U (.tm U) ty4 U U) U ?_
         refine AWl.nil ?_
         refine AW.cond (.tm U) (fun h35 => ?_) (fun h35 => ?_)
         · skip
           try simp at h35
           refine AW.le (σ' := ⟨_, [(1, _), (3, _), (4, _), (5, _)], []⟩) (Le.sub0 U ⟨U, U, U, U, Y⟩ trivial) ?_
           refine AW.region ?_
           refine AWl.mv ?_
           refine AWl.p (R_cat U (.no U) U (.tm U) (.const U) (fun _ => by first | omega | (simp only [ByteArray.size_append, bs_size]; omega))) U ?_
           refine AWl.mv ?_
           refine AWl.p (R_cat U (.no U) U (.tm U) (.tm U) (fun _ => by first | omega | (simp only [ByteArray.size_append, bs_size]; omega))) U ?_
           refine AWl.av ?_
           refine AWl.nil (AW.region ?_)
           refine AWl.mv ?_
           refine AWl.p (R_add U (.no U) U (.tm U) (.const U) (fun _ => by omega)) U ?_
           refine AWl.av ?_
           refine AWl.nil ?_
           repeat (with_reducible refine BlockQ.nor ?_)
           refine Round2.next (k + 1) ((((O ++ (ByteArray.mk #[32])) ++ (ByteArray.mk #[43])) ++ bs (fmtEdge x.Edge))) ⟨⟨by omega, batch_more hk.2 hx hne⟩, (batch_txt hx he hk0 (fmtCh_p h35))⟩ (by omega) (Le.sub0 rfl ⟨rfl, rfl, rfl, Y⟩ trivial)
         · skip
           try simp at h35
           refine AW.le (σ' := ⟨_, [(1, _), (3, _), (4, _), (5, _)], []⟩) (Le.sub0 U ⟨U, U, U, U, Y⟩ trivial) ?_
           refine AW.region ?_
           refine AWl.mv ?_
           refine AWl.p (R_cat U (.no U) U (.tm U) (.const U) (fun _ => by first | omega | (simp only [ByteArray.size_append, bs_size]; omega))) U ?_
           refine AWl.mv ?_
           refine AWl.p (R_cat U (.no U) U (.tm U) (.tm U) (fun _ => by first | omega | (simp only [ByteArray.size_append, bs_size]; omega))) U ?_
           refine AWl.av ?_
           refine AWl.nil (AW.region ?_)
           refine AWl.mv ?_
           refine AWl.p (R_add U (.no U) U (.tm U) (.const U) (fun _ => by omega)) U ?_
           refine AWl.av ?_
           refine AWl.nil ?_
           repeat (with_reducible refine BlockQ.nor ?_)
           refine Round2.next (k + 1) ((((O ++ (ByteArray.mk #[32])) ++ (ByteArray.mk #[45])) ++ bs (fmtEdge x.Edge))) ⟨⟨by omega, batch_more hk.2 hx hne⟩, (batch_txt hx he hk0 (fmtCh_m h35))⟩ (by omega) (Le.sub0 rfl ⟨rfl, rfl, rfl, Y⟩ trivial)
       · skip
         try simp at h27
         have hk0 : k = 0 := by (first | omega | (simp at h27; omega))
         refine AW.skip ?_
         refine AW.sr ?_
         refine AWl.p (by exact R_fieldAddr U (.no U) U (.tm U) fl47_0) U ?_
         refine AWl.p (by exact R_load U (.no U) U (.tm U) ty45 U U) U ?_
         refine AWl.mv ?_
         refine AWl.p (by exact R_indexAddr U (.no U) U (.tm U) (.tm U) Tryz.underlying45 ty97 (fun _ => ⟨by omega, (map_get hx)⟩)) U ?_
         refine AWl.p (by exact R_fieldAddr U (.no U) U (.tm U) fl97_0) U ?_
         refine AWl.p (by exact R_load U (.no U) U (.tm U) ty4 U U) U ?_
         refine AWl.nil ?_
         refine AW.cond (.tm U) (fun h35 => ?_) (fun h35 => ?_)
         · skip
           try simp at h35
           refine AW.le (σ' := ⟨_, [(1, _), (3, _), (4, _), (5, _)], []⟩) (Le.sub0 U ⟨U, U, U, U, Y⟩ trivial) ?_
           refine AW.region ?_
           refine AWl.mv ?_
           refine AWl.p (R_cat U (.no U) U (.tm U) (.const U) (fun _ => by first | omega | (simp only [ByteArray.size_append, bs_size]; omega))) U ?_
           refine AWl.mv ?_
           refine AWl.p (R_cat U (.no U) U (.tm U) (.tm U) (fun _ => by first | omega | (simp only [ByteArray.size_append, bs_size]; omega))) U ?_
           refine AWl.av ?_
           refine AWl.nil (AW.region ?_)
           refine AWl.mv ?_
           refine AWl.p (R_add U (.no U) U (.tm U) (.const U) (fun _ => by omega)) U ?_
           refine AWl.av ?_
           refine AWl.nil ?_
           repeat (with_reducible refine BlockQ.nor ?_)
           refine Round2.next (k + 1) (((O ++ (ByteArray.mk #[43])) ++ bs (fmtEdge x.Edge))) ⟨⟨by omega, batch_more hk.2 hx hne⟩, (batch_txt0 hx he hk0 (fmtCh_p h35))⟩ (by omega) (Le.sub0 rfl ⟨rfl, rfl, rfl, Y⟩ trivial)
         · skip
           try simp at h35
           refine AW.le (σ' := ⟨_, [(1, _), (3, _), (4, _), (5, _)], []⟩) (Le.sub0 U ⟨U, U, U, U, Y⟩ trivial) ?_
           refine AW.region ?_
           refine AWl.mv ?_
           refine AWl.p (R_cat U (.no U) U (.tm U) (.const U) (fun _ => by first | omega | (simp only [ByteArray.size_append, bs_size]; omega))) U ?_
           refine AWl.mv ?_
           refine AWl.p (R_cat U (.no U) U (.tm U) (.tm U) (fun _ => by first | omega | (simp only [ByteArray.size_append, bs_size]; omega))) U ?_
           refine AWl.av ?_
           refine AWl.nil (AW.region ?_)
           refine AWl.mv ?_
           refine AWl.p (R_add U (.no U) U (.tm U) (.const U) (fun _ => by omega)) U ?_
           refine AWl.av ?_
           refine AWl.nil ?_
           repeat (with_reducible refine BlockQ.nor ?_)
           refine Round2.next (k + 1) (((O ++ (ByteArray.mk #[45])) ++ bs (fmtEdge x.Edge))) ⟨⟨by omega, batch_more hk.2 hx hne⟩, (batch_txt0 hx he hk0 (fmtCh_m h35))⟩ (by omega) (Le.sub0 rfl ⟨rfl, rfl, rfl, Y⟩ trivial)
   · skip
     try simp at h14
     refine AW.exit ?_
     refine AW.sr ?_
     refine AWl.mv ?_
     refine AWl.av ?_
     refine AWl.nil (AW.ret ?_)
     refine Res.v U U ?_
     (rw [batch_all h6 (by omega) hk.2, he, List.take_of_length_le (by omega)])
theorem implEncodeRecord (v : Int) (b : TBatch) : FnT Tryz.prog 25 [.one (.v (.int .i64 v)), .agg (cBatch b)] (.a (.one (.v (.string (bs (encRec v b)))))) := by
 refine FnT.walk Tryz.func25 U (by kernel_rfl) Tryz.ntmps25 U fun hlen w0 => ?_
 try simp [cEdge, cGraph, cChange, cBatch, cHistory] at hlen
 have hbl := fmtBatch_len b
 have e1 : (ByteArray.mk #[59]).size = 1 := rfl
 have e2 : (ByteArray.mk #[10]).size = 1 := rfl
 refine AW.sr ?_
 refine AWl.p (R_boxz U U U (.tm U) (ts := _) (by rfl)) U ?_
 refine AWl.ac ?_
 refine AWl.nil (AW.sr ?_)
 refine AWl.p (by exact R_load U (.no U) U (.tm U) ty47 U U) U ?_
 refine AWl.p (R_callz (FnT.fr (implFormatBatch b)) U (.no U) U (.cons (.tm U) U .nil)) U ?_
 refine AWl.av ?_
 refine AWl.nil (AW.seq ?_)
 refine AW.sr ?_
 refine AWl.mv ?_
 refine AWl.p (R_callz (FnT.fr (implwithin v 1 999)) U (.no U) U (.cons (.tm U) U (.cons (.const U) U (.cons (.const U) U .nil)))) U ?_
 refine AWl.p (R_not U (.no U) U (.tm U)) U ?_
 refine AWl.mv ?_
 refine AWl.p (R_move U (by exact .not1 U U U U) U (.tmp U (by exact fun _ => rfl))) U ?_
 refine AWl.p (R_eqstr U (by exact .not1 U U U U) U (.tmp U (by exact id)) (.const U)) U ?_
 refine AWl.p (R_move U (by exact .not1 U U U U) U (.tmp U (by exact id))) U ?_
 refine AWl.p (by exact R_fieldAddr U (by exact .yes U U U U) U (.tmp U (by exact fun _ => rfl)) fl47_0) U ?_
 refine AWl.p (by exact R_load U (by exact .yes U U U U) U (.tmp U (by exact id)) ty45 U U) U ?_
 refine AWl.p (by exact R_lenm U (by exact .yes U U U U) U (.tmp U (by exact id)) (by exact .t) Tryz.underlying45) U ?_
 refine AWl.p (R_gt U (by exact .yes U U U U) U (.tmp U (by exact id)) (.const U)) U ?_
 refine AWl.p (R_and U (by exact .not1 U U U U) U (.tmp U (by exact id)) (.tmp U (by exact id))) U ?_
 refine AWl.p (R_or U (.no U) U (.tm U) (.tmp U (by exact id))) U ?_
 refine AWl.nil ?_
 refine AW.cond (.tm U) (fun h21 => ?_) (fun h21 => ?_)
 · skip
   try simp at h21
   refine AW.seq ?_
   refine AW.le (σ' := ⟨_, [(0, _), (1, _), (3, _), (4, _), (5, _)], []⟩) (Le.sub0 U ⟨U, U, U, U, U, Y⟩ trivial) ?_
   refine AW.region ?_
   refine AWl.ac ?_
   refine AWl.nil (AW.ret ?_)
   refine Res.v U U ?_
   (unfold encRec; rw [if_neg (rec_no h21)]; rfl)
 · skip
   try simp at h21
   have hok : recOk v b = true := by (exact rec_iff.2 h21)
   have hv : 1 ≤ v ∧ v ≤ 999 := by (unfold recOk inB at hok; simp at hok; omega)
   have hs1 := itoS_len (n := v) (by omega) (by omega)
   have hd : bs (recHead v b) = ((bs (itoS v) ++ (ByteArray.mk #[59])) ++ bs (fmtBatch b)) ++ (ByteArray.mk #[59]) := by (unfold recHead; rw [show (ByteArray.mk #[59]) = bs [59] from rfl]; simp only [bs_append])
   have hdl : (recHead v b).length ≤ 120 := by (unfold recHead; simp only [List.length_append, List.length_singleton]; omega)
   have hc := chkS_le (recHead v b)
   have hs2 := itoS_len (n := chkS (recHead v b)) (by omega) (by omega)
   refine AW.skip ?_
   refine AW.seq ?_
   refine AW.le (σ' := ⟨_, [(0, _), (1, _), (3, _), (4, _), (5, _)], []⟩) (Le.sub0 U ⟨U, U, U, U, U, Y⟩ trivial) ?_
   refine AW.region ?_
   refine AWl.mv ?_
   refine AWl.p (R_callz (FnT.fr (implFormatIntA v (by omega) (by omega))) U (.no U) U (.cons (.tm U) U .nil)) U ?_
   refine AWl.p (R_cat U (.no U) U (.tm U) (.const U) (fun _ => by first | omega | (simp only [ByteArray.size_append, bs_size]; omega))) U ?_
   refine AWl.mv ?_
   refine AWl.p (R_cat U (.no U) U (.tm U) (.tm U) (fun _ => by first | omega | (simp only [ByteArray.size_append, bs_size]; omega))) U ?_
   refine AWl.p (R_cat U (.no U) U (.tm U) (.const U) (fun _ => by first | omega | (simp only [ByteArray.size_append, bs_size]; omega))) U ?_
   refine AWl.av ?_
   refine AWl.nil (AW.seq ?_)
   refine AW.le (σ' := ⟨_, [(0, _), (1, _), (3, _), (4, _), (5, _), (6, _)], []⟩) (Le.sub0 U ⟨U, U, U, U, U, U, Y⟩ trivial) ?_
   refine AW.region ?_
   refine AWl.mv ?_
   refine AWl.mv ?_
   refine AWl.p (R_callz (FnT.fr (implChecksum (recHead v b) (by omega))) U (.no U) U (.cons (.tm U) U .nil)) U ?_
   refine AWl.p (R_callz (FnT.fr (implFormatIntA (chkS (recHead v b)) (by omega) (by omega))) U (.no U) U (.cons (.tm U) U .nil)) U ?_
   refine AWl.p (R_cat U (.no U) U (.tm U) (.tm U) (fun _ => by first | omega | (simp only [ByteArray.size_append, bs_size]; omega))) U ?_
   refine AWl.p (R_cat U (.no U) U (.tm U) (.const U) (fun _ => by first | omega | (simp only [ByteArray.size_append, bs_size]; omega))) U ?_
   refine AWl.av ?_
   refine AWl.nil (AW.ret ?_)
   refine Res.v U U ?_
   (unfold encRec; rw [if_pos hok]; rw [← hd, show (ByteArray.mk #[10]) = bs [10] from rfl]; simp only [bs_append])
theorem specEncodeRecord (v : Int) (b : TBatch) : FnT Tryz.prog 27 [.one (.v (.int .i64 v)), .agg (cBatch b)] (.a (.one (.v (.string (bs (encRec v b)))))) := by
 refine FnT.walk Tryz.func27 U (by kernel_rfl) Tryz.ntmps27 U fun hlen w0 => ?_
 try simp [cEdge, cGraph, cChange, cBatch, cHistory] at hlen
 have hbl := fmtBatch_len b
 have e1 : (ByteArray.mk #[59]).size = 1 := rfl
 have e2 : (ByteArray.mk #[10]).size = 1 := rfl
 refine AW.sr ?_
 refine AWl.p (R_boxz U U U (.tm U) (ts := _) (by rfl)) U ?_
 refine AWl.ac ?_
 refine AWl.nil (AW.seq ?_)
 refine AW.sr ?_
 refine AWl.mv ?_
 refine AWl.p (R_callz (FnT.fr (specl1In v 1 999)) U (.no U) U (.cons (.tm U) U (.cons (.const U) U (.cons (.const U) U .nil)))) U ?_
 refine AWl.p (R_not U (.no U) U (.tm U)) U ?_
 refine AWl.mv ?_
 refine AWl.p (by exact R_fieldAddr U (by exact .not1 U U U U) U (.tmp U (by exact fun _ => rfl)) fl47_0) U ?_
 refine AWl.p (by exact R_load U (by exact .not1 U U U U) U (.tmp U (by exact id)) ty45 U U) U ?_
 refine AWl.p (by exact R_lenm U (by exact .not1 U U U U) U (.tmp U (by exact id)) (by exact .t) Tryz.underlying45) U ?_
 refine AWl.p (R_gt U (by exact .not1 U U U U) U (.tmp U (by exact id)) (.const U)) U ?_
 refine AWl.p (R_move U (by exact .not1 U U U U) U (.tmp U (by exact id))) U ?_
 refine AWl.p (by exact R_load U (by exact .yes U U U U) U (.tmp U (by exact fun _ => rfl)) ty47 U U) U ?_
 refine AWl.p (R_callz (FnT.fr (specFormatBatch b)) U (by exact .yes U U U U) U (.cons (.tmp U (by exact id)) U .nil)) U ?_
 refine AWl.p (R_eqstr U (by exact .yes U U U U) U (.tmp U (by exact id)) (.const U)) U ?_
 refine AWl.p (R_and U (by exact .not1 U U U U) U (.tmp U (by exact id)) (.tmp U (by exact id))) U ?_
 refine AWl.p (R_or U (.no U) U (.tm U) (.tmp U (by exact id))) U ?_
 refine AWl.nil ?_
 refine AW.cond (.tm U) (fun h19 => ?_) (fun h19 => ?_)
 · skip
   try simp at h19
   refine AW.seq ?_
   refine AW.le (σ' := ⟨_, [(0, _), (1, _), (3, _), (4, _)], []⟩) (Le.sub0 U ⟨U, U, U, U, Y⟩ trivial) ?_
   refine AW.region ?_
   refine AWl.ac ?_
   refine AWl.nil (AW.ret ?_)
   refine Res.v U U ?_
   (unfold encRec; rw [if_neg (rec_no (h19.imp id fun h => ⟨h.2, h.1⟩))]; rfl)
 · skip
   try simp at h19
   have hok : recOk v b = true := (rec_iff.2 ⟨h19.1, fun e => List.eq_nil_of_length_eq_zero (by rcases Nat.eq_zero_or_pos b.Changes.length with h | h; exact h; exact absurd e (h19.2 h))⟩)
   have hv : 1 ≤ v ∧ v ≤ 999 := by (unfold recOk inB at hok; simp at hok; omega)
   have hs1 := itoS_len (n := v) (by omega) (by omega)
   have hd : bs (recHead v b) = ((bs (itoS v) ++ (ByteArray.mk #[59])) ++ bs (fmtBatch b)) ++ (ByteArray.mk #[59]) := by (unfold recHead; rw [show (ByteArray.mk #[59]) = bs [59] from rfl]; simp only [bs_append])
   have hdl : (recHead v b).length ≤ 120 := by (unfold recHead; simp only [List.length_append, List.length_singleton]; omega)
   have hc := chkS_le (recHead v b)
   have hs2 := itoS_len (n := chkS (recHead v b)) (by omega) (by omega)
   refine AW.skip ?_
   refine AW.seq ?_
   refine AW.le (σ' := ⟨_, [(0, _), (1, _), (3, _), (4, _)], []⟩) (Le.sub0 U ⟨U, U, U, U, Y⟩ trivial) ?_
   refine AW.drawn 8 (nthB [[], [0], [0, 1], [], [0, 1, 3], [0, 1, 2, 3, 4], [0, 1, 2, 3, 4, 5], [0, 1, 2, 3, 4, 5, 6]]) (by kernel_rfl) (by kernel_rfl) (by kernel_rfl) ?_
   refine DrawC.step U U U (Loc.of U fun σ' hs => R_move U (.no U) (hd_sup hs U) (.tm (hs.slots _ _ U))) ?_
   refine DrawC.step U U U (Loc.of U fun σ' hs => R_callz (FnT.fr (specFormatIntP v (by omega) (by omega))) U (.no U) (hd_sup hs U) (.cons (.tm (hs.slots _ _ U)) (readA_sup hs U) .nil)) ?_
   refine DrawC.step U U U (Loc.of U fun σ' hs => R_cat U (.no U) (hd_sup hs U) (.tm (hs.slots _ _ U)) (.const U) (fun _ => by first | omega | (simp only [ByteArray.size_append, bs_size]; omega))) ?_
   refine DrawC.step U U U (Loc.of U fun σ' hs => (by exact R_load U (.no U) (hd_sup hs U) (.tm (hs.slots _ _ U)) ty47 U U)) ?_
   refine DrawC.step U U U (Loc.of U fun σ' hs => R_callz (FnT.fr (specFormatBatch b)) U (.no U) (hd_sup hs U) (.cons (.tm (hs.slots _ _ U)) (readA_sup hs U) .nil)) ?_
   refine DrawC.step U U U (Loc.of U fun σ' hs => R_cat U (.no U) (hd_sup hs U) (.tm (hs.slots _ _ U)) (.tm (hs.slots _ _ U)) (fun _ => by first | omega | (simp only [ByteArray.size_append, bs_size]; omega))) ?_
   refine DrawC.step U U U (Loc.of U fun σ' hs => R_cat U (.no U) (hd_sup hs U) (.tm (hs.slots _ _ U)) (.const U) (fun _ => by first | omega | (simp only [ByteArray.size_append, bs_size]; omega))) ?_
   refine DrawC.step U U U (Loc.of U fun σ' hs => R_assign U (.no U) (hd_sup hs U) (.tm (hs.slots _ _ U))) ?_
   refine DrawC.fin U U ?_
   refine AWl.nil (AW.seq ?_)
   refine AW.le (σ' := ⟨_, [(0, _), (1, _), (3, _), (4, _), (5, _)], []⟩) (Le.sub0 U ⟨U, U, U, U, U, Y⟩ trivial) ?_
   refine AW.region ?_
   refine AWl.mv ?_
   refine AWl.mv ?_
   refine AWl.p (R_callz (FnT.fr (specChecksum (recHead v b) (by omega))) U (.no U) U (.cons (.tm U) U .nil)) U ?_
   refine AWl.p (R_callz (FnT.fr (specFormatIntP (chkS (recHead v b)) (by omega) (by omega))) U (.no U) U (.cons (.tm U) U .nil)) U ?_
   refine AWl.p (R_cat U (.no U) U (.tm U) (.tm U) (fun _ => by first | omega | (simp only [ByteArray.size_append, bs_size]; omega))) U ?_
   refine AWl.p (R_cat U (.no U) U (.tm U) (.const U) (fun _ => by first | omega | (simp only [ByteArray.size_append, bs_size]; omega))) U ?_
   refine AWl.av ?_
   refine AWl.nil (AW.ret ?_)
   refine Res.v U U ?_
   (unfold encRec; rw [if_pos hok]; rw [← hd, show (ByteArray.mk #[10]) = bs [10] from rfl]; simp only [bs_append])
end Go.Proofs.YtbkhopfpejhnlaaGreatDoor
