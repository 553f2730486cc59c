import Derived.Test.YtbkhopfpejhnlaaGreatDoorRows
import Derived.Test.YtbkhopfpejhnlaaGreatDoorTie
import Derived.Test.YtbkhopfpejhnlaaGreatDoorCards
import Derived.Test.YtbkhopfpejhnlaaGreatDoorOpenBta
import Derived.Test.YtbkhopfpejhnlaaGreatDoorB141ta
import Derived.WalkKit
import Derived.Handy
import Derived.Lay
import Derived.SevenTiedAt
import Derived.MakeChecks
import Derived.Stop.LaidErr
set_option linter.unusedVariables false
set_option linter.unusedSimpArgs false
namespace Go.Proofs.YtbkhopfpejhnlaaGreatDoor
open Go.RowKit Go.Q Go.D Go.ChangeShapes Go.WideShapes Go.ChangeAt Go.Deep
open Go.ChangeMaps (open_string shut_string)
set_option maxRecDepth 100000 in
set_option maxHeartbeats 1000000 in
theorem lawFnLog (bs : List Int) (hb : ∀ n ∈ bs, 0 ≤ n ∧ n < 256) : FnT Tryz.prog 4 [.one (.sl 1 (byR bs))] (.a (.one (.v (.bool true)))) := by
 refine FnT.walk Tryz.func4 U (by kernel_rfl) Tryz.ntmps4 U fun hlen w0 => ?_
 try simp [cEdge, cGraph, cChange, cBatch, cHistory] at hlen
 clear hlen
 refine AW.sr ?_
 refine AWl.ac ?_
 refine AWl.nil (AW.seq ?_)
 refine AW.sr ?_
 refine AWl.mv ?_
 refine AWl.p (R_callz (FnT.fr (lawsbig bs)) U (.no U) U (.cons (.tm U) U .nil)) U ?_
 refine AWl.nil ?_
 refine AW.cond (.tm U) (fun h25 => ?_) (fun h25 => ?_)
 · skip
   try simp at h25
   refine AW.sr ?_
   refine AWl.ac ?_
   refine AWl.nil (AW.ret ?_)
   refine Res.v U U ?_
   rfl
 · skip
   try simp at h25
   refine AW.skip ?_
   refine AW.sr ?_
   refine AWl.mv ?_
   refine AWl.opE (R_calleX ((specDrawEncodeRecord bs hb).fr) U U U (.cons (.tm U) U .nil)) ?_
   rintro _ ⟨z28, hz28, rfl⟩
   try dsimp only at hz28
   refine AWl.p (R_movet U (.no U) U U fun _ => rfl) U ?_
   refine AWl.p (R_extract U (.no U) U U (fun _ => rfl) U) U ?_
   refine AWl.p (R_extract U (.no U) U U (fun _ => rfl) U) U ?_
   refine AWl.add (R_alloc 4 U U U in47 U U U) U ?_
   refine AWl.av ?_
   refine AWl.chgb (R_store_pb U U U (.tm U) (.tm U) U ty47 U U U (by kernel_rfl) U) ?_
   refine AWl.nil (AW.sr ?_)
   refine AWl.mv ?_
   refine AWl.p (by exact R_load_pp U (.no U) U (.tm U) U ty47 U U) U ?_
   refine AWl.p (R_callz (FnT.fr (implEncodeRecord z28.1 z28.2)) U (.no U) U (.cons (.tm U) U (.cons (.tm U) U .nil))) U ?_
   refine AWl.av ?_
   refine AWl.nil (AW.sr ?_)
   refine AWl.mv ?_
   refine AWl.p (R_callz (FnT.fr (implDecodeRecordL (encRec z28.1 z28.2) (by have := enc_len z28.1 z28.2; omega))) U (.no U) U (.cons (.tm U) U .nil)) U ?_
   refine AWl.p (R_movet U (.no U) U U fun _ => rfl) U ?_
   refine AWl.p (R_extract U (.no U) U U (fun _ => rfl) U) U ?_
   refine AWl.p (R_extract U (.no U) U U (fun _ => rfl) U) U ?_
   refine AWl.p (R_extract U (.no U) U U (fun _ => rfl) U) U ?_
   refine AWl.add (R_alloc 7 U U U in47 U U U) U ?_
   refine AWl.av ?_
   refine AWl.chgb (R_store_pb U U U (.tm U) (.tm U) U ty47 U U U (by kernel_rfl) U) ?_
   refine AWl.av ?_
   refine AWl.nil (AW.seq ?_)
   refine AW.sr ?_
   refine AWl.mv ?_
   refine AWl.mv ?_
   refine AWl.p (by exact R_load_pp U (.no U) U (.tm U) U ty47 U U) U ?_
   refine AWl.p (R_callz (FnT.fr (specEncodeRecord z28.1 z28.2)) U (.no U) U (.cons (.tm U) U (.cons (.tm U) U .nil))) U ?_
   refine AWl.p (R_nestr U (.no U) U (.tm U) (.tm U)) U ?_
   refine AWl.mv ?_
   refine AWl.p (R_move U (by exact .not1 U U U U) U (.tmp U (by exact fun _ => rfl))) U ?_
   refine AWl.p (R_move U (by exact .not1 U U U U) U (.tmp U (by exact fun _ => rfl))) U ?_
   refine AWl.p (R_nestr U (by exact .not1 U U U U) U (.tmp U (by exact id)) (.const U)) U ?_
   refine AWl.p (R_neb U (by exact .not1 U U U U) U (.tmp U (by exact id)) (.tmp U (by exact id)) Tryz.underlying4) U ?_
   refine AWl.p (R_or U (.no U) U (.tm U) (.tmp U (by exact id))) U ?_
   refine AWl.mv ?_
   refine AWl.p (R_move U (by exact .not1 U U U U) U (.tmp U (by exact fun _ => rfl))) U ?_
   refine AWl.p (R_move U (by exact .not1 U U U U) U (.tmp U (by exact id))) U ?_
   refine AWl.p (R_move U (by exact .yes U U U U) U (.tmp U (by exact fun _ => rfl))) U ?_
   refine AWl.p (R_move U (by exact .yes U U U U) U (.tmp U (by exact fun _ => rfl))) U ?_
   refine AWl.p (R_ne U (by exact .yes U U U U) U (.tmp U (by exact id)) (.tmp U (by exact id))) U ?_
   refine AWl.p (R_move U (by exact .yes U U U U) U (.tmp U (by exact id))) U ?_
   refine AWl.p (by exact R_load_pp U (by exact .not U U U U) U (.tmp U (by exact fun _ => rfl)) U ty47 U U) U ?_
   refine AWl.p (by exact R_load_pp U (by exact .not U U U U) U (.tmp U (by exact fun _ => rfl)) U ty47 U U) U ?_
   refine AWl.p (R_callq U (by exact .not U U U U) U (.cons (.tmp U (by exact id)) U (.cons (.tmp U (by exact id)) U .nil)) fun hq => FnT.fr (implEqualBatches (recB (encRec z28.1 z28.2)) z28.2)) U ?_
   refine AWl.p (R_not U (by exact .not U U U U) U (.tmp U (by exact id))) U ?_
   refine AWl.p (R_or U (by exact .yes U U U U) U (.tmp U (by exact id)) (.tmp U (by exact id))) U ?_
   refine AWl.p (R_and U (by exact .not1 U U U U) U (.tmp U (by exact id)) (.tmp U (by exact id))) U ?_
   refine AWl.p (R_or U (.no U) U (.tm U) (.tmp U (by exact id))) U ?_
   refine AWl.nil ?_
   refine AW.cond (.tm U) (fun h64 => ?_) (fun h64 => ?_)
   · exact absurd h64 (by exact absurd h64 (by simp; exact ⟨enc_isnt _ _, fun h => enc_get h⟩))
   · skip
     try simp at h64
     refine AW.skip ?_
     refine AW.sr ?_
     refine AWl.mv ?_
     refine AWl.opE (R_calleX ((specDrawDecodeRecord bs hb).fr) U U U (.cons (.tm U) U .nil)) ?_
     rintro _ ⟨z66, hz66, rfl⟩
     try dsimp only at hz66
     refine AWl.av ?_
     refine AWl.nil (AW.sr ?_)
     refine AWl.mv ?_
     refine AWl.p (R_callz (FnT.fr (implDecodeRecord z66 (by omega))) U (.no U) U (.cons (.tm U) U .nil)) U ?_
     refine AWl.p (R_movet U (.no U) U U fun _ => rfl) U ?_
     refine AWl.p (R_extract U (.no U) U U (fun _ => rfl) U) U ?_
     refine AWl.p (R_extract U (.no U) U U (fun _ => rfl) U) U ?_
     refine AWl.p (R_extract U (.no U) U U (fun _ => rfl) U) U ?_
     refine AWl.add (R_alloc 11 U U U in47 U U U) U ?_
     refine AWl.av ?_
     refine AWl.chgb (R_store_pb U U U (.tm U) (.tm U) U ty47 U U U (by kernel_rfl) U) ?_
     refine AWl.av ?_
     refine AWl.nil (AW.seq ?_)
     refine AW.sr ?_
     refine AWl.mv ?_
     refine AWl.mv ?_
     refine AWl.p (R_move U (by exact .yes1 U U U U) U (.tmp U (by exact fun _ => rfl))) U ?_
     refine AWl.p (by exact R_load_pp U (by exact .yes1 U U U U) U (.tmp U (by exact fun _ => rfl)) U ty47 U U) U ?_
     refine AWl.p (R_callq U (by exact .yes1 U U U U) U (.cons (.tmp U (by exact id)) U (.cons (.tmp U (by exact id)) U .nil)) fun hq => FnT.fr (specEncodeRecord (recV z66.data.toList) (recB z66.data.toList))) U ?_
     refine AWl.p (R_move U (by exact .yes1 U U U U) U (.tmp U (by exact fun _ => rfl))) U ?_
     refine AWl.p (R_nestr U (by exact .yes1 U U U U) U (.tmp U (by exact id)) (.tmp U (by exact id))) U ?_
     refine AWl.p (R_and U (.no U) U (.tm U) (.tmp U (by exact id))) U ?_
     refine AWl.nil ?_
     refine AW.cond (.tm U) (fun h80 => ?_) (fun h80 => ?_)
     · exact absurd h80 (by exact absurd h80 (by simp; intro h; rw [(recG_get h).1, bs_of]))
     · skip
       try simp at h80
       refine AW.skip ?_
       refine AW.sr ?_
       refine AWl.mv ?_
       refine AWl.opE (R_calleX ((specDrawScanLog bs hb).fr) U U U (.cons (.tm U) U .nil)) ?_
       rintro _ ⟨z82, hz82, rfl⟩
       try dsimp only at hz82
       refine AWl.av ?_
       refine AWl.nil (AW.sr ?_)
       refine AWl.mv ?_
       refine AWl.p (R_callz (FnT.fr (implScanLog z82 (by omega))) U (.no U) U (.cons (.tm U) U .nil)) U ?_
       refine AWl.p (R_movet U (.no U) U U fun _ => rfl) U ?_
       refine AWl.p (R_extract U (.no U) U U (fun _ => rfl) U) U ?_
       refine AWl.p (R_extract U (.no U) U U (fun _ => rfl) U) U ?_
       refine AWl.p (R_extract U (.no U) U U (fun _ => rfl) U) U ?_
       refine AWl.av ?_
       refine AWl.av ?_
       refine AWl.av ?_
       refine AWl.nil (AW.sr ?_)
       refine AWl.mv ?_
       refine AWl.p (R_callz (FnT.fr (specScanLog z82 (by omega))) U (.no U) U (.cons (.tm U) U .nil)) U ?_
       refine AWl.p (R_movet U (.no U) U U fun _ => rfl) U ?_
       refine AWl.p (R_extract U (.no U) U U (fun _ => rfl) U) U ?_
       refine AWl.p (R_extract U (.no U) U U (fun _ => rfl) U) U ?_
       refine AWl.p (R_extract U (.no U) U U (fun _ => rfl) U) U ?_
       refine AWl.av ?_
       refine AWl.av ?_
       refine AWl.av ?_
       refine AWl.nil (AW.seq ?_)
       refine AW.sr ?_
       refine AWl.mv ?_
       refine AWl.mv ?_
       refine AWl.p (R_callz (FnT.fr (lawssameInts (scanL z82.data.toList).1 (scanL z82.data.toList).1)) U (.no U) U (.cons (.tm U) U (.cons (.tm U) U .nil))) U ?_
       refine AWl.p (R_not U (.no U) U (.tm U)) U ?_
       refine AWl.mv ?_
       refine AWl.p (R_move U (by exact .not1 U U U U) U (.tmp U (by exact fun _ => rfl))) U ?_
       refine AWl.p (by exact R_lenm U (by exact .not1 U U U U) U (.tmp U (by exact id)) (by exact .t) Tryz.underlying56) U ?_
       refine AWl.p (R_move U (by exact .not1 U U U U) U (.tmp U (by exact fun _ => rfl))) U ?_
       refine AWl.p (by exact R_lenm U (by exact .not1 U U U U) U (.tmp U (by exact id)) (by exact .t) Tryz.underlying56) U ?_
       refine AWl.p (R_ne U (by exact .not1 U U U U) U (.tmp U (by exact id)) (.tmp U (by exact id))) U ?_
       refine AWl.p (R_or U (.no U) U (.tm U) (.tmp U (by exact id))) U ?_
       refine AWl.mv ?_
       refine AWl.p (R_move U (by exact .not1 U U U U) U (.tmp U (by exact fun _ => rfl))) U ?_
       refine AWl.p (R_move U (by exact .not1 U U U U) U (.tmp U (by exact fun _ => rfl))) U ?_
       refine AWl.p (R_ne U (by exact .not1 U U U U) U (.tmp U (by exact id)) (.tmp U (by exact id))) U ?_
       refine AWl.p (R_or U (.no U) U (.tm U) (.tmp U (by exact id))) U ?_
       refine AWl.mv ?_
       refine AWl.p (R_move U (by exact .not1 U U U U) U (.tmp U (by exact fun _ => rfl))) U ?_
       refine AWl.p (R_callq U (by exact .not1 U U U U) U (.cons (.tmp U (by exact id)) U .nil) fun hq => FnT.fr (implChecksumS z82 hz82)) U ?_
       refine AWl.p (R_move U (by exact .not1 U U U U) U (.tmp U (by exact fun _ => rfl))) U ?_
       refine AWl.p (R_callq U (by exact .not1 U U U U) U (.cons (.tmp U (by exact id)) U .nil) fun hq => FnT.fr (specChecksumS z82 hz82)) U ?_
       refine AWl.p (R_ne U (by exact .not1 U U U U) U (.tmp U (by exact id)) (.tmp U (by exact id))) U ?_
       refine AWl.p (R_or U (.no U) U (.tm U) (.tmp U (by exact id))) U ?_
       refine AWl.nil ?_
       refine AW.cond (.tm U) (fun h117 => ?_) (fun h117 => ?_)
       · exact absurd h117 (by simp)
       · skip
         try simp at h117
         have hat := atF_le (l := bs) (i := 1) hb
         have hcut := mul_cut (n := (z82.size : Int)) hat (by omega)
         have hpre := scanL_pre (l := z82.data.toList) (c := (atF bs 1 * ((z82.size : Int) + 1) / 256).toNat) (by rw [← sz_len]; omega)
         refine AW.skip ?_
         refine AW.sr ?_
         refine AWl.mv ?_
         refine AWl.p (R_callz (FnT.fr (lawsat bs 1 (by omega) (by omega) hb)) U (.no U) U (.cons (.tm U) U (.cons (.const U) U .nil))) U ?_
         refine AWl.mv ?_
         refine AWl.p (R_len_s U (.no U) U (.tm U) Tryz.underlying9) U ?_
         refine AWl.p (R_add U (.no U) U (.tm U) (.const U) (fun _ => by omega)) U ?_
         refine AWl.p (R_mul U (.no U) U (.tm U) (.tm U) (fun _ => by omega)) U ?_
         refine AWl.p (R_quo U (.no U) U (.tm U) (.const U) (fun _ => ⟨by omega, by omega⟩)) U ?_
         refine AWl.av ?_
         refine AWl.nil (AW.sr ?_)
         refine AWl.mv ?_
         refine AWl.mv ?_
         refine AWl.p (R_strSlice (m := (atF bs 1 * ((z82.size : Int) + 1) / 256).toNat) U (.no U) U (.tm U) .no (.yes (.tm U) (fun _ => by first | omega | (simp <;> omega))) Tryz.underlying9 (fun _ => ⟨by omega, by first | omega | (simp; omega)⟩)) U ?_
         refine AWl.p (R_callz (FnT.fr (implScanLogT z82 (atF bs 1 * ((z82.size : Int) + 1) / 256).toNat (by omega))) U (.no U) U (.cons (.tm U) U .nil)) U ?_
         refine AWl.p (R_movet U (.no U) U U fun _ => rfl) U ?_
         refine AWl.p (R_extract U (.no U) U U (fun _ => rfl) U) U ?_
         refine AWl.p (R_extract U (.no U) U U (fun _ => rfl) U) U ?_
         refine AWl.p (R_extract U (.no U) U U (fun _ => rfl) U) U ?_
         refine AWl.av ?_
         refine AWl.av ?_
         refine AWl.av ?_
         refine AWl.nil (AW.seq ?_)
         refine AW.sr ?_
         refine AWl.mv ?_
         refine AWl.p (by exact R_lenm U (.no U) U (.tm U) (by exact .t) Tryz.underlying55) U ?_
         refine AWl.mv ?_
         refine AWl.p (by exact R_lenm U (.no U) U (.tm U) (by exact .t) Tryz.underlying55) U ?_
         refine AWl.p (R_gt U (.no U) U (.tm U) (.tm U)) U ?_
         refine AWl.mv ?_
         refine AWl.p (R_move U (by exact .not1 U U U U) U (.tmp U (by exact fun _ => rfl))) U ?_
         refine AWl.p (R_move U (by exact .not1 U U U U) U (.tmp U (by exact fun _ => rfl))) U ?_
         refine AWl.p (R_gt U (by exact .not1 U U U U) U (.tmp U (by exact id)) (.tmp U (by exact id))) U ?_
         refine AWl.p (R_or U (.no U) U (.tm U) (.tmp U (by exact id))) U ?_
         refine AWl.mv ?_
         refine AWl.p (R_move U (by exact .not1 U U U U) U (.tmp U (by exact fun _ => rfl))) U ?_
         refine AWl.p (R_move U (by exact .not1 U U U U) U (.tmp U (by exact fun _ => rfl))) U ?_
         refine AWl.p (R_move U (by exact .not1 U U U U) U (.tmp U (by exact fun _ => rfl))) U ?_
         refine AWl.p (by exact R_lenm U (by exact .not1 U U U U) U (.tmp U (by exact id)) (by exact .t) Tryz.underlying55) U ?_
         refine AWl.p (R_slice (m := (scanL (z82.data.toList.take (atF bs 1 * ((z82.size : Int) + 1) / 256).toNat)).1.length) U (by exact .not1 U U U U) U (.tmp U (by exact id)) .no (.yes (.tmp U (by exact id)) (fun hq => by first | omega | (simp <;> omega))) Tryz.underlying55 ty3 (fun hq => ⟨Nat.zero_le _, by rw [List.length_map]; exact hpre.1.length_le⟩)) U ?_
         refine AWl.p (R_callq U (by exact .not1 U U U U) U (.cons (.tmp U (by exact id)) U (.cons (.tmp U (by exact id)) U .nil)) fun hq => FnT.fr (lawssameIntsT (scanL (z82.data.toList.take (atF bs 1 * ((z82.size : Int) + 1) / 256).toNat)).1 (scanL z82.data.toList).1 (scanL (z82.data.toList.take (atF bs 1 * ((z82.size : Int) + 1) / 256).toNat)).1.length)) U ?_
         refine AWl.p (R_not U (by exact .not1 U U U U) U (.tmp U (by exact id))) U ?_
         refine AWl.p (R_or U (.no U) U (.tm U) (.tmp U (by exact id))) U ?_
         refine AWl.nil ?_
         refine AW.cond (.tm U) (fun h151 => ?_) (fun h151 => ?_)
         · exact absurd h151 (by exact absurd h151 (by simp; exact ⟨⟨hpre.1.length_le, hpre.2.1⟩, List.prefix_iff_eq_take.1 hpre.1⟩))
         · skip
           try simp at h151
           refine AW.skip ?_
           refine AW.sr ?_
           refine AWl.mv ?_
           refine AWl.mv ?_
           refine AWl.p (R_le U (.no U) U (.tm U) (.tm U)) U ?_
           refine AWl.av ?_
           refine AWl.nil (AW.ret ?_)
           refine Res.v U U ?_
           exact congrArg Value.bool (decide_eq_true (by have := hpre.2.2; omega))
namespace LFnLog
theorem opensByte : OpensT cByte Tryz.prog 5 := opensTByte Tryz.underlying5
theorem opensByteS : OpensT (fun (l : List (Fin 256)) => [T.sl 1 (l.map cByte)]) Tryz.prog 22 := opensTSlice (c := cByte) Tryz.underlying22 (by kernel_rfl) (by decide) (fun _ => rfl) opensByte
theorem ownFnLog : ownKnob Tryz.prog.godebug = none := by kernel_rfl
theorem laidOutFnLog : laidOutB Tryz.prog = true := by kernel_rfl
set_option maxRecDepth 100000 in
theorem liftedFnLog (os : Os) (started : os.Started) (H : Type) (enc : TypeId × Value → H) :
 ReturnsInHanded {} Tryz.checked os 4 .any (fun w args => (Rows.fnLogSpec.pre enc Tryz.prog Tryz.f4 Rows.fnLogRow.domain false w args ∧ laidMetH Tryz.prog Rows.fnLogRow.laid w) ∧ sizedMet enc Tryz.prog Tryz.f4 (OpenSpec.ofChange Rows.fnLogSpec) false w args) (Rows.fnLogSpec.post enc Tryz.prog Tryz.f4 false true false false) := by
 refine frame_laid (C := Tryz.checked) (X := fun w => laidMetH Tryz.prog Rows.fnLogRow.laid w) (fun _ _ hh h => h.of_heap hh) ownFnLog started (by kernel_rfl) Tryz.func4
  (ChangeSpec.witness_shaped (enc := enc) (C := Tryz.checked) (os := os) (X := fun w _ => laidMetH Tryz.prog Rows.fnLogRow.laid w) false (World.laidAll Tryz.prog os Rows.fnLogRow.laid) #[.slice none 0 0] 8 (World.laidAll_os _ _ _)
   (World.shaped_of_ZipB (by kernel_rfl) (by kernel_rfl)) (by kernel_rfl) (by kernel_rfl) (by kernel_rfl)
   (by rw [MakeChecks.laidMetH_plain _ _ _ (by kernel_rfl)]; exact laidMet_laidAll _ (by kernel_rfl) (by kernel_rfl))) ?_
 intro W base args ds gs before hval0 hW hX hsh
 rw [MakeChecks.laidMetH_plain _ _ _ (by kernel_rfl)] at hX
 have hes : ∃ tp p, W.var? Tryz.prog "strconv.ErrSyntax" = some #[.iface tp p] := by
  obtain ⟨a0, s0, hv0, _⟩ := laid_sentinel (g := ((Tryz.prog).globalNamed "strconv.ErrSyntax").getD 0) (laid_one "strconv.ErrSyntax" (x := ("strconv.ErrSyntax", Rows.laid_strconv_ErrSyntax)) hX (by kernel_rfl)) (by kernel_rfl) (by kernel_rfl) Tryz.underlying121
   (fun u h => typeName_ptr_named (nm := "errors.errorString") (tp := 210) (by rw [show "*" ++ "errors.errorString" = "*errors.errorString" by decide]; kernel_rfl) (by kernel_rfl) (by decide) u (by rw [show "*" ++ "errors.errorString" = "*errors.errorString" by decide]; exact h)) Tryz.underlying210 Tryz.underlying212 rfl rfl Tryz.underlying9 (by kernel_rfl) (by kernel_rfl)
  exact ⟨_, _, hv0⟩
 have hgood : Go.Q.Good W [] := Go.Q.good_of ⟨hsh, Lib.tabIs_of_head (g := ((Tryz.prog).globalNamed "internal/strconv.uint64pow10").getD 0) (t := (((Tryz.prog).globals[((Tryz.prog).globalNamed "internal/strconv.uint64pow10").getD 0]?).map (·.type)).getD 0) (e := 179) (n := 20) (by kernel_rfl) (by kernel_rfl) (by kernel_rfl) (by kernel_rfl) (by kernel_rfl) (by kernel_rfl) (laid_one "internal/strconv.uint64pow10" (x := ("internal/strconv.uint64pow10", Lib.tabData .u64 Lib.pow10Tab)) hX (by kernel_rfl)), hes⟩
 have hval : ∀ (j : Nat) t v, Tryz.f4.params[j]? = some t → args[j]? = some v → Value.okWide Tryz.prog W .any base t v := hval0
 have hW' := hW
 obtain ⟨p, q, hA0, hV, rfl, hfz, hnd⟩ := hW
 have hA : DataW.TrodAll enc Tryz.prog W 0 (fun _ => true) true Tryz.f4.params.toList args.toList ds p := hA0
 rw [Tryz.params4] at hA hval
 obtain ⟨v0, vs0, d0, ds0, p0, q0, hargs, rfl, rfl, h0, r0⟩ := trodAll_cons hA
 obtain ⟨rfl, rfl, rfl⟩ := trodAll_nil r0
 obtain rfl : args = #[v0] := by cases args; simp_all
 obtain ⟨rfl, rfl⟩ := trodVars_none hV
 obtain ⟨a0, len0, cap0, rfl⟩ := okWide_slice Tryz.underlying22 (hval 0 22 v0 rfl rfl)
 have k0 := h0
 have lt0 : ∀ x ∈ p0, x.block < W.heap.size := by obtain ⟨m, hm⟩ := k0; exact DataW.trod_lt m _ _ _ hm
 obtain ⟨x0, F0, hs0⟩ := OpensT.vl opensByteS h0
 clear hA0 hval0
 refine ((lawFnLog _ (fin_range x0)).2 W _ _ hgood ⟨_, _, _, _, rfl, (show V0r false W (.one _) _ _ from C_fin (Cs_one_inv hs0)), ⟨rfl, rfl⟩, rfl⟩).mono fun e W' ⟨v, F, he, hv, _, _, bel⟩ => ?_
 have hv2 : v = .bool true := by unfold Vr V0r C at hv; exact hv.1
 subst hv2
 subst he
 exact ⟨_, rfl, _, _, _, [], _, [], hW', trodAll_mk1 (shut_bool Tryz.underlying4 _), (trodAll_cons_mk (Below.trod laidOutFnLog (by kernel_rfl) (of_decide_eq_true (by kernel_rfl)) k0 bel lt0) trodAll_mk0), rfl, Below.frame bel _, fun h => by cases h⟩
theorem jfa : (Rows.fnLogRow.inPlace == Tryz.prog.inPlace 4) = true := by kernel_rfl
theorem jfb : (Rows.fnLogRow.unfollowed == Tryz.prog.unfollowed 4) = true := by kernel_rfl
theorem jfc : (Rows.fnLogRow.recurses == Tryz.prog.recurses 4) = true := by kernel_rfl
theorem jfd : (Rows.fnLogRow.named == Tryz.prog.varsNamed 4) = true := by kernel_rfl
theorem jfe : mapsRowed Tryz.prog = true := by kernel_rfl
theorem jff : joinedFacts Tryz.prog 4 Tryz.f4 Rows.fnLogSpec Rows.fnLogRow = true := by
 unfold joinedFacts
 rw [laidOutFnLog, jfa, jfb, jfc, jfd, jfe]
 kernel_rfl
set_option maxRecDepth 100000 in
theorem provedFnLog : Rows.FnLogSaid :=
 OpenClaim.holds_of_wide 4 Tryz.f4 rfl rfl rfl rfl rfl rfl rfl ⟨rfl, rfl, rfl, rfl, rfl⟩ rfl rfl rfl rfl rfl (by kernel_rfl) Tryz.func4 jff
  (of_decide_eq_true (by kernel_rfl)) (by unfold Func.isWrapper; first | (rw [if_pos (by decide +kernel)]; kernel_rfl) | (rw [if_neg (by decide +kernel)]; exact ⟨rfl, rfl⟩))
  (fun os started H enc _ => liftedFnLog os started H enc)
theorem cardFnLog : Rows.FnLogCardSaid :=
 Claim7.holds_tied_plain_at .later [] [.data, .data, .data, .data, .sentinel, .sentinel, .pinned] true (true, "82fb585b56f0825df3b7514f9c1cffea2ab64ae61400bd5a618f11e6dec062eb") true provedFnLog (fun _ h => by cases h) (by kernel_rfl) (fun _ h => by cases h) fnLog_row_tie rfl ⟨rfl, rfl⟩ (by kernel_rfl) rfl
  (fun f fn hf hfn => by
   obtain rfl : f = 4 := Option.some.inj ((show Tryz.prog.funcNamed "loop.example/g01922/laws.FnLog" = some 4 by kernel_rfl).symm.trans hf) |>.symm
   obtain rfl : fn = Tryz.f4 := (Option.some.inj (Tryz.func4.symm.trans hfn)).symm
   exact ⟨by kernel_rfl, fun j t ht => by
    rw [Tryz.params4] at ht
    have hm : t ∈ [22] := by simpa using Array.mem_of_getElem? ht
    have hall : ([22].all fun u => !Tryz.prog.wantsStandIn u) = true := by kernel_rfl
    exact (show Tryz.prog.wantsStandIn t = false by simpa using List.all_eq_true.1 hall t hm)⟩)
  (by kernel_rfl)
#print axioms cardFnLog
#print axioms provedFnLog
end LFnLog
end Go.Proofs.YtbkhopfpejhnlaaGreatDoor
