import Derived.Test.YtbkhopfpejhnlaaGreatRows
import Derived.Test.YtbkhopfpejhnlaaGreatOpenBrb
import Derived.Test.YtbkhopfpejhnlaaGreatB128rb
set_option linter.unusedVariables false
set_option linter.unusedSimpArgs false
namespace Go.Proofs.YtbkhopfpejhnlaaGreat
open Go.RowKit Go.Q Go.D Go.ChangeShapes Go.WideShapes Go.ChangeAt Go.Deep
open Go.ChangeMaps (open_string shut_string)
set_option maxRecDepth 100000 in
set_option maxHeartbeats 1000000 in
theorem lawFnLines (bs : List Int) (hb : ∀ n ∈ bs, 0 ≤ n ∧ n < 256) : FnT Tryz.prog 4 [.one (.sl 1 (byR bs))] (.a (.one (.v (.bool true)))) := by
 refine FnT.walk Tryz.func4 U (by kernel_rfl) Tryz.ntmps4 U fun hlen w0 => ?_
 try simp [cPair, cToken, cExpr, cEdge, cGraph, cStep, cWalk, cChange, cBatch, cHistory, cPositions, cAutomaton, cProductStep, cPathAtom, cConjunction, cView, cDelta, cRegistered, cRegistry] at hlen
 clear hlen
 refine AW.sr ?_
 refine AWl.ac U U U U U ?_
 refine AWl.nil (AW.seq ?_)
 refine AW.sr ?_
 refine AWl.mv U U U U U ?_
 refine AWl.put (R_callz (FnT.fr (lawsbig bs)) U (.no U) U (.cons (.tm U) U .nil)) U ?_
 refine AWl.nil ?_
 refine AW.cond (.tm U) (fun h11 => ?_) (fun h11 => ?_)
 · skip
   try simp at h11
   refine AW.sr ?_
   refine AWl.ac U U U U U ?_
   refine AWl.nil (AW.ret ?_)
   refine Res.v U U ?_
   rfl
 · skip
   try simp at h11
   refine AW.skip ?_
   refine AW.sr ?_
   refine AWl.mv U U U U U ?_
   refine AWl.opE (R_calleX (specDrawHoldsOnLine bs hb) U U U (.cons (.tm U) U .nil)) ?_
   rintro _ ⟨z14, hz14, rfl⟩
   try dsimp only at hz14
   refine AWl.put (R_movet U (.no U) U U fun _ => rfl) U ?_
   refine AWl.put (R_extract U (.no U) U U (fun _ => rfl) U) U ?_
   refine AWl.put (R_extract U (.no U) U U (fun _ => rfl) U) U ?_
   refine AWl.add (R_alloc 3 U U U in30 U U U) U ?_
   refine AWl.chgb (R_store_pb U U U (.tm U) (.tm U) U ty30 U U U (by kernel_rfl) U) ?_
   refine AWl.av U U U U U ?_
   refine AWl.nil (AW.sr ?_)
   refine AWl.put (by exact R_load_pp U (.no U) U (.tm U) U ty30 U U) U ?_
   refine AWl.mv U U U U U ?_
   refine AWl.put (R_callz (FnT.fr (implHoldsOnLine z14.1 z14.2)) U (.no U) U (.cons (.tm U) U (.cons (.tm U) U .nil))) U ?_
   refine AWl.av U U U U U ?_
   refine AWl.nil (AW.sr ?_)
   refine AWl.mv U U U U U ?_
   refine AWl.put (R_callz (FnT.fr (implLineGraph z14.2)) U (.no U) U (.cons (.tm U) U .nil)) U ?_
   refine AWl.put (R_movet U (.no U) U U fun _ => rfl) U ?_
   refine AWl.put (R_extract U (.no U) U U (fun _ => rfl) U) U ?_
   refine AWl.put (R_extract U (.no U) U U (fun _ => rfl) U) U ?_
   refine AWl.add (R_alloc 6 U U U in27 U U U) U ?_
   refine AWl.chgb (R_store_pb U U U (.tm U) (.tm U) U ty27 U U U (by kernel_rfl) U) ?_
   refine AWl.av U U U U U ?_
   refine AWl.nil (AW.sr ?_)
   refine AWl.mv U U U U U ?_
   refine AWl.put (R_callz (FnT.fr (specLineGraph z14.2)) U (.no U) U (.cons (.tm U) U .nil)) U ?_
   refine AWl.put (R_movet U (.no U) U U fun _ => rfl) U ?_
   refine AWl.put (R_extract U (.no U) U U (fun _ => rfl) U) U ?_
   refine AWl.put (R_extract U (.no U) U U (fun _ => rfl) U) U ?_
   refine AWl.add (R_alloc 8 U U U in27 U U U) U ?_
   refine AWl.chgb (R_store_pb U U U (.tm U) (.tm U) U ty27 U U U (by kernel_rfl) U) ?_
   refine AWl.av U U U U U ?_
   refine AWl.nil (AW.seq ?_)
   refine AW.sr ?_
   refine AWl.mv U U U U U ?_
   refine AWl.put (by exact R_load_pp U (.no U) U (.tm U) U ty30 U U) U ?_
   refine AWl.mv U U U U U ?_
   refine AWl.put (R_callz (FnT.fr (specHoldsOnLine z14.1 z14.2)) U (.no U) U (.cons (.tm U) U (.cons (.tm U) U .nil))) U ?_
   refine AWl.put (R_neb U (.no U) U (.tm U) (.tm U) Tryz.underlying4) U ?_
   refine AWl.mv U U U U U ?_
   refine AWl.put (R_move U (by exact .not1 U U U U) U (.tmp U (by exact fun _ => rfl))) U ?_
   refine AWl.put (R_move U (by exact .not1 U U U U) U (.tmp U (by exact fun _ => rfl))) U ?_
   refine AWl.put (R_neb U (by exact .not1 U U U U) U (.tmp U (by exact id)) (.tmp U (by exact id)) Tryz.underlying4) U ?_
   refine AWl.put (R_or U (.no U) U (.tm U) (.tmp U (by exact id))) U ?_
   refine AWl.mv U U U U U ?_
   refine AWl.put (by exact R_load_pp U (by exact .not1 U U U U) U (.tmp U (by exact fun _ => rfl)) U ty27 U U) U ?_
   refine AWl.put (by exact R_load_pp U (by exact .not1 U U U U) U (.tmp U (by exact fun _ => rfl)) U ty27 U U) U ?_
   refine AWl.put (R_callq U (by exact .not1 U U U U) U (.cons (.tmp U (by exact id)) U (.cons (.tmp U (by exact id)) U .nil)) fun hq => FnT.fr (implEqualGraphs _ _)) U ?_
   refine AWl.put (R_not U (by exact .not1 U U U U) U (.tmp U (by exact id))) U ?_
   refine AWl.put (R_or U (.no U) U (.tm U) (.tmp U (by exact id))) U ?_
   refine AWl.nil ?_
   refine AW.cond (.tm U) (fun h45 => ?_) (fun h45 => ?_)
   · exact absurd h45 (by simp)
   · skip
     try simp at h45
     refine AW.skip ?_
     refine AW.sr ?_
     refine AWl.mv U U U U U ?_
     refine AWl.put (R_not U (.no U) U (.tm U)) U ?_
     refine AWl.mv U U U U U ?_
     refine AWl.put (by exact R_load_pp U (by exact .not1 U U U U) U (.tmp U (by exact fun _ => rfl)) U ty30 U U) U ?_
     refine AWl.put (R_move U (by exact .not1 U U U U) U (.tmp U (by exact fun _ => rfl))) U ?_
     refine AWl.put (R_callq U (by exact .not1 U U U U) U (.cons (.tmp U (by exact id)) U (.cons (.tmp U (by exact id)) U .nil)) fun hq => FnT.fr (specMatchesWord z14.1 z14.2)) U ?_
     refine AWl.put (R_not U (by exact .not1 U U U U) U (.tmp U (by exact id))) U ?_
     refine AWl.put (R_or U (.no U) U (.tm U) (.tmp U (by exact id))) U ?_
     refine AWl.mv U U U U U ?_
     refine AWl.put (R_move U (by exact .not1 U U U U) U (.tmp U (by exact fun _ => rfl))) U ?_
     refine AWl.put (R_or U (.no U) U (.tm U) (.tmp U (by exact id))) U ?_
     refine AWl.av U U U U U ?_
     refine AWl.nil (AW.ret ?_)
     refine Res.v U U ?_
     have hml := @matchW_line z14.1 z14.2; cases h1 : (lineGraph z14.2).2 <;> cases h2 : matchW z14.1 z14.2 <;> simp_all
namespace LFnLines
theorem opensByte : OpensT cByte Tryz.prog 5 := opensTByte Tryz.underlying5
theorem opensByteS : OpensT (fun (l : List (Fin 256)) => [T.sl 1 (l.map cByte)]) Tryz.prog 22 := opensTSlice (c := cByte) Tryz.underlying22 (by kernel_rfl) (by decide) (fun _ => rfl) opensByte
theorem ownFnLines : ownKnob Tryz.prog.godebug = none := by kernel_rfl
theorem laidOutFnLines : laidOutB Tryz.prog = true := by kernel_rfl
set_option maxRecDepth 100000 in
theorem liftedFnLines (os : Os) (started : os.Started) (H : Type) (enc : TypeId × Value → H) :
 ReturnsInHanded {} Tryz.checked os 4 .any (Rows.fnLinesSpec.pre6 enc Tryz.prog Tryz.f4 Rows.fnLinesRow.domain false) (Rows.fnLinesSpec.post enc Tryz.prog Tryz.f4 false true false false) := by
 refine returnsInHanded_of_change_shaped (C := Tryz.checked) ownFnLines started (by kernel_rfl) Tryz.func4
  (ChangeSpec.witness6 (enc := enc) (C := Tryz.checked) false ⟨#[], #[.slice none 0 0], []⟩ 8 (by kernel_rfl) (by kernel_rfl) (by kernel_rfl) (by kernel_rfl)) ?_
 intro W base args ds gs before hval0 hW hcnd _ hsh _
 have hgood : Go.Q.Good W [] := Go.Q.good_of ⟨hsh, trivial, trivial⟩
 have hval : ∀ (j : Nat) t v, Tryz.f4.params[j]? = some t → args[j]? = some v → Value.okWide Tryz.prog W .any base t v := hval0
 have hW' := hW
 obtain ⟨p, q, hA0, hV, rfl, hfz, hnd⟩ := hW
 have hA : DataW.TrodAll enc Tryz.prog W 0 (fun _ => true) true Tryz.f4.params.toList args.toList ds p := hA0
 rw [Tryz.params4] at hA hval
 obtain ⟨v0, vs0, d0, ds0, p0, q0, hargs, rfl, rfl, h0, r0⟩ := trodAll_cons hA
 obtain ⟨rfl, rfl, rfl⟩ := trodAll_nil r0
 obtain rfl : args = #[v0] := by cases args; simp_all
 obtain ⟨rfl, rfl⟩ := trodVars_none hV
 obtain ⟨a0, len0, cap0, rfl⟩ := okWide_slice Tryz.underlying22 (hval 0 22 v0 rfl rfl)
 have k0 := h0
 have lt0 : ∀ x ∈ p0, x.block < W.heap.size := by obtain ⟨m, hm⟩ := k0; exact DataW.trod_lt m _ _ _ hm
 obtain ⟨x0, F0, hs0⟩ := OpensT.vl opensByteS h0
 clear hA0 hval0
 refine ((lawFnLines _ (fin_range x0)).2 W _ _ hgood ⟨_, _, _, _, rfl, (show V0r false W (.one _) _ _ from C_fin (Cs_one_inv hs0)), ⟨rfl, rfl⟩, rfl⟩).mono fun e W' ⟨v, F, he, hv, _, _, bel⟩ => ?_
 have hv2 : v = .bool true := by unfold Vr V0r C at hv; exact hv.1
 subst hv2
 subst he
 exact ⟨_, rfl, _, _, _, [], _, [], hW', trodAll_mk1 (shut_bool Tryz.underlying4 _), (trodAll_cons_mk (Below.trod laidOutFnLines (by kernel_rfl) (of_decide_eq_true (by kernel_rfl)) k0 bel lt0) trodAll_mk0), rfl, Below.frame bel _, fun h => by cases h⟩
theorem jfa : (Rows.fnLinesRow.inPlace == Tryz.prog.inPlace 4) = true := by kernel_rfl
theorem jfb : (Rows.fnLinesRow.unfollowed == Tryz.prog.unfollowed 4) = true := by kernel_rfl
theorem jfc : (Rows.fnLinesRow.recurses == Tryz.prog.recurses 4) = true := by kernel_rfl
theorem jfd : (Rows.fnLinesRow.named == Tryz.prog.varsNamed 4) = true := by kernel_rfl
theorem jfe : mapsRowed Tryz.prog = true := by kernel_rfl
theorem jff : joinedFacts Tryz.prog 4 Tryz.f4 Rows.fnLinesSpec Rows.fnLinesRow = true := by
 unfold joinedFacts
 rw [laidOutFnLines, jfa, jfb, jfc, jfd, jfe]
 kernel_rfl
set_option maxRecDepth 100000 in
theorem provedFnLines : Rows.FnLinesSaid :=
 OpenClaim.holds_of_wide 4 Tryz.f4 rfl rfl rfl rfl rfl rfl rfl ⟨rfl, rfl, rfl, rfl, rfl⟩ rfl rfl rfl rfl rfl (by kernel_rfl) Tryz.func4 jff
  (of_decide_eq_true (by kernel_rfl)) (by unfold Func.isWrapper; first | (rw [if_pos (by decide +kernel)]; kernel_rfl) | (rw [if_neg (by decide +kernel)]; exact ⟨rfl, rfl⟩))
  (fun os started H enc _ => liftedFnLines os started H enc)
#print axioms provedFnLines
end LFnLines
end Go.Proofs.YtbkhopfpejhnlaaGreat
