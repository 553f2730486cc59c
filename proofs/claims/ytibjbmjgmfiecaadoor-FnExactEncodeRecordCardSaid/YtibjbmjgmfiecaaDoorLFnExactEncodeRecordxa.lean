/- FnExactEncodeRecord: the law returns true for every input, and its arguments read as they did. No condition. -/
import Derived.Test.YtibjbmjgmfiecaaDoorRows
import Derived.Test.YtibjbmjgmfiecaaDoorTie
import Derived.Test.YtibjbmjgmfiecaaDoorCards
import Derived.Test.YtibjbmjgmfiecaaDoorHBxa
import Derived.Test.YtibjbmjgmfiecaaDoorOpenTxa
import Derived.Test.YtibjbmjgmfiecaaDoorB86xa
import Derived.WalkKit
import Derived.Handy
import Derived.Lay
import Derived.SevenTiedAt
import Derived.MakeChecks
set_option linter.unusedVariables false
set_option linter.unusedSimpArgs false
namespace Go.Proofs.YtibjbmjgmfiecaaDoor
open Go.RowKit Go.Q Go.D Go.ChangeShapes Go.WideShapes Go.ChangeAt Go.Deep
open Go.ChangeMaps (open_string shut_string)
set_option maxRecDepth 100000 in
set_option maxHeartbeats 1000000 in
theorem lawFnExactEncodeRecord (aVersion : Int) (aB : TBatch) : FnT Tryd.prog 3 [.one (.v (.int .i64 aVersion)), .agg (cBatch aB)] (.a (.one (.v (.bool true)))) := by
  refine FnT.walk Tryd.func3 rfl (by kernel_rfl) Tryd.ntmps3 rfl fun hlen w0 => ?_
  try simp [cPair, cToken, cExpr, cEdge, cGraph, cStep, cWalk, cChange, cBatch, cHistory, cPositions, cAutomaton, cProductStep, cPathAtom, cConjunction, cView, cDelta, cRegistered, cRegistry] at hlen
  clear hlen
  refine AW.seq ?_
  refine AW.region ?_
  refine AWl.put (R_boxz rfl rfl rfl (.tmp rfl fun _ => rfl) (ts := _) (by first | rfl | exact cells_t1 _ | exact cells_t2 _)) rfl ?_
  refine AWl.put (R_assign rfl (.no rfl) rfl (.const rfl)) rfl ?_
  refine AWl.nil ?_
  refine AW.seq ?_
  refine AW.region ?_
  refine AWl.put (R_assign rfl (.no rfl) rfl (.const rfl)) rfl ?_
  refine AWl.nil ?_
  refine AW.seq ?_
  refine AW.region ?_
  refine AWl.put ((by first | exact R_load rfl (.no rfl) rfl (.tmp rfl fun _ => rfl) ty24 rfl rfl | exact R_load_pp rfl (.no rfl) rfl (.tmp rfl fun _ => rfl) rfl ty24 rfl rfl | exact R_load_vw rfl (.no rfl) rfl (.tmp rfl fun _ => rfl) ty24 rfl rfl | exact R_load_pr rfl (.no rfl) rfl (.tmp rfl fun _ => rfl) rfl (by first | assumption | exact map_get (by assumption)) ty24 rfl rfl)) rfl ?_
  refine AWl.put (R_move rfl (.no rfl) rfl (.tmp rfl fun _ => rfl)) rfl ?_
  refine AWl.put (R_callz (FnT.fr (HszBatch _ _ (by omega))) rfl (.no rfl) rfl (.cons (.tmp rfl fun _ => rfl) rfl (.cons (.tmp rfl fun _ => rfl) rfl .nil))) rfl ?_
  refine AWl.put (R_assign rfl (.no rfl) rfl (.tmp rfl fun _ => rfl)) rfl ?_
  refine AWl.nil ?_
  refine AW.seq ?_
  refine AW.seq ?_
  refine AW.region ?_
  refine AWl.put (R_move rfl (.no rfl) rfl (.tmp rfl fun _ => rfl)) rfl ?_
  refine AWl.put (R_lt rfl (.no rfl) rfl (.tmp rfl fun _ => rfl) (.const rfl)) rfl ?_
  refine AWl.nil ?_
  refine AW.cond (.tmp rfl fun _ => rfl) (fun h13 => ?_) (fun h13 => ?_)
  · skip
    try simp at h13
    refine AW.seq ?_
    refine AW.region ?_
    refine AWl.put (R_assign rfl (.no rfl) rfl (.const rfl)) rfl ?_
    refine AWl.nil ?_
    refine AW.ret ?_
    refine Res.v rfl rfl ?_
    rfl
  · skip
    try simp at h13
    have hb0 := szBatch_ok aB 1048576 (by omega) (by omega)
    have hz0 := hb0.2 (by omega)
    refine AW.skip ?_
    refine AW.seq ?_
    refine AW.region ?_
    refine AWl.put (R_move rfl (.no rfl) rfl (.tmp rfl fun _ => rfl)) rfl ?_
    refine AWl.put ((by first | exact R_load rfl (.no rfl) rfl (.tmp rfl fun _ => rfl) ty24 rfl rfl | exact R_load_pp rfl (.no rfl) rfl (.tmp rfl fun _ => rfl) rfl ty24 rfl rfl | exact R_load_vw rfl (.no rfl) rfl (.tmp rfl fun _ => rfl) ty24 rfl rfl | exact R_load_pr rfl (.no rfl) rfl (.tmp rfl fun _ => rfl) rfl (by first | assumption | exact map_get (by assumption)) ty24 rfl rfl)) rfl ?_
    refine AWl.put (R_callz (FnT.fr (HtoBatch _ (by first | exact hz0))) rfl (.no rfl) rfl (.cons (.tmp rfl fun _ => rfl) rfl .nil)) rfl ?_
    refine AWl.put (R_callz (FnT.fr (specEncodeRecord _ _)) rfl (.no rfl) rfl (.cons (.tmp rfl fun _ => rfl) rfl (.cons (.tmp rfl fun _ => rfl) rfl .nil))) rfl ?_
    refine AWl.put (R_assign rfl (.no rfl) rfl (.tmp rfl fun _ => rfl)) rfl ?_
    refine AWl.nil ?_
    refine AW.seq ?_
    refine AW.region ?_
    refine AWl.put ((by first | exact R_load rfl (.no rfl) rfl (.tmp rfl fun _ => rfl) ty24 rfl rfl | exact R_load_pp rfl (.no rfl) rfl (.tmp rfl fun _ => rfl) rfl ty24 rfl rfl | exact R_load_vw rfl (.no rfl) rfl (.tmp rfl fun _ => rfl) ty24 rfl rfl | exact R_load_pr rfl (.no rfl) rfl (.tmp rfl fun _ => rfl) rfl (by first | assumption | exact map_get (by assumption)) ty24 rfl rfl)) rfl ?_
    refine AWl.put (R_callz (FnT.fr (HtoBatch _ (by first | exact hz0))) rfl (.no rfl) rfl (.cons (.tmp rfl fun _ => rfl) rfl .nil)) rfl ?_
    refine AWl.add (R_alloc 7 rfl rfl rfl in29 rfl rfl rfl) rfl ?_
    refine AWl.chgb (R_store_pb rfl rfl rfl (.tmp rfl fun _ => rfl) (.tmp rfl fun _ => rfl) rfl ty29 rfl rfl rfl (by kernel_rfl) rfl) ?_
    refine AWl.nil ?_
    refine AW.seq ?_
    refine AW.region ?_
    refine AWl.put (R_move rfl (.no rfl) rfl (.tmp rfl fun _ => rfl)) rfl ?_
    refine AWl.put ((by first | exact R_load rfl (.no rfl) rfl (.tmp rfl fun _ => rfl) ty29 rfl rfl | exact R_load_pp rfl (.no rfl) rfl (.tmp rfl fun _ => rfl) rfl ty29 rfl rfl | exact R_load_vw rfl (.no rfl) rfl (.tmp rfl fun _ => rfl) ty29 rfl rfl | exact R_load_pr rfl (.no rfl) rfl (.tmp rfl fun _ => rfl) rfl (by first | assumption | exact map_get (by assumption)) ty29 rfl rfl)) rfl ?_
    refine AWl.put (R_callz (FnT.fr (implEncodeRecord _ _)) rfl (.no rfl) rfl (.cons (.tmp rfl fun _ => rfl) rfl (.cons (.tmp rfl fun _ => rfl) rfl .nil))) rfl ?_
    refine AWl.put (R_assign rfl (.no rfl) rfl (.tmp rfl fun _ => rfl)) rfl ?_
    refine AWl.nil ?_
    refine AW.seq ?_
    refine AW.seq ?_
    refine AW.region ?_
    refine AWl.put (R_move rfl (.no rfl) rfl (.tmp rfl fun _ => rfl)) rfl ?_
    refine AWl.put (R_move rfl (.no rfl) rfl (.tmp rfl fun _ => rfl)) rfl ?_
    refine AWl.put (R_nestr rfl (.no rfl) rfl (.tmp rfl fun _ => rfl) (.tmp rfl fun _ => rfl)) rfl ?_
    refine AWl.nil ?_
    refine AW.cond (.tmp rfl fun _ => rfl) (fun h25 => ?_) (fun h25 => ?_)
    · exact absurd h25 (by simp)
    · skip
      try simp at h25
      refine AW.skip ?_
      refine AW.seq ?_
      refine AW.seq ?_
      refine AW.drawn 5 (nthB [[], [], [1], [0, 1, 2], [0, 1, 2, 3]]) (by kernel_rfl) (by kernel_rfl) (by kernel_rfl) ?_
      refine DrawC.step rfl rfl rfl (Loc.of rfl fun σ' hs => (by first | exact R_load rfl (.no rfl) (hd_sup hs rfl) (.tmp (hs.slots _ _ rfl) fun _ => rfl) ty29 rfl rfl | exact R_load_pp rfl (.no rfl) (hd_sup hs rfl) (.tmp (hs.slots _ _ rfl) fun _ => rfl) (hs.res _ _ rfl) ty29 rfl rfl | exact R_load_vw rfl (.no rfl) (hd_sup hs rfl) (.tmp (hs.slots _ _ rfl) fun _ => rfl) ty29 rfl rfl | exact R_load_pr rfl (.no rfl) (hd_sup hs rfl) (.tmp (hs.slots _ _ rfl) fun _ => rfl) (hs.res _ _ rfl) (by first | assumption | exact map_get (by assumption)) ty29 rfl rfl)) ?_
      refine DrawC.step rfl rfl rfl (Loc.of rfl fun σ' hs => (by first | exact R_load rfl (.no rfl) (hd_sup hs rfl) (.tmp (hs.slots _ _ rfl) fun _ => rfl) ty24 rfl rfl | exact R_load_pp rfl (.no rfl) (hd_sup hs rfl) (.tmp (hs.slots _ _ rfl) fun _ => rfl) (hs.res _ _ rfl) ty24 rfl rfl | exact R_load_vw rfl (.no rfl) (hd_sup hs rfl) (.tmp (hs.slots _ _ rfl) fun _ => rfl) ty24 rfl rfl | exact R_load_pr rfl (.no rfl) (hd_sup hs rfl) (.tmp (hs.slots _ _ rfl) fun _ => rfl) (hs.res _ _ rfl) (by first | assumption | exact map_get (by assumption)) ty24 rfl rfl)) ?_
      refine DrawC.step rfl rfl rfl (Loc.of rfl fun σ' hs => R_callz (FnT.fr (HtoBatch _ (by first | exact hz0))) rfl (.no rfl) (hd_sup hs rfl) (.cons (.tmp (hs.slots _ _ rfl) fun _ => rfl) (readA_sup hs rfl) .nil)) ?_
      refine DrawC.step rfl rfl rfl (Loc.of rfl fun σ' hs => R_callz (FnT.fr (HeqBatch _)) rfl (.no rfl) (hd_sup hs rfl) (.cons (.tmp (hs.slots _ _ rfl) fun _ => rfl) (readA_sup hs rfl) (.cons (.tmp (hs.slots _ _ rfl) fun _ => rfl) (readA_sup hs rfl) .nil))) ?_
      refine DrawC.step rfl rfl rfl (Loc.of rfl fun σ' hs => R_not rfl (.no rfl) (hd_sup hs rfl) (.tmp (hs.slots _ _ rfl) fun _ => rfl)) ?_
      refine DrawC.fin rfl rfl ?_
      refine AWl.nil ?_
      refine AW.cond (.tmp rfl fun _ => rfl) (fun h30 => ?_) (fun h30 => ?_)
      · exact absurd h30 (by simp)
      · skip
        try simp at h30
        refine AW.skip ?_
        refine AW.seq ?_
        refine AW.region ?_
        refine AWl.put (R_assign rfl (.no rfl) rfl (.const rfl)) rfl ?_
        refine AWl.nil ?_
        refine AW.ret ?_
        refine Res.v rfl rfl ?_
        rfl
namespace LFnExactEncodeRecord
theorem opensBool : OpensT cBool Tryd.prog 4 := opensTBool Tryd.underlying4
theorem opensInt : OpensT cInt Tryd.prog 3 := opensTInt Tryd.underlying3
set_option maxRecDepth 100000 in
theorem opensEdge : OpensT cEdge Tryd.prog 84 := by
  intro H enc w base spare held fuel cs x h
  obtain ⟨xs, n, _, _, hlen, hxl, hf⟩ := DataW.trod_struct Tryd.underlying84 h
  rw [show Tryd.prog.cellsOf 84 = 4 from by kernel_rfl] at hlen
  have kInt : Tryd.prog.cellsOf 3 = 1 := by kernel_rfl
  match cs, hlen, xs, hxl with
  | [c0, c1, c2, c3], _, [y0, y1, y2, y3], _ =>
    have g0 : DataW.trod enc Tryd.prog w base spare held n 3 [c0] = some y0 := by simpa [kInt] using hf 0 _ rfl
    obtain ⟨x0, F0, e0⟩ := opensInt g0
    have g1 : DataW.trod enc Tryd.prog w base spare held n 3 [c1] = some y1 := by simpa [kInt] using hf 1 _ rfl
    obtain ⟨x1, F1, e1⟩ := opensInt g1
    have g2 : DataW.trod enc Tryd.prog w base spare held n 3 [c2] = some y2 := by simpa [kInt] using hf 2 _ rfl
    obtain ⟨x2, F2, e2⟩ := opensInt g2
    have g3 : DataW.trod enc Tryd.prog w base spare held n 3 [c3] = some y3 := by simpa [kInt] using hf 3 _ rfl
    obtain ⟨x3, F3, e3⟩ := opensInt g3
    exact ⟨⟨x0, x1, x2, x3⟩, _, (e0.append (e1.append (e2.append e3)))⟩
set_option maxRecDepth 100000 in
theorem opensChange : OpensT cChange Tryd.prog 86 := by
  intro H enc w base spare held fuel cs x h
  obtain ⟨xs, n, _, _, hlen, hxl, hf⟩ := DataW.trod_struct Tryd.underlying86 h
  rw [show Tryd.prog.cellsOf 86 = 5 from by kernel_rfl] at hlen
  have kEdge : Tryd.prog.cellsOf 84 = 4 := by kernel_rfl
  have kBool : Tryd.prog.cellsOf 4 = 1 := by kernel_rfl
  match cs, hlen, xs, hxl with
  | [c0, c1, c2, c3, c4], _, [y0, y1], _ =>
    have g0 : DataW.trod enc Tryd.prog w base spare held n 4 [c0] = some y0 := by simpa [kBool] using hf 0 _ rfl
    obtain ⟨x0, F0, e0⟩ := opensBool g0
    have g1 : DataW.trod enc Tryd.prog w base spare held n 84 [c1, c2, c3, c4] = some y1 := by simpa [kEdge] using hf 1 _ rfl
    obtain ⟨x1, F1, e1⟩ := opensEdge g1
    exact ⟨⟨x0, x1⟩, _, (e0.append e1)⟩
theorem opensChangeS : OpensT cChangeS Tryd.prog 22 := opensTSlice (c := cChange) Tryd.underlying22 (by kernel_rfl) (by decide) (fun _ => rfl) opensChange
set_option maxRecDepth 100000 in
theorem opensBatch : OpensT cBatch Tryd.prog 24 := by
  intro H enc w base spare held fuel cs x h
  obtain ⟨xs, n, _, _, hlen, hxl, hf⟩ := DataW.trod_struct Tryd.underlying24 h
  rw [show Tryd.prog.cellsOf 24 = 1 from by kernel_rfl] at hlen
  have kChangeS : Tryd.prog.cellsOf 22 = 1 := by kernel_rfl
  match cs, hlen, xs, hxl with
  | [c0], _, [y0], _ =>
    have g0 : DataW.trod enc Tryd.prog w base spare held n 22 [c0] = some y0 := by simpa [kChangeS] using hf 0 _ rfl
    obtain ⟨x0, F0, e0⟩ := opensChangeS g0
    exact ⟨⟨x0⟩, _, e0⟩
theorem ownFnExactEncodeRecord : ownKnob Tryd.prog.godebug = none := by kernel_rfl
theorem laidOutFnExactEncodeRecord : laidOutB Tryd.prog = true := by kernel_rfl
set_option maxRecDepth 100000 in
theorem liftedFnExactEncodeRecord (os : Os) (started : os.Started) (H : Type) (enc : TypeId × Value → H) :
    ReturnsInHanded {} Tryd.checked os 3 .any (fun w args => (Rows.fnExactEncodeRecordSpec.pre enc Tryd.prog Tryd.f3 Rows.fnExactEncodeRecordRow.domain false w args ∧ laidMetH Tryd.prog Rows.fnExactEncodeRecordRow.laid w) ∧ sizedMet enc Tryd.prog Tryd.f3 (OpenSpec.ofChange Rows.fnExactEncodeRecordSpec) false w args) (Rows.fnExactEncodeRecordSpec.post enc Tryd.prog Tryd.f3 false true false false) := by
  refine frame_laid (C := Tryd.checked) (X := fun w => laidMetH Tryd.prog Rows.fnExactEncodeRecordRow.laid w) (fun _ _ hh h => h.of_heap hh) ownFnExactEncodeRecord started (by kernel_rfl) Tryd.func3
    (ChangeSpec.witness_shaped (enc := enc) (C := Tryd.checked) (os := os) (X := fun w _ => laidMetH Tryd.prog Rows.fnExactEncodeRecordRow.laid w) false (World.laidAll Tryd.prog os Rows.fnExactEncodeRecordRow.laid) #[.int .i64 0, .agg #[.slice none 0 0]] 8 (World.laidAll_os _ _ _)
      (World.shaped_of_ZipB (by kernel_rfl) (by kernel_rfl)) (by kernel_rfl) (by kernel_rfl) (by kernel_rfl)
      (by rw [MakeChecks.laidMetH_plain _ _ _ (by kernel_rfl)]; exact laidMet_laidAll _ (by kernel_rfl) (by kernel_rfl))) ?_
  intro W base args ds gs before hval0 hW hX hsh
  rw [MakeChecks.laidMetH_plain _ _ _ (by kernel_rfl)] at hX
  have hgood : Go.Q.Good W [] := Go.Q.good_of ⟨hsh, Lib.tabIs_of_head (g := ((Tryd.prog).globalNamed "internal/strconv.uint64pow10").getD 0) (t := (((Tryd.prog).globals[((Tryd.prog).globalNamed "internal/strconv.uint64pow10").getD 0]?).map (·.type)).getD 0) (e := 133) (n := 20) (by kernel_rfl) (by kernel_rfl) (by kernel_rfl) (by kernel_rfl) (by kernel_rfl) (by kernel_rfl) (laid_one "internal/strconv.uint64pow10" (x := ("internal/strconv.uint64pow10", Lib.tabData .u64 Lib.pow10Tab)) hX (by kernel_rfl))⟩
  have hval : ∀ (j : Nat) t v, Tryd.f3.params[j]? = some t → args[j]? = some v → Value.okWide Tryd.prog W .any base t v := hval0
  have hW' := hW
  obtain ⟨p, q, hA0, hV, rfl, hfz, hnd⟩ := hW
  have hA : DataW.TrodAll enc Tryd.prog W 0 (fun _ => true) true Tryd.f3.params.toList args.toList ds p := hA0
  rw [Tryd.params3] at hA hval
  obtain ⟨v0, vs0, d0, ds0, p0, q0, hargs, rfl, rfl, h0, r0⟩ := trodAll_cons hA
  obtain ⟨v1, vs1, d1, ds1, p1, q1, rfl, rfl, rfl, h1, r1⟩ := trodAll_cons r0
  obtain ⟨rfl, rfl, rfl⟩ := trodAll_nil r1
  obtain rfl : args = #[v0, v1] := by cases args; simp_all
  obtain ⟨rfl, rfl⟩ := trodVars_none hV
  obtain ⟨x0, rfl, rfl, rfl, wf0⟩ := open_int Tryd.underlying3 (hval 0 3 v0 rfl rfl) h0
  obtain ⟨cs1, rfl, _⟩ := okWide_struct Tryd.underlying24 (hval 1 24 v1 rfl rfl)
  have k1 := h1
  have lt1 : ∀ x ∈ p1, x.block < W.heap.size := by obtain ⟨m, hm⟩ := k1; exact DataW.trod_lt m _ _ _ hm
  obtain ⟨x1, F1, hs1⟩ := OpensT.vl opensBatch h1
  clear hA0 hval0
  refine ((lawFnExactEncodeRecord x0 x1).2 W _ _ hgood ⟨_, _, _, _, rfl, (show V0r false W (.one (.v (.int .i64 x0))) _ [] by unfold V0r C; exact ⟨rfl, rfl, rfl⟩), ⟨_, _, _, _, rfl, (show V0r false W (.agg (cBatch x1)) _ _ from ⟨cs1.toList, by simp, hs1⟩), ⟨rfl, rfl⟩, rfl⟩, rfl⟩).mono fun e W' ⟨v, F, he, hv, _, _, bel⟩ => ?_
  have hv2 : v = .bool true := by unfold Vr V0r C at hv; exact hv.1
  subst hv2
  subst he
  exact ⟨_, rfl, _, _, _, [], _, [], hW', trodAll_mk1 (shut_bool Tryd.underlying4 _), (trodAll_cons_mk (shut_int Tryd.underlying3 wf0) (trodAll_cons_mk (Below.trod laidOutFnExactEncodeRecord (by kernel_rfl) (of_decide_eq_true (by kernel_rfl)) k1 bel lt1) trodAll_mk0)), rfl, Below.frame bel _, fun h => by cases h⟩
theorem jfa : (Rows.fnExactEncodeRecordRow.inPlace == Tryd.prog.inPlace 3) = true := by kernel_rfl
theorem jfb : (Rows.fnExactEncodeRecordRow.unfollowed == Tryd.prog.unfollowed 3) = true := by kernel_rfl
theorem jfc : (Rows.fnExactEncodeRecordRow.recurses == Tryd.prog.recurses 3) = true := by kernel_rfl
theorem jfd : (Rows.fnExactEncodeRecordRow.named == Tryd.prog.varsNamed 3) = true := by kernel_rfl
theorem jfe : mapsRowed Tryd.prog = true := by kernel_rfl
theorem jff : joinedFacts Tryd.prog 3 Tryd.f3 Rows.fnExactEncodeRecordSpec Rows.fnExactEncodeRecordRow = true := by
  unfold joinedFacts
  rw [laidOutFnExactEncodeRecord, jfa, jfb, jfc, jfd, jfe]
  kernel_rfl
set_option maxRecDepth 100000 in
/-- The statement. -/
theorem provedFnExactEncodeRecord : Rows.FnExactEncodeRecordSaid :=
  OpenClaim.holds_of_wide 3 Tryd.f3 rfl rfl rfl rfl rfl rfl rfl ⟨rfl, rfl, rfl, rfl, rfl⟩ rfl rfl rfl rfl rfl (by kernel_rfl) Tryd.func3 jff
    (of_decide_eq_true (by kernel_rfl)) (by unfold Func.isWrapper; first | (rw [if_pos (by decide +kernel)]; kernel_rfl) | (rw [if_neg (by decide +kernel)]; exact ⟨rfl, rfl⟩))
    (fun os started H enc _ => liftedFnExactEncodeRecord os started H enc)
theorem cardFnExactEncodeRecord : Rows.FnExactEncodeRecordCardSaid :=
  Claim7.holds_tied_plain_at .later [] [.data, .data, .data] true (true, "69def13ee160c82132b0bc2135b6b720d52c3e691d70fddc17f58612974bf773") true provedFnExactEncodeRecord (fun _ h => by cases h) (by kernel_rfl) (fun _ h => by cases h) fnExactEncodeRecord_row_tie rfl ⟨rfl, rfl⟩ (by kernel_rfl) rfl
    (fun f fn hf hfn => by
      obtain rfl : f = 3 := Option.some.inj ((show Tryd.prog.funcNamed "loop.example/g01922/laws.FnExactEncodeRecord" = some 3 by kernel_rfl).symm.trans hf) |>.symm
      obtain rfl : fn = Tryd.f3 := (Option.some.inj (Tryd.func3.symm.trans hfn)).symm
      exact ⟨by kernel_rfl, fun j t ht => by
        rw [Tryd.params3] at ht
        have hm : t ∈ [3, 24] := by simpa using Array.mem_of_getElem? ht
        have hall : ([3, 24].all fun u => !Tryd.prog.wantsStandIn u) = true := by kernel_rfl
        exact (show Tryd.prog.wantsStandIn t = false by simpa using List.all_eq_true.1 hall t hm)⟩)
    (by kernel_rfl)
#print axioms cardFnExactEncodeRecord
#print axioms provedFnExactEncodeRecord
end LFnExactEncodeRecord
end Go.Proofs.YtibjbmjgmfiecaaDoor
