/- FnExactFormatConjunction: the law returns true for every input, and its arguments read as they did. No condition. -/
import Derived.Test.YtijkijoempdgnaaDoorRows
import Derived.Test.YtijkijoempdgnaaDoorTie
import Derived.Test.YtijkijoempdgnaaDoorCards
import Derived.Test.YtijkijoempdgnaaDoorHCxa
import Derived.Test.YtijkijoempdgnaaDoorOpenTxa
import Derived.Test.YtijkijoempdgnaaDoorB78xa
import Derived.WalkKit
import Derived.Handy
import Derived.Lay
import Derived.SevenTiedAt
import Derived.MakeChecks
set_option linter.unusedVariables false
set_option linter.unusedSimpArgs false
namespace Go.Proofs.YtijkijoempdgnaaDoor
open Go.RowKit Go.Q Go.D Go.ChangeShapes Go.WideShapes Go.ChangeAt Go.Deep
open Go.ChangeMaps (open_string shut_string)
set_option maxRecDepth 100000 in
set_option maxHeartbeats 1000000 in
theorem lawFnExactFormatConjunction (aQ : TConjunction) : FnT Tryd.prog 4 [.agg (cConjunction aQ)] (.a (.one (.v (.bool true)))) := by
  refine FnT.walk Tryd.func4 rfl (by kernel_rfl) Tryd.ntmps4 rfl fun hlen w0 => ?_
  try simp [cPair, cToken, cExpr, cEdge, cGraph, cStep, cWalk, cChange, cBatch, cHistory, cPositions, cAutomaton, cProductStep, cPathAtom, cConjunction, cView, cDelta, cRegistered, cRegistry] at hlen
  clear hlen
  refine AW.seq ?_
  refine AW.region ?_
  refine AWl.put (R_boxz rfl rfl rfl (.tmp rfl fun _ => rfl) (ts := _) (by first | rfl | exact cells_t1 _ | exact cells_t2 _)) rfl ?_
  refine AWl.put (R_assign rfl (.no rfl) rfl (.const rfl)) rfl ?_
  refine AWl.nil ?_
  refine AW.seq ?_
  refine AW.region ?_
  refine AWl.put (R_assign rfl (.no rfl) rfl (.const rfl)) rfl ?_
  refine AWl.nil ?_
  refine AW.seq ?_
  refine AW.region ?_
  refine AWl.put ((by first | exact R_load rfl (.no rfl) rfl (.tmp rfl fun _ => rfl) ty35 rfl rfl | exact R_load_pp rfl (.no rfl) rfl (.tmp rfl fun _ => rfl) rfl ty35 rfl rfl | exact R_load_vw rfl (.no rfl) rfl (.tmp rfl fun _ => rfl) ty35 rfl rfl | exact R_load_pr rfl (.no rfl) rfl (.tmp rfl fun _ => rfl) rfl (by first | assumption | exact map_get (by assumption)) ty35 rfl rfl)) rfl ?_
  refine AWl.put (R_move rfl (.no rfl) rfl (.tmp rfl fun _ => rfl)) rfl ?_
  refine AWl.put (R_callz (FnT.fr (HszConjunction _ _ (by omega))) rfl (.no rfl) rfl (.cons (.tmp rfl fun _ => rfl) rfl (.cons (.tmp rfl fun _ => rfl) rfl .nil))) rfl ?_
  refine AWl.put (R_assign rfl (.no rfl) rfl (.tmp rfl fun _ => rfl)) rfl ?_
  refine AWl.nil ?_
  refine AW.seq ?_
  refine AW.seq ?_
  refine AW.region ?_
  refine AWl.put (R_move rfl (.no rfl) rfl (.tmp rfl fun _ => rfl)) rfl ?_
  refine AWl.put (R_lt rfl (.no rfl) rfl (.tmp rfl fun _ => rfl) (.const rfl)) rfl ?_
  refine AWl.nil ?_
  refine AW.cond (.tmp rfl fun _ => rfl) (fun h11 => ?_) (fun h11 => ?_)
  · skip
    try simp at h11
    refine AW.seq ?_
    refine AW.region ?_
    refine AWl.put (R_assign rfl (.no rfl) rfl (.const rfl)) rfl ?_
    refine AWl.nil ?_
    refine AW.ret ?_
    refine Res.v rfl rfl ?_
    rfl
  · skip
    try simp at h11
    have hb0 := szConjunction_ok aQ 1048576 (by omega) (by omega)
    have hz0 := hb0.2 (by omega)
    refine AW.skip ?_
    refine AW.seq ?_
    refine AW.region ?_
    refine AWl.put ((by first | exact R_load rfl (.no rfl) rfl (.tmp rfl fun _ => rfl) ty35 rfl rfl | exact R_load_pp rfl (.no rfl) rfl (.tmp rfl fun _ => rfl) rfl ty35 rfl rfl | exact R_load_vw rfl (.no rfl) rfl (.tmp rfl fun _ => rfl) ty35 rfl rfl | exact R_load_pr rfl (.no rfl) rfl (.tmp rfl fun _ => rfl) rfl (by first | assumption | exact map_get (by assumption)) ty35 rfl rfl)) rfl ?_
    refine AWl.put (R_callz (FnT.fr (HtoConjunction _ (by first | exact hz0))) rfl (.no rfl) rfl (.cons (.tmp rfl fun _ => rfl) rfl .nil)) rfl ?_
    refine AWl.put (R_callz (FnT.fr (specFormatConjunction _)) rfl (.no rfl) rfl (.cons (.tmp rfl fun _ => rfl) rfl .nil)) rfl ?_
    refine AWl.put (R_assign rfl (.no rfl) rfl (.tmp rfl fun _ => rfl)) rfl ?_
    refine AWl.nil ?_
    refine AW.seq ?_
    refine AW.region ?_
    refine AWl.put ((by first | exact R_load rfl (.no rfl) rfl (.tmp rfl fun _ => rfl) ty35 rfl rfl | exact R_load_pp rfl (.no rfl) rfl (.tmp rfl fun _ => rfl) rfl ty35 rfl rfl | exact R_load_vw rfl (.no rfl) rfl (.tmp rfl fun _ => rfl) ty35 rfl rfl | exact R_load_pr rfl (.no rfl) rfl (.tmp rfl fun _ => rfl) rfl (by first | assumption | exact map_get (by assumption)) ty35 rfl rfl)) rfl ?_
    refine AWl.put (R_callz (FnT.fr (HtoConjunction _ (by first | exact hz0))) rfl (.no rfl) rfl (.cons (.tmp rfl fun _ => rfl) rfl .nil)) rfl ?_
    refine AWl.add (R_alloc 5 rfl rfl rfl in40 rfl rfl rfl) rfl ?_
    refine AWl.chgb (R_store_pb rfl rfl rfl (.tmp rfl fun _ => rfl) (.tmp rfl fun _ => rfl) rfl ty40 rfl rfl rfl (by kernel_rfl) rfl) ?_
    refine AWl.nil ?_
    refine AW.seq ?_
    refine AW.region ?_
    refine AWl.put ((by first | exact R_load rfl (.no rfl) rfl (.tmp rfl fun _ => rfl) ty40 rfl rfl | exact R_load_pp rfl (.no rfl) rfl (.tmp rfl fun _ => rfl) rfl ty40 rfl rfl | exact R_load_vw rfl (.no rfl) rfl (.tmp rfl fun _ => rfl) ty40 rfl rfl | exact R_load_pr rfl (.no rfl) rfl (.tmp rfl fun _ => rfl) rfl (by first | assumption | exact map_get (by assumption)) ty40 rfl rfl)) rfl ?_
    refine AWl.put (R_callz (FnT.fr (implFormatConjunction _)) rfl (.no rfl) rfl (.cons (.tmp rfl fun _ => rfl) rfl .nil)) rfl ?_
    refine AWl.put (R_assign rfl (.no rfl) rfl (.tmp rfl fun _ => rfl)) rfl ?_
    refine AWl.nil ?_
    refine AW.seq ?_
    refine AW.seq ?_
    refine AW.region ?_
    refine AWl.put (R_move rfl (.no rfl) rfl (.tmp rfl fun _ => rfl)) rfl ?_
    refine AWl.put (R_move rfl (.no rfl) rfl (.tmp rfl fun _ => rfl)) rfl ?_
    refine AWl.put (R_nestr rfl (.no rfl) rfl (.tmp rfl fun _ => rfl) (.tmp rfl fun _ => rfl)) rfl ?_
    refine AWl.nil ?_
    refine AW.cond (.tmp rfl fun _ => rfl) (fun h21 => ?_) (fun h21 => ?_)
    · exact absurd h21 (by simp)
    · skip
      try simp at h21
      refine AW.skip ?_
      refine AW.seq ?_
      refine AW.seq ?_
      refine AW.drawn 5 (nthB [[], [], [1], [0, 1, 2], [0, 1, 2, 3]]) (by kernel_rfl) (by kernel_rfl) (by kernel_rfl) ?_
      refine DrawC.step rfl rfl rfl (Loc.of rfl fun σ' hs => (by first | exact R_load rfl (.no rfl) (hd_sup hs rfl) (.tmp (hs.slots _ _ rfl) fun _ => rfl) ty40 rfl rfl | exact R_load_pp rfl (.no rfl) (hd_sup hs rfl) (.tmp (hs.slots _ _ rfl) fun _ => rfl) (hs.res _ _ rfl) ty40 rfl rfl | exact R_load_vw rfl (.no rfl) (hd_sup hs rfl) (.tmp (hs.slots _ _ rfl) fun _ => rfl) ty40 rfl rfl | exact R_load_pr rfl (.no rfl) (hd_sup hs rfl) (.tmp (hs.slots _ _ rfl) fun _ => rfl) (hs.res _ _ rfl) (by first | assumption | exact map_get (by assumption)) ty40 rfl rfl)) ?_
      refine DrawC.step rfl rfl rfl (Loc.of rfl fun σ' hs => (by first | exact R_load rfl (.no rfl) (hd_sup hs rfl) (.tmp (hs.slots _ _ rfl) fun _ => rfl) ty35 rfl rfl | exact R_load_pp rfl (.no rfl) (hd_sup hs rfl) (.tmp (hs.slots _ _ rfl) fun _ => rfl) (hs.res _ _ rfl) ty35 rfl rfl | exact R_load_vw rfl (.no rfl) (hd_sup hs rfl) (.tmp (hs.slots _ _ rfl) fun _ => rfl) ty35 rfl rfl | exact R_load_pr rfl (.no rfl) (hd_sup hs rfl) (.tmp (hs.slots _ _ rfl) fun _ => rfl) (hs.res _ _ rfl) (by first | assumption | exact map_get (by assumption)) ty35 rfl rfl)) ?_
      refine DrawC.step rfl rfl rfl (Loc.of rfl fun σ' hs => R_callz (FnT.fr (HtoConjunction _ (by first | exact hz0))) rfl (.no rfl) (hd_sup hs rfl) (.cons (.tmp (hs.slots _ _ rfl) fun _ => rfl) (readA_sup hs rfl) .nil)) ?_
      refine DrawC.step rfl rfl rfl (Loc.of rfl fun σ' hs => R_callz (FnT.fr (HeqConjunction _)) rfl (.no rfl) (hd_sup hs rfl) (.cons (.tmp (hs.slots _ _ rfl) fun _ => rfl) (readA_sup hs rfl) (.cons (.tmp (hs.slots _ _ rfl) fun _ => rfl) (readA_sup hs rfl) .nil))) ?_
      refine DrawC.step rfl rfl rfl (Loc.of rfl fun σ' hs => R_not rfl (.no rfl) (hd_sup hs rfl) (.tmp (hs.slots _ _ rfl) fun _ => rfl)) ?_
      refine DrawC.fin rfl rfl ?_
      refine AWl.nil ?_
      refine AW.cond (.tmp rfl fun _ => rfl) (fun h26 => ?_) (fun h26 => ?_)
      · exact absurd h26 (by simp)
      · skip
        try simp at h26
        refine AW.skip ?_
        refine AW.seq ?_
        refine AW.region ?_
        refine AWl.put (R_assign rfl (.no rfl) rfl (.const rfl)) rfl ?_
        refine AWl.nil ?_
        refine AW.ret ?_
        refine Res.v rfl rfl ?_
        rfl
namespace LFnExactFormatConjunction
theorem opensInt : OpensT cInt Tryd.prog 3 := opensTInt Tryd.underlying3
set_option maxRecDepth 100000 in
theorem opensToken : OpensT cToken Tryd.prog 117 := by
  intro H enc w base spare held fuel cs x h
  obtain ⟨xs, n, _, _, hlen, hxl, hf⟩ := DataW.trod_struct Tryd.underlying117 h
  rw [show Tryd.prog.cellsOf 117 = 4 from by kernel_rfl] at hlen
  have kInt : Tryd.prog.cellsOf 3 = 1 := by kernel_rfl
  match cs, hlen, xs, hxl with
  | [c0, c1, c2, c3], _, [y0, y1, y2, y3], _ =>
    have g0 : DataW.trod enc Tryd.prog w base spare held n 3 [c0] = some y0 := by simpa [kInt] using hf 0 _ rfl
    obtain ⟨x0, F0, e0⟩ := opensInt g0
    have g1 : DataW.trod enc Tryd.prog w base spare held n 3 [c1] = some y1 := by simpa [kInt] using hf 1 _ rfl
    obtain ⟨x1, F1, e1⟩ := opensInt g1
    have g2 : DataW.trod enc Tryd.prog w base spare held n 3 [c2] = some y2 := by simpa [kInt] using hf 2 _ rfl
    obtain ⟨x2, F2, e2⟩ := opensInt g2
    have g3 : DataW.trod enc Tryd.prog w base spare held n 3 [c3] = some y3 := by simpa [kInt] using hf 3 _ rfl
    obtain ⟨x3, F3, e3⟩ := opensInt g3
    exact ⟨⟨x0, x1, x2, x3⟩, _, (e0.append (e1.append (e2.append e3)))⟩
theorem opensTokenS : OpensT cTokenS Tryd.prog 70 := opensTSlice (c := cToken) Tryd.underlying70 (by kernel_rfl) (by decide) (fun _ => rfl) opensToken
set_option maxRecDepth 100000 in
theorem opensExpr : OpensT cExpr Tryd.prog 72 := by
  intro H enc w base spare held fuel cs x h
  obtain ⟨xs, n, _, _, hlen, hxl, hf⟩ := DataW.trod_struct Tryd.underlying72 h
  rw [show Tryd.prog.cellsOf 72 = 1 from by kernel_rfl] at hlen
  have kTokenS : Tryd.prog.cellsOf 70 = 1 := by kernel_rfl
  match cs, hlen, xs, hxl with
  | [c0], _, [y0], _ =>
    have g0 : DataW.trod enc Tryd.prog w base spare held n 70 [c0] = some y0 := by simpa [kTokenS] using hf 0 _ rfl
    obtain ⟨x0, F0, e0⟩ := opensTokenS g0
    exact ⟨⟨x0⟩, _, e0⟩
set_option maxRecDepth 100000 in
theorem opensPathAtom : OpensT cPathAtom Tryd.prog 74 := by
  intro H enc w base spare held fuel cs x h
  obtain ⟨xs, n, _, _, hlen, hxl, hf⟩ := DataW.trod_struct Tryd.underlying74 h
  rw [show Tryd.prog.cellsOf 74 = 3 from by kernel_rfl] at hlen
  have kExpr : Tryd.prog.cellsOf 72 = 1 := by kernel_rfl
  have kInt : Tryd.prog.cellsOf 3 = 1 := by kernel_rfl
  match cs, hlen, xs, hxl with
  | [c0, c1, c2], _, [y0, y1, y2], _ =>
    have g0 : DataW.trod enc Tryd.prog w base spare held n 3 [c0] = some y0 := by simpa [kInt] using hf 0 _ rfl
    obtain ⟨x0, F0, e0⟩ := opensInt g0
    have g1 : DataW.trod enc Tryd.prog w base spare held n 3 [c1] = some y1 := by simpa [kInt] using hf 1 _ rfl
    obtain ⟨x1, F1, e1⟩ := opensInt g1
    have g2 : DataW.trod enc Tryd.prog w base spare held n 72 [c2] = some y2 := by simpa [kExpr] using hf 2 _ rfl
    obtain ⟨x2, F2, e2⟩ := opensExpr g2
    exact ⟨⟨x0, x1, x2⟩, _, (e0.append (e1.append e2))⟩
theorem opensPathAtomS : OpensT cPathAtomS Tryd.prog 33 := opensTSlice (c := cPathAtom) Tryd.underlying33 (by kernel_rfl) (by decide) (fun _ => rfl) opensPathAtom
set_option maxRecDepth 100000 in
theorem opensConjunction : OpensT cConjunction Tryd.prog 35 := by
  intro H enc w base spare held fuel cs x h
  obtain ⟨xs, n, _, _, hlen, hxl, hf⟩ := DataW.trod_struct Tryd.underlying35 h
  rw [show Tryd.prog.cellsOf 35 = 2 from by kernel_rfl] at hlen
  have kPathAtomS : Tryd.prog.cellsOf 33 = 1 := by kernel_rfl
  have kInt : Tryd.prog.cellsOf 3 = 1 := by kernel_rfl
  match cs, hlen, xs, hxl with
  | [c0, c1], _, [y0, y1], _ =>
    have g0 : DataW.trod enc Tryd.prog w base spare held n 3 [c0] = some y0 := by simpa [kInt] using hf 0 _ rfl
    obtain ⟨x0, F0, e0⟩ := opensInt g0
    have g1 : DataW.trod enc Tryd.prog w base spare held n 33 [c1] = some y1 := by simpa [kPathAtomS] using hf 1 _ rfl
    obtain ⟨x1, F1, e1⟩ := opensPathAtomS g1
    exact ⟨⟨x0, x1⟩, _, (e0.append e1)⟩
theorem ownFnExactFormatConjunction : ownKnob Tryd.prog.godebug = none := by kernel_rfl
theorem laidOutFnExactFormatConjunction : laidOutB Tryd.prog = true := by kernel_rfl
set_option maxRecDepth 100000 in
theorem liftedFnExactFormatConjunction (os : Os) (started : os.Started) (H : Type) (enc : TypeId × Value → H) :
    ReturnsInHanded {} Tryd.checked os 4 .any (fun w args => (Rows.fnExactFormatConjunctionSpec.pre enc Tryd.prog Tryd.f4 Rows.fnExactFormatConjunctionRow.domain false w args ∧ laidMetH Tryd.prog Rows.fnExactFormatConjunctionRow.laid w) ∧ sizedMet enc Tryd.prog Tryd.f4 (OpenSpec.ofChange Rows.fnExactFormatConjunctionSpec) false w args) (Rows.fnExactFormatConjunctionSpec.post enc Tryd.prog Tryd.f4 false true false false) := by
  refine returnsInHanded_of_change_and (C := Tryd.checked) (X := fun w _ => laidMetH Tryd.prog Rows.fnExactFormatConjunctionRow.laid w) (fun _ _ _ hh h => h.of_heap hh) ownFnExactFormatConjunction started (by kernel_rfl) Tryd.func4
    (ChangeSpec.witness_shaped (enc := enc) (C := Tryd.checked) (os := os) (X := fun w _ => laidMetH Tryd.prog Rows.fnExactFormatConjunctionRow.laid w) false (World.laidAll Tryd.prog os Rows.fnExactFormatConjunctionRow.laid) #[.agg #[.int .i64 0, .slice none 0 0]] 8 (World.laidAll_os _ _ _)
      (World.shaped_of_ZipB (by kernel_rfl) (by kernel_rfl)) (by kernel_rfl) (by kernel_rfl) (by kernel_rfl)
      (by rw [MakeChecks.laidMetH_plain _ _ _ (by kernel_rfl)]; exact laidMet_laidAll _ (by kernel_rfl) (by kernel_rfl))) ?_
  intro W base args ds gs before hval0 hW hcnd _ _ _
  have hval : ∀ (j : Nat) t v, Tryd.f4.params[j]? = some t → args[j]? = some v → Value.okWide Tryd.prog W .any base t v := hval0
  have hW' := hW
  obtain ⟨p, q, hA0, hV, rfl, hfz, hnd⟩ := hW
  have hA : DataW.TrodAll enc Tryd.prog W 0 (fun _ => true) true Tryd.f4.params.toList args.toList ds p := hA0
  rw [Tryd.params4] at hA hval
  obtain ⟨v0, vs0, d0, ds0, p0, q0, hargs, rfl, rfl, h0, r0⟩ := trodAll_cons hA
  obtain ⟨rfl, rfl, rfl⟩ := trodAll_nil r0
  obtain rfl : args = #[v0] := by cases args; simp_all
  obtain ⟨rfl, rfl⟩ := trodVars_none hV
  obtain ⟨cs0, rfl, _⟩ := okWide_struct Tryd.underlying35 (hval 0 35 v0 rfl rfl)
  have k0 := h0
  have lt0 : ∀ x ∈ p0, x.block < W.heap.size := by obtain ⟨m, hm⟩ := k0; exact DataW.trod_lt m _ _ _ hm
  obtain ⟨x0, F0, hs0⟩ := OpensT.vl opensConjunction h0
  clear hA0 hval0
  refine ((lawFnExactFormatConjunction x0).2 W _ _ ⟨_, _, _, _, rfl, (show V0r false W (.agg (cConjunction x0)) _ _ from ⟨cs0.toList, by simp, hs0⟩), ⟨rfl, rfl⟩, rfl⟩).mono fun e W' ⟨v, F, he, hv, _, _, bel⟩ => ?_
  have hv2 : v = .bool true := by unfold Vr V0r C at hv; exact hv.1
  subst hv2
  subst he
  exact ⟨_, rfl, _, _, _, [], _, [], hW', trodAll_mk1 (shut_bool Tryd.underlying4 _), (trodAll_cons_mk (Below.trod laidOutFnExactFormatConjunction (by kernel_rfl) (of_decide_eq_true (by kernel_rfl)) k0 bel lt0) trodAll_mk0), rfl, Below.frame bel _, fun h => by cases h⟩
theorem jfa : (Rows.fnExactFormatConjunctionRow.inPlace == Tryd.prog.inPlace 4) = true := by kernel_rfl
theorem jfb : (Rows.fnExactFormatConjunctionRow.unfollowed == Tryd.prog.unfollowed 4) = true := by kernel_rfl
theorem jfc : (Rows.fnExactFormatConjunctionRow.recurses == Tryd.prog.recurses 4) = true := by kernel_rfl
theorem jfd : (Rows.fnExactFormatConjunctionRow.named == Tryd.prog.varsNamed 4) = true := by kernel_rfl
theorem jfe : mapsRowed Tryd.prog = true := by kernel_rfl
theorem jff : joinedFacts Tryd.prog 4 Tryd.f4 Rows.fnExactFormatConjunctionSpec Rows.fnExactFormatConjunctionRow = true := by
  unfold joinedFacts
  rw [laidOutFnExactFormatConjunction, jfa, jfb, jfc, jfd, jfe]
  kernel_rfl
set_option maxRecDepth 100000 in
/-- The statement. -/
theorem provedFnExactFormatConjunction : Rows.FnExactFormatConjunctionSaid :=
  OpenClaim.holds_of_wide 4 Tryd.f4 rfl rfl rfl rfl rfl rfl rfl ⟨rfl, rfl, rfl, rfl, rfl⟩ rfl rfl rfl rfl rfl (by kernel_rfl) Tryd.func4 jff
    (of_decide_eq_true (by kernel_rfl)) (by unfold Func.isWrapper; first | (rw [if_pos (by decide +kernel)]; kernel_rfl) | (rw [if_neg (by decide +kernel)]; exact ⟨rfl, rfl⟩))
    (fun os started H enc _ => liftedFnExactFormatConjunction os started H enc)
theorem cardFnExactFormatConjunction : Rows.FnExactFormatConjunctionCardSaid :=
  Claim7.holds_tied_plain_at .later [] [.data, .data, .data] true (true, "bcc38b5662701dffc89414e221a86944e79ec4c29e56feea89fcb00c41dcdef1") false provedFnExactFormatConjunction (fun _ h => by cases h) (by kernel_rfl) (fun _ h => by cases h) fnExactFormatConjunction_row_tie rfl ⟨rfl, rfl⟩ (by kernel_rfl) rfl
    (fun f fn hf hfn => by
      obtain rfl : f = 4 := Option.some.inj ((show Tryd.prog.funcNamed "loop.example/g01922/laws.FnExactFormatConjunction" = some 4 by kernel_rfl).symm.trans hf) |>.symm
      obtain rfl : fn = Tryd.f4 := (Option.some.inj (Tryd.func4.symm.trans hfn)).symm
      exact ⟨by kernel_rfl, fun j t ht => by
        rw [Tryd.params4] at ht
        have hm : t ∈ [35] := by simpa using Array.mem_of_getElem? ht
        have hall : ([35].all fun u => !Tryd.prog.wantsStandIn u) = true := by kernel_rfl
        exact (show Tryd.prog.wantsStandIn t = false by simpa using List.all_eq_true.1 hall t hm)⟩)
    (by kernel_rfl)
#print axioms cardFnExactFormatConjunction
#print axioms provedFnExactFormatConjunction
end LFnExactFormatConjunction
end Go.Proofs.YtijkijoempdgnaaDoor
