/- FnExactIsDelta: the law returns true for every input, and its arguments read as they did. No condition. -/
import Derived.Test.YtindeldjbofanaaS28a
import Derived.Test.YtindeldjbofanaaOpen
namespace Go.Proofs.Ytindeldjbofanaa
open Go.RowKit Go.Q Go.Q.Rd Go.ChangeShapes Go.WideShapes Go.ChangeAt
open Go.ChangeMaps (open_string shut_string)
set_option maxHeartbeats 4000000 in
set_option maxRecDepth 10000 in
theorem lawFnExactIsDelta (aD : TDelta) (w : World) {p0a0 : Option Addr} {p0l0 p0c0 : Nat} {p0F0 : List Nat} (p0h0 : Sl w p0a0 p0l0 p0c0 aD.Added p0F0) {p0a1 : Option Addr} {p0l1 p0c1 : Nat} {p0F1 : List Nat} (p0h1 : Sl w p0a1 p0l1 p0c1 aD.Removed p0F1) :
    Calls Try.prog 7 #[.agg #[.slice p0a0 p0l0 p0c0, .slice p0a1 p0l1 p0c1]] w fun e w' => e = .returned (.bool true) ∧ Ext w w' := by
  have hx := Ext.refl w
  go_enter Try.func7, Try.ntmps7
  go_wp2_with fail
  obtain ⟨w1, hu, hx1, B0⟩ := boxes1 w #[.slice p0a0 p0l0 p0c0, .slice p0a1 p0l1 p0c1] 30
  rw [← hu]
  clear hu
  replace p0h0 := p0h0.mono hx1
  replace p0h1 := p0h1.mono hx1
  replace hx := hx.trans hx1
  clear hx1
  refine (szDelta w1 p0h0 p0h1 _ (by omega) (by omega)).mono ?_
  rintro e w2 ⟨rfl, hx1⟩
  replace p0h0 := p0h0.mono hx1
  replace p0h1 := p0h1.mono hx1
  replace B0 := B0.mono hx1
  replace hx := hx.trans hx1
  clear hx1
  by_cases q0 : 1048576 - (sizDelta aD : Int) < 0
  case pos =>
    rw [szr_neg q0]
    go_wp2
    go_ret
    exact ⟨rfl, hx⟩
  rw [szr_pos q0]
  have ZaD := hid (show sizDelta aD ≤ 1048576 by omega)
  have b0_0 := B0.at 0 rfl
  have b0_1 := B0.at 1 rfl
  go_wp2_with fail
  clear b0_0 b0_1
  refine (toDelta w2 p0h0 p0h1 ZaD.out).mono ?_
  rintro e w3 ⟨v, rfl, hN, hx1⟩
  obtain ⟨r1_F, hv⟩ := hN.vl
  clear hN
  obtain ⟨r1_a0, r1_l0, r1_c0, r1_F0, r1_a1, r1_l1, r1_c1, r1_F1, rfl, r1_h0, r1_h1, -⟩ := hv.ofTDelta
  clear hv
  replace p0h0 := p0h0.mono hx1
  replace p0h1 := p0h1.mono hx1
  replace B0 := B0.mono hx1
  replace hx := hx.trans hx1
  clear hx1
  have b0_0 := B0.at 0 rfl
  have b0_1 := B0.at 1 rfl
  go_wp2_with fail
  clear b0_0 b0_1
  refine (specIsDelta aD w3 r1_h0 r1_h1 ).mono ?_
  rintro e w4 ⟨rfl, hx1⟩
  replace p0h0 := p0h0.mono hx1
  replace p0h1 := p0h1.mono hx1
  replace B0 := B0.mono hx1
  replace r1_h0 := r1_h0.mono hx1
  replace r1_h1 := r1_h1.mono hx1
  replace hx := hx.trans hx1
  clear hx1
  have b0_0 := B0.at 0 rfl
  have b0_1 := B0.at 1 rfl
  go_wp2_with fail
  clear b0_0 b0_1
  refine (toDelta w4 p0h0 p0h1 ZaD.out).mono ?_
  rintro e w5 ⟨v, rfl, hN, hx1⟩
  obtain ⟨r3_F, hv⟩ := hN.vl
  clear hN
  obtain ⟨r3_a0, r3_l0, r3_c0, r3_F0, r3_a1, r3_l1, r3_c1, r3_F1, rfl, r3_h0, r3_h1, -⟩ := hv.ofTDelta
  clear hv
  replace p0h0 := p0h0.mono hx1
  replace p0h1 := p0h1.mono hx1
  replace B0 := B0.mono hx1
  replace r1_h0 := r1_h0.mono hx1
  replace r1_h1 := r1_h1.mono hx1
  replace hx := hx.trans hx1
  clear hx1
  have b0_0 := B0.at 0 rfl
  have b0_0p := (B0.alloc (.cells #[.slice r3_a0 r3_l0 r3_c0, .slice r3_a1 r3_l1 r3_c1] 35)).at 0 rfl
  have b0_1 := B0.at 1 rfl
  have b0_1p := (B0.alloc (.cells #[.slice r3_a0 r3_l0 r3_c0, .slice r3_a1 r3_l1 r3_c1] 35)).at 1 rfl
  go_wp2_with fail
  clear b0_0 b0_0p b0_1 b0_1p
  obtain ⟨w6, hu, hx1, B1⟩ := boxes1 w5 #[.slice r3_a0 r3_l0 r3_c0, .slice r3_a1 r3_l1 r3_c1] 35
  rw [← hu]
  clear hu
  replace p0h0 := p0h0.mono hx1
  replace p0h1 := p0h1.mono hx1
  replace B0 := B0.mono hx1
  replace r1_h0 := r1_h0.mono hx1
  replace r1_h1 := r1_h1.mono hx1
  replace r3_h0 := r3_h0.mono hx1
  replace r3_h1 := r3_h1.mono hx1
  replace hx := hx.trans hx1
  clear hx1
  refine (implIsDelta aD w6 r3_h0 r3_h1 ).mono ?_
  rintro e w7 ⟨rfl, hx1⟩
  replace p0h0 := p0h0.mono hx1
  replace p0h1 := p0h1.mono hx1
  replace B0 := B0.mono hx1
  replace r1_h0 := r1_h0.mono hx1
  replace r1_h1 := r1_h1.mono hx1
  replace r3_h0 := r3_h0.mono hx1
  replace r3_h1 := r3_h1.mono hx1
  replace B1 := B1.mono hx1
  replace hx := hx.trans hx1
  clear hx1
  have b0_0 := B0.at 0 rfl
  have b0_1 := B0.at 1 rfl
  have b1_0 := B1.at 0 rfl
  have b1_1 := B1.at 1 rfl
  go_wp2_with fail
  clear b0_0 b0_1 b1_0 b1_1
  refine wp_region_plan 5 [MP.is (.agg #[.slice r3_a0 r3_l0 r3_c0, .slice r3_a1 r3_l1 r3_c1]), MP.is (.agg #[.slice p0a0 p0l0 p0c0, .slice p0a1 p0l1 p0c1]), MP.vl aD, MP.is (.bool true), MP.is (.bool false)] (by kernel_rfl) (by kernel_rfl) ?_ ?_
  · refine ⟨?_, ?_, ?_, ?_, ?_, trivial⟩
    · intro vs w3 hx3 hd K hK
      simp [deps, fillD, dstAt, Region.binds, Act.put] at hd hK ⊢
      have c0 := (B1.mono hx3).at 0 rfl
      have c1 := (B1.mono hx3).at 1 rfl
      go_wp2_with fail
      exact hK _ _ (Ext.refl _) rfl
    · intro vs w3 hx3 hd K hK
      simp [deps, fillD, dstAt, Region.binds, Act.put] at hd hK ⊢
      have c0 := (B0.mono hx3).at 0 rfl
      have c1 := (B0.mono hx3).at 1 rfl
      go_wp2_with fail
      exact hK _ _ (Ext.refl _) rfl
    · intro vs w3 hx3 hd K hK
      simp [deps, fillD, dstAt, Region.binds, Act.put] at hd hK ⊢
      have e1 : vs 1 = .agg #[.slice p0a0 p0l0 p0c0, .slice p0a1 p0l1 p0c1] := by first | exact hd | exact hd.1 | exact hd.2 | exact hd.1.1 | exact hd.2.1 | exact hd.2.2 | exact hd.2.2.1 | exact hd.2.2.2 | exact hd.2.2.2.1 | exact hd.2.2.2.2
      simp only [e1] at hK ⊢
      go_wp2_with fail
      refine (toDelta w3 (p0h0.mono hx3) (p0h1.mono hx3) ZaD.out).mono ?_
      rintro e w4 ⟨v, rfl, hN, hx4⟩
      go_wp2_with fail
      exact hK _ _ hx4 hN.vl
    · intro vs w3 hx3 hd K hK
      simp [deps, fillD, dstAt, Region.binds, Act.put] at hd hK ⊢
      have e0 : vs 0 = .agg #[.slice r3_a0 r3_l0 r3_c0, .slice r3_a1 r3_l1 r3_c1] := by first | exact hd | exact hd.1 | exact hd.2 | exact hd.1.1 | exact hd.2.1 | exact hd.2.2 | exact hd.2.2.1 | exact hd.2.2.2 | exact hd.2.2.2.1 | exact hd.2.2.2.2
      obtain ⟨v2_F, v2_v⟩ : ∃ F, Vl w3 (vs 2) aD F := by first | exact hd | exact hd.1 | exact hd.2 | exact hd.1.1 | exact hd.2.1 | exact hd.2.2 | exact hd.2.2.1 | exact hd.2.2.2 | exact hd.2.2.2.1 | exact hd.2.2.2.2
      obtain ⟨v2_a0, v2_l0, v2_c0, v2_F0, v2_a1, v2_l1, v2_c1, v2_F1, e2, v2_h0, v2_h1, -⟩ := v2_v.ofTDelta
      simp only [e0, e2] at hK ⊢
      go_wp2_with fail
      refine (eqDelta aD aD w3 (r3_h0.mono hx3) (r3_h1.mono hx3) v2_h0 v2_h1).mono ?_
      rintro e w4 ⟨he, hx4⟩
      obtain rfl : e = .returned (.bool true) := he.trans (ret_bool (by simp))
      go_wp2_with fail
      exact hK _ _ hx4 rfl
    · intro vs w3 hx3 hd K hK
      simp [deps, fillD, dstAt, Region.binds, Act.put] at hd hK ⊢
      have e3 : vs 3 = .bool true := by first | exact hd | exact hd.1 | exact hd.2 | exact hd.1.1 | exact hd.2.1 | exact hd.2.2 | exact hd.2.2.1 | exact hd.2.2.2 | exact hd.2.2.2.1 | exact hd.2.2.2.2 | exact hd.2.2.2.2.1 | exact hd.2.2.2.2.2
      simp only [e3] at hK ⊢
      go_wp2_with fail
      exact hK _ _ (Ext.refl _) rfl
  intro vs w8 hx1 hd
  have e0 : vs 0 = .agg #[.slice r3_a0 r3_l0 r3_c0, .slice r3_a1 r3_l1 r3_c1] := hd 0 (by omega)
  have e1 : vs 1 = .agg #[.slice p0a0 p0l0 p0c0, .slice p0a1 p0l1 p0c1] := hd 1 (by omega)
  have e3 : vs 3 = .bool true := hd 3 (by omega)
  have e4 : vs 4 = .bool false := hd 4 (by omega)
  simp [fillD, dstAt, Act.put, List.range_succ]
  simp only [e0, e1, e3, e4]
  clear e0 e1 e3 e4 hd
  replace p0h0 := p0h0.mono hx1
  replace p0h1 := p0h1.mono hx1
  replace B0 := B0.mono hx1
  replace r1_h0 := r1_h0.mono hx1
  replace r1_h1 := r1_h1.mono hx1
  replace r3_h0 := r3_h0.mono hx1
  replace r3_h1 := r3_h1.mono hx1
  replace B1 := B1.mono hx1
  replace hx := hx.trans hx1
  clear hx1
  go_wp2
  go_ret
  exact ⟨rfl, hx⟩
namespace LFnExactIsDelta
theorem opensInt : Opens Int Try.prog 3 := Go.Q.opensInt Try.underlying3
theorem opensPair : Opens TPair Try.prog 70 := by
  intro H enc w base spare held fuel cs x h
  obtain ⟨xs, n, _, _, hlen, hxl, hf⟩ := DataW.trod_struct Try.underlying70 h
  rw [show Try.prog.cellsOf 70 = 2 from by kernel_rfl] at hlen
  have kInt : Try.prog.cellsOf 3 = 1 := by kernel_rfl
  match cs, hlen, xs, hxl with
  | [c0, c1], _, [y0, y1], _ =>
    have g0 : DataW.trod enc Try.prog w base spare held n 3 [c0] = some y0 := by simpa [kInt] using hf 0 _ rfl
    obtain ⟨x0, F0, e0, _⟩ := opensInt g0
    simp [Flat.enc] at e0
    subst e0
    have g1 : DataW.trod enc Try.prog w base spare held n 3 [c1] = some y1 := by simpa [kInt] using hf 1 _ rfl
    obtain ⟨x1, F1, e1, _⟩ := opensInt g1
    simp [Flat.enc] at e1
    subst e1
    exact ⟨⟨x0, x1⟩, [], rfl, rfl⟩
theorem opensPairS : Opens (List TPair) Try.prog 28 := opensSlice Try.underlying28 (by kernel_rfl) (by decide) opensPair
theorem opensDelta : Opens TDelta Try.prog 30 := by
  intro H enc w base spare held fuel cs x h
  obtain ⟨xs, n, _, _, hlen, hxl, hf⟩ := DataW.trod_struct Try.underlying30 h
  rw [show Try.prog.cellsOf 30 = 2 from by kernel_rfl] at hlen
  have kPairS : Try.prog.cellsOf 28 = 1 := by kernel_rfl
  match cs, hlen, xs, hxl with
  | [c0, c1], _, [y0, y1], _ =>
    have g0 : DataW.trod enc Try.prog w base spare held n 28 [c0] = some y0 := by simpa [kPairS] using hf 0 _ rfl
    obtain ⟨x0, F0, a0, l0, d0, e0, s0⟩ := opensPairS g0
    simp [Flat.enc] at e0
    subst e0
    have g1 : DataW.trod enc Try.prog w base spare held n 28 [c1] = some y1 := by simpa [kPairS] using hf 1 _ rfl
    obtain ⟨x1, F1, a1, l1, d1, e1, s1⟩ := opensPairS g1
    simp [Flat.enc] at e1
    subst e1
    exact ⟨⟨x0, x1⟩, _, _, _, _, _, _, _, _, _, rfl, s0, s1, rfl⟩
theorem ownFnExactIsDelta : ownKnob Try.prog.godebug = none := by kernel_rfl
theorem laidOutFnExactIsDelta : laidOutB Try.prog = true := by kernel_rfl
set_option maxRecDepth 100000 in
theorem liftedFnExactIsDelta (os : Os) (started : os.Started) (H : Type) (enc : TypeId × Value → H) :
    ReturnsInHanded {} Try.checked os 7 .any (Rows.fnExactIsDeltaSpec.pre6 enc Try.prog Try.f7 Rows.fnExactIsDeltaRow.domain false) (Rows.fnExactIsDeltaSpec.post enc Try.prog Try.f7 false true false false) := by
  refine returnsInHanded_of_change (C := Try.checked) ownFnExactIsDelta started (by kernel_rfl) Try.func7
    (ChangeSpec.witness6 (enc := enc) (C := Try.checked) false ⟨#[], #[.agg #[.slice none 0 0, .slice none 0 0]], []⟩ 8 (by kernel_rfl) (by kernel_rfl) (by kernel_rfl) (by kernel_rfl)) ?_
  intro W base args ds gs before hval0 hW hcnd _
  have hval : ∀ (j : Nat) t v, Try.f7.params[j]? = some t → args[j]? = some v → Value.okWide Try.prog W .any base t v := hval0
  have hW' := hW
  obtain ⟨p, q, hA0, hV, rfl, hfz, hnd⟩ := hW
  have hA : DataW.TrodAll enc Try.prog W 0 (fun _ => true) true Try.f7.params.toList args.toList ds p := hA0
  rw [Try.params7] at hA hval
  obtain ⟨v0, vs0, d0, ds0, p0, q0, hargs, rfl, rfl, h0, r0⟩ := trodAll_cons hA
  obtain ⟨rfl, rfl, rfl⟩ := trodAll_nil r0
  obtain rfl : args = #[v0] := by cases args; simp_all
  obtain ⟨rfl, rfl⟩ := trodVars_none hV
  obtain ⟨cs0, rfl, _⟩ := okWide_struct Try.underlying30 (hval 0 30 v0 rfl rfl)
  have k0 := h0
  have lt0 : ∀ x ∈ p0, x.block < W.heap.size := by obtain ⟨m, hm⟩ := k0; exact DataW.trod_lt m _ _ _ hm
  obtain ⟨x0, F0, g0a0, g0l0, g0c0, g0F0, g0a1, g0l1, g0c1, g0F1, he0, hs0_0, hs0_1, _⟩ := Opens.vl opensDelta h0
  obtain rfl : cs0 = #[.slice g0a0 g0l0 g0c0, .slice g0a1 g0l1 g0c1] := Array.ext' (by simpa [Value.cells, Flat.enc] using he0)
  clear hA0 hval0
  refine (lawFnExactIsDelta x0 W hs0_0 hs0_1).mono fun e W' ⟨he, bel⟩ => ?_
  subst he
  exact ⟨_, rfl, _, _, _, [], _, [], hW', trodAll_mk1 (shut_bool Try.underlying4 _), (trodAll_cons_mk (Below.trod laidOutFnExactIsDelta (by kernel_rfl) (of_decide_eq_true (by kernel_rfl)) k0 bel lt0) trodAll_mk0), rfl, Below.frame bel _, fun h => by cases h⟩
/-- The statement. -/
theorem provedFnExactIsDelta : Rows.FnExactIsDeltaSaid :=
  OpenClaim.holds_of_wide 7 Try.f7 rfl rfl rfl rfl rfl rfl rfl ⟨rfl, rfl, rfl, rfl, rfl⟩ rfl rfl rfl rfl rfl (by kernel_rfl) Try.func7 (by kernel_rfl)
    (of_decide_eq_true (by kernel_rfl)) (by unfold Func.isWrapper; first | (rw [if_pos (by decide +kernel)]; kernel_rfl) | (rw [if_neg (by decide +kernel)]; exact ⟨rfl, rfl⟩))
    (fun os started H enc _ => liftedFnExactIsDelta os started H enc)
#print axioms provedFnExactIsDelta
end LFnExactIsDelta
end Go.Proofs.Ytindeldjbofanaa
