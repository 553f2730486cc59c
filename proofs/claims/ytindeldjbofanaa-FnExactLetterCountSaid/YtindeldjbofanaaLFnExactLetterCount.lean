/- FnExactLetterCount: the law returns true for every input, and its arguments read as they did. No condition. -/
import Derived.Test.YtindeldjbofanaaS08c
import Derived.Test.YtindeldjbofanaaOpen
namespace Go.Proofs.Ytindeldjbofanaa
open Go.RowKit Go.Q Go.Q.Rd Go.ChangeShapes Go.WideShapes Go.ChangeAt
open Go.ChangeMaps (open_string shut_string)
set_option maxHeartbeats 4000000 in
set_option maxRecDepth 10000 in
theorem lawFnExactLetterCount (aE : TExpr) (w : World) {p0a0 : Option Addr} {p0l0 p0c0 : Nat} {p0F0 : List Nat} (p0h0 : Sl w p0a0 p0l0 p0c0 aE.Tokens p0F0) :
    Calls Try.prog 8 #[.agg #[.slice p0a0 p0l0 p0c0]] w fun e w' => e = .returned (.bool true) ∧ Ext w w' := by
  have hx := Ext.refl w
  go_enter Try.func8, Try.ntmps8
  go_wp2_with fail
  obtain ⟨w1, hu, hx1, B0⟩ := boxes1 w #[.slice p0a0 p0l0 p0c0] 44
  rw [← hu]
  clear hu
  replace p0h0 := p0h0.mono hx1
  replace hx := hx.trans hx1
  clear hx1
  refine (szExpr w1 p0h0 _ (by omega) (by omega)).mono ?_
  rintro e w2 ⟨rfl, hx1⟩
  replace p0h0 := p0h0.mono hx1
  replace B0 := B0.mono hx1
  replace hx := hx.trans hx1
  clear hx1
  by_cases q0 : 1048576 - (sizExpr aE : Int) < 0
  case pos =>
    rw [szr_neg q0]
    go_wp2
    go_ret
    exact ⟨rfl, hx⟩
  rw [szr_pos q0]
  have ZaE := hid (show sizExpr aE ≤ 1048576 by omega)
  have b0_0 := B0.at 0 rfl
  go_wp2_with fail
  clear b0_0
  refine (toExpr w2 p0h0 ZaE.out).mono ?_
  rintro e w3 ⟨v, rfl, hN, hx1⟩
  obtain ⟨r1_F, hv⟩ := hN.vl
  clear hN
  obtain ⟨r1_a0, r1_l0, r1_c0, r1_F0, rfl, r1_h0, -⟩ := hv.ofTExpr
  clear hv
  replace p0h0 := p0h0.mono hx1
  replace B0 := B0.mono hx1
  replace hx := hx.trans hx1
  clear hx1
  have b0_0 := B0.at 0 rfl
  go_wp2_with fail
  clear b0_0
  refine (specLetterCount aE w3 r1_h0 ).mono ?_
  rintro e w4 ⟨rfl, hx1⟩
  clear r1_h0
  replace p0h0 := p0h0.mono hx1
  replace B0 := B0.mono hx1
  replace hx := hx.trans hx1
  clear hx1
  have b0_0 := B0.at 0 rfl
  go_wp2_with fail
  clear b0_0
  refine (toExpr w4 p0h0 ZaE.out).mono ?_
  rintro e w5 ⟨v, rfl, hN, hx1⟩
  obtain ⟨r3_F, hv⟩ := hN.vl
  clear hN
  obtain ⟨r3_a0, r3_l0, r3_c0, r3_F0, rfl, r3_h0, -⟩ := hv.ofTExpr
  clear hv
  replace p0h0 := p0h0.mono hx1
  replace B0 := B0.mono hx1
  replace hx := hx.trans hx1
  clear hx1
  have b0_0 := B0.at 0 rfl
  have b0_0p := (B0.alloc (.cells #[.slice r3_a0 r3_l0 r3_c0] 49)).at 0 rfl
  go_wp2_with fail
  clear b0_0 b0_0p
  obtain ⟨w6, hu, hx1, B1⟩ := boxes1 w5 #[.slice r3_a0 r3_l0 r3_c0] 49
  rw [← hu]
  clear hu
  replace p0h0 := p0h0.mono hx1
  replace B0 := B0.mono hx1
  replace r3_h0 := r3_h0.mono hx1
  replace hx := hx.trans hx1
  clear hx1
  refine (implLetterCount aE w6 r3_h0 ).mono ?_
  rintro e w7 ⟨rfl, hx1⟩
  replace p0h0 := p0h0.mono hx1
  replace B0 := B0.mono hx1
  replace r3_h0 := r3_h0.mono hx1
  replace B1 := B1.mono hx1
  replace hx := hx.trans hx1
  clear hx1
  have b0_0 := B0.at 0 rfl
  have b1_0 := B1.at 0 rfl
  go_wp2_with fail
  clear b0_0 b1_0
  refine wp_region_plan 5 [MP.is (.agg #[.slice r3_a0 r3_l0 r3_c0]), MP.is (.agg #[.slice p0a0 p0l0 p0c0]), MP.vl aE, MP.is (.bool true), MP.is (.bool false)] (by kernel_rfl) (by kernel_rfl) (by kernel_rfl) ?_ ?_
  · refine ⟨?_, ?_, ?_, ?_, ?_, trivial⟩ <;> intro vs w3 hx3 hd K hK <;> simp [deps, fillD, dstAt, Region.binds, Act.put] at hd hK ⊢
    · skip
      have c0 := (B1.mono hx3).at 0 rfl
      go_wp2_with fail
      exact hK _ _ (Ext.refl _) rfl
    · skip
      have c0 := (B0.mono hx3).at 0 rfl
      go_wp2_with fail
      exact hK _ _ (Ext.refl _) rfl
    · skip
      have e1 : vs 1 = .agg #[.slice p0a0 p0l0 p0c0] := by first | exact hd | exact hd.1 | exact hd.2 | exact hd.1.1 | exact hd.2.1 | exact hd.2.2 | exact hd.2.2.1 | exact hd.2.2.2 | exact hd.2.2.2.1 | exact hd.2.2.2.2
      simp only [e1] at hK ⊢
      go_wp2_with fail
      refine (toExpr w3 (p0h0.mono hx3) ZaE.out).mono ?_
      rintro e w4 ⟨v, rfl, hN, hx4⟩
      go_wp2_with fail
      exact hK _ _ hx4 hN.vl
    · skip
      have e0 : vs 0 = .agg #[.slice r3_a0 r3_l0 r3_c0] := by first | exact hd | exact hd.1 | exact hd.2 | exact hd.1.1 | exact hd.2.1 | exact hd.2.2 | exact hd.2.2.1 | exact hd.2.2.2 | exact hd.2.2.2.1 | exact hd.2.2.2.2
      obtain ⟨v2_F, v2_v⟩ : ∃ F, Vl w3 (vs 2) aE F := by first | exact hd | exact hd.1 | exact hd.2 | exact hd.1.1 | exact hd.2.1 | exact hd.2.2 | exact hd.2.2.1 | exact hd.2.2.2 | exact hd.2.2.2.1 | exact hd.2.2.2.2
      obtain ⟨v2_a0, v2_l0, v2_c0, v2_F0, e2, v2_h0, -⟩ := v2_v.ofTExpr
      simp only [e0, e2] at hK ⊢
      go_wp2_with fail
      refine (eqExpr aE aE w3 (r3_h0.mono hx3) v2_h0).mono ?_
      rintro e w4 ⟨he, hx4⟩
      obtain rfl : e = .returned (.bool true) := he.trans (ret_bool (by simp))
      go_wp2_with fail
      exact hK _ _ hx4 rfl
    · skip
      have e3 : vs 3 = .bool true := by first | exact hd | exact hd.1 | exact hd.2 | exact hd.1.1 | exact hd.2.1 | exact hd.2.2 | exact hd.2.2.1 | exact hd.2.2.2 | exact hd.2.2.2.1 | exact hd.2.2.2.2 | exact hd.2.2.2.2.1 | exact hd.2.2.2.2.2
      simp only [e3] at hK ⊢
      go_wp2_with fail
      exact hK _ _ (Ext.refl _) rfl
  intro vs w8 hx1 hd
  have e0 : vs 0 = .agg #[.slice r3_a0 r3_l0 r3_c0] := hd 0 (by omega)
  have e1 : vs 1 = .agg #[.slice p0a0 p0l0 p0c0] := hd 1 (by omega)
  have e3 : vs 3 = .bool true := hd 3 (by omega)
  have e4 : vs 4 = .bool false := hd 4 (by omega)
  simp [fillD, dstAt, Act.put, List.range_succ]
  simp only [e0, e1, e3, e4]
  clear e0 e1 e3 e4 hd
  clear B0 B1 p0h0 r3_h0
  replace hx := hx.trans hx1
  clear hx1
  go_wp2
  go_ret
  exact ⟨rfl, hx⟩
namespace LFnExactLetterCount
theorem opensInt : Opens Int Try.prog 3 := Go.Q.opensInt Try.underlying3
theorem opensToken : Opens TToken Try.prog 76 := by
  intro H enc w base spare held fuel cs x h
  obtain ⟨xs, n, _, _, hlen, hxl, hf⟩ := DataW.trod_struct Try.underlying76 h
  rw [show Try.prog.cellsOf 76 = 4 from by kernel_rfl] at hlen
  have kInt : Try.prog.cellsOf 3 = 1 := by kernel_rfl
  match cs, hlen, xs, hxl with
  | [c0, c1, c2, c3], _, [y0, y1, y2, y3], _ =>
    have g0 : DataW.trod enc Try.prog w base spare held n 3 [c0] = some y0 := by simpa [kInt] using hf 0 _ rfl
    obtain ⟨x0, F0, e0, _⟩ := opensInt g0
    simp [Flat.enc] at e0
    subst e0
    have g1 : DataW.trod enc Try.prog w base spare held n 3 [c1] = some y1 := by simpa [kInt] using hf 1 _ rfl
    obtain ⟨x1, F1, e1, _⟩ := opensInt g1
    simp [Flat.enc] at e1
    subst e1
    have g2 : DataW.trod enc Try.prog w base spare held n 3 [c2] = some y2 := by simpa [kInt] using hf 2 _ rfl
    obtain ⟨x2, F2, e2, _⟩ := opensInt g2
    simp [Flat.enc] at e2
    subst e2
    have g3 : DataW.trod enc Try.prog w base spare held n 3 [c3] = some y3 := by simpa [kInt] using hf 3 _ rfl
    obtain ⟨x3, F3, e3, _⟩ := opensInt g3
    simp [Flat.enc] at e3
    subst e3
    exact ⟨⟨x0, x1, x2, x3⟩, [], rfl, rfl⟩
theorem opensTokenS : Opens (List TToken) Try.prog 42 := opensSlice Try.underlying42 (by kernel_rfl) (by decide) opensToken
theorem opensExpr : Opens TExpr Try.prog 44 := by
  intro H enc w base spare held fuel cs x h
  obtain ⟨xs, n, _, _, hlen, hxl, hf⟩ := DataW.trod_struct Try.underlying44 h
  rw [show Try.prog.cellsOf 44 = 1 from by kernel_rfl] at hlen
  have kTokenS : Try.prog.cellsOf 42 = 1 := by kernel_rfl
  match cs, hlen, xs, hxl with
  | [c0], _, [y0], _ =>
    have g0 : DataW.trod enc Try.prog w base spare held n 42 [c0] = some y0 := by simpa [kTokenS] using hf 0 _ rfl
    obtain ⟨x0, F0, a0, l0, d0, e0, s0⟩ := opensTokenS g0
    simp [Flat.enc] at e0
    subst e0
    exact ⟨⟨x0⟩, _, _, _, _, _, rfl, s0, rfl⟩
theorem ownFnExactLetterCount : ownKnob Try.prog.godebug = none := by kernel_rfl
theorem laidOutFnExactLetterCount : laidOutB Try.prog = true := by kernel_rfl
set_option maxRecDepth 100000 in
theorem liftedFnExactLetterCount (os : Os) (started : os.Started) (H : Type) (enc : TypeId × Value → H) :
    ReturnsInHanded {} Try.checked os 8 .any (Rows.fnExactLetterCountSpec.pre6 enc Try.prog Try.f8 Rows.fnExactLetterCountRow.domain false) (Rows.fnExactLetterCountSpec.post enc Try.prog Try.f8 false true false false) := by
  refine returnsInHanded_of_change (C := Try.checked) ownFnExactLetterCount started (by kernel_rfl) Try.func8
    (ChangeSpec.witness6 (enc := enc) (C := Try.checked) false ⟨#[], #[.agg #[.slice none 0 0]], []⟩ 8 (by kernel_rfl) (by kernel_rfl) (by kernel_rfl) (by kernel_rfl)) ?_
  intro W base args ds gs before hval0 hW hcnd _
  have hval : ∀ (j : Nat) t v, Try.f8.params[j]? = some t → args[j]? = some v → Value.okWide Try.prog W .any base t v := hval0
  have hW' := hW
  obtain ⟨p, q, hA0, hV, rfl, hfz, hnd⟩ := hW
  have hA : DataW.TrodAll enc Try.prog W 0 (fun _ => true) true Try.f8.params.toList args.toList ds p := hA0
  rw [Try.params8] at hA hval
  obtain ⟨v0, vs0, d0, ds0, p0, q0, hargs, rfl, rfl, h0, r0⟩ := trodAll_cons hA
  obtain ⟨rfl, rfl, rfl⟩ := trodAll_nil r0
  obtain rfl : args = #[v0] := by cases args; simp_all
  obtain ⟨rfl, rfl⟩ := trodVars_none hV
  obtain ⟨cs0, rfl, _⟩ := okWide_struct Try.underlying44 (hval 0 44 v0 rfl rfl)
  have k0 := h0
  have lt0 : ∀ x ∈ p0, x.block < W.heap.size := by obtain ⟨m, hm⟩ := k0; exact DataW.trod_lt m _ _ _ hm
  obtain ⟨x0, F0, g0a0, g0l0, g0c0, g0F0, he0, hs0_0, _⟩ := Opens.vl opensExpr h0
  obtain rfl : cs0 = #[.slice g0a0 g0l0 g0c0] := Array.ext' (by simpa [Value.cells, Flat.enc] using he0)
  clear hA0 hval0
  refine (lawFnExactLetterCount x0 W hs0_0).mono fun e W' ⟨he, bel⟩ => ?_
  subst he
  exact ⟨_, rfl, _, _, _, [], _, [], hW', trodAll_mk1 (shut_bool Try.underlying4 _), (trodAll_cons_mk (Below.trod laidOutFnExactLetterCount (by kernel_rfl) (of_decide_eq_true (by kernel_rfl)) k0 bel lt0) trodAll_mk0), rfl, Below.frame bel _, fun h => by cases h⟩
/-- The statement. -/
theorem provedFnExactLetterCount : Rows.FnExactLetterCountSaid :=
  OpenClaim.holds_of_wide 8 Try.f8 rfl rfl rfl rfl rfl rfl rfl ⟨rfl, rfl, rfl, rfl, rfl⟩ rfl rfl rfl rfl rfl (by kernel_rfl) Try.func8 (by kernel_rfl)
    (of_decide_eq_true (by kernel_rfl)) (by unfold Func.isWrapper; first | (rw [if_pos (by decide +kernel)]; kernel_rfl) | (rw [if_neg (by decide +kernel)]; exact ⟨rfl, rfl⟩))
    (fun os started H enc _ => liftedFnExactLetterCount os started H enc)
#print axioms provedFnExactLetterCount
end LFnExactLetterCount
end Go.Proofs.Ytindeldjbofanaa
