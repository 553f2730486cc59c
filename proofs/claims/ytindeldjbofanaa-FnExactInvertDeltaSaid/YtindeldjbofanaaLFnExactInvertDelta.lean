/- FnExactInvertDelta: the law returns true for every input, and its arguments read as they did. No condition. -/
import Derived.Test.YtindeldjbofanaaS28b
import Derived.Test.YtindeldjbofanaaOpen
namespace Go.Proofs.Ytindeldjbofanaa
open Go.RowKit Go.Q Go.Q.Rd Go.ChangeShapes Go.WideShapes Go.ChangeAt
open Go.ChangeMaps (open_string shut_string)
set_option maxHeartbeats 4000000 in
set_option maxRecDepth 10000 in
theorem lawFnExactInvertDelta (aD : TDelta) (w : World) {p0a0 : Option Addr} {p0l0 p0c0 : Nat} {p0F0 : List Nat} (p0h0 : Sl w p0a0 p0l0 p0c0 aD.Added p0F0) {p0a1 : Option Addr} {p0l1 p0c1 : Nat} {p0F1 : List Nat} (p0h1 : Sl w p0a1 p0l1 p0c1 aD.Removed p0F1) :
    Calls Try.prog 6 #[.agg #[.slice p0a0 p0l0 p0c0, .slice p0a1 p0l1 p0c1]] w fun e w' => e = .returned (.bool true) ∧ Ext w w' := by
  have hx := Ext.refl w
  have p0i0 := inRange p0h0
  have p0i1 := inRange p0h1
  go_enter Try.func6, Try.ntmps6
  go_wp2_with fail
  obtain ⟨w1, hu, hx1, B0⟩ := boxes1 w #[.slice p0a0 p0l0 p0c0, .slice p0a1 p0l1 p0c1] 30
  rw [← hu]
  clear hu
  have lB0 := B0.lt
  replace p0h0 := p0h0.mono hx1
  replace p0h1 := p0h1.mono hx1
  have S1 := hx1.size
  replace hx := hx.trans hx1
  clear hx1
  refine (szDelta w1 p0h0 p0h1 _ (by omega) (by omega)).mono ?_
  rintro e w2 ⟨rfl, hx1⟩
  replace p0h0 := p0h0.mono hx1
  replace p0h1 := p0h1.mono hx1
  replace B0 := B0.mono hx1
  have S2 := hx1.size
  replace hx := hx.trans hx1
  clear hx1
  by_cases q0 : 1048576 - (sizDelta aD : Int) < 0
  case pos =>
    rw [szr_neg q0]
    go_wp2
    go_ret
    exact ⟨rfl, hx⟩
  rw [szr_pos q0]
  have ZaD := hid (show sizDelta aD ≤ 1048576 by omega)
  have b0_0 := B0.at 0 rfl
  have b0_1 := B0.at 1 rfl
  go_wp2_with fail
  clear b0_0 b0_1
  refine (toDelta w2 p0h0 p0h1 ZaD.out).mono ?_
  rintro e w3 ⟨v, rfl, hN, hx1⟩
  obtain ⟨r1_F, hv, r1_R, r1_N⟩ := hN.pc
  clear hN
  obtain ⟨r1_a0, r1_l0, r1_c0, r1_F0, r1_a1, r1_l1, r1_c1, r1_F1, rfl, r1_h0, r1_h1, eF⟩ := hv.ofTDelta
  clear hv
  subst eF
  have r1_i0 : ∀ b ∈ r1_F0, _ := fun b hb => inOf r1_R b (by simp [hb])
  have r1_i1 : ∀ b ∈ r1_F1, _ := fun b hb => inOf r1_R b (by simp [hb])
  clear r1_R r1_N
  replace p0h0 := p0h0.mono hx1
  replace p0h1 := p0h1.mono hx1
  replace B0 := B0.mono hx1
  have S3 := hx1.size
  replace hx := hx.trans hx1
  clear hx1
  have b0_0 := B0.at 0 rfl
  have b0_1 := B0.at 1 rfl
  go_wp2_with fail
  clear b0_0 b0_1
  refine (specInvertDelta aD w3 r1_h0 r1_h1  ZaD.out).mono ?_
  rintro e w4 ⟨v, rfl, hN, hx1⟩
  obtain ⟨r2_F, hv, r2_R, r2_N⟩ := hN.pc
  clear hN
  obtain ⟨r2_a0, r2_l0, r2_c0, r2_F0, r2_a1, r2_l1, r2_c1, r2_F1, rfl, r2_h0, r2_h1, eF⟩ := hv.ofTDelta
  clear hv
  subst eF
  have r2_i0 : ∀ b ∈ r2_F0, _ := fun b hb => inOf r2_R b (by simp [hb])
  have r2_i1 : ∀ b ∈ r2_F1, _ := fun b hb => inOf r2_R b (by simp [hb])
  clear r2_R r2_N
  clear r1_h0 r1_h1
  replace p0h0 := p0h0.mono hx1
  replace p0h1 := p0h1.mono hx1
  replace B0 := B0.mono hx1
  have S4 := hx1.size
  replace hx := hx.trans hx1
  clear hx1
  have b0_0 := B0.at 0 rfl
  have b0_0p := (B0.alloc (.cells #[.slice r2_a0 r2_l0 r2_c0, .slice r2_a1 r2_l1 r2_c1] 35)).at 0 rfl
  have b0_1 := B0.at 1 rfl
  have b0_1p := (B0.alloc (.cells #[.slice r2_a0 r2_l0 r2_c0, .slice r2_a1 r2_l1 r2_c1] 35)).at 1 rfl
  go_wp2_with fail
  clear b0_0 b0_0p b0_1 b0_1p
  obtain ⟨w5, hu, hx1, B1⟩ := boxes1 w4 #[.slice r2_a0 r2_l0 r2_c0, .slice r2_a1 r2_l1 r2_c1] 35
  rw [← hu]
  clear hu
  have lB1 := B1.lt
  replace p0h0 := p0h0.mono hx1
  replace p0h1 := p0h1.mono hx1
  replace B0 := B0.mono hx1
  replace r2_h0 := r2_h0.mono hx1
  replace r2_h1 := r2_h1.mono hx1
  have S5 := hx1.size
  replace hx := hx.trans hx1
  clear hx1
  refine (toDelta w5 p0h0 p0h1 ZaD.out).mono ?_
  rintro e w6 ⟨v, rfl, hN, hx1⟩
  obtain ⟨r3_F, hv, r3_R, r3_N⟩ := hN.pc
  clear hN
  obtain ⟨r3_a0, r3_l0, r3_c0, r3_F0, r3_a1, r3_l1, r3_c1, r3_F1, rfl, r3_h0, r3_h1, eF⟩ := hv.ofTDelta
  clear hv
  subst eF
  have r3_Q := inOf r3_R
  have r3_i0 : ∀ b ∈ r3_F0, _ := fun b hb => inOf r3_R b (by simp [hb])
  have r3_i1 : ∀ b ∈ r3_F1, _ := fun b hb => inOf r3_R b (by simp [hb])
  have r3_t0 : ∀ b ∈ r3_F0, _ := fun b hb => thOf r3_R b (by simp [hb])
  have r3_t1 : ∀ b ∈ r3_F1, _ := fun b hb => thOf r3_R b (by simp [hb])
  have r3_X1 := ndSplit r3_N
  have r3_n1 := r3_X1.2.1
  have r3_d0_1 : ∀ b ∈ r3_F0, b ∉ r3_F1 := fun b hb => r3_X1.2.2 b (by simp [hb])
  have r3_n0 := r3_X1.1
  clear r3_R r3_X1
  replace p0h0 := p0h0.mono hx1
  replace p0h1 := p0h1.mono hx1
  replace B0 := B0.mono hx1
  replace r2_h0 := r2_h0.mono hx1
  replace r2_h1 := r2_h1.mono hx1
  replace B1 := B1.mono hx1
  have S6 := hx1.size
  replace hx := hx.trans hx1
  clear hx1
  have b0_0 := B0.at 0 rfl
  have b0_0p := (B0.alloc (.cells #[.slice r3_a0 r3_l0 r3_c0, .slice r3_a1 r3_l1 r3_c1] 35)).at 0 rfl
  have b0_1 := B0.at 1 rfl
  have b0_1p := (B0.alloc (.cells #[.slice r3_a0 r3_l0 r3_c0, .slice r3_a1 r3_l1 r3_c1] 35)).at 1 rfl
  have b1_0 := B1.at 0 rfl
  have b1_0p := (B1.alloc (.cells #[.slice r3_a0 r3_l0 r3_c0, .slice r3_a1 r3_l1 r3_c1] 35)).at 0 rfl
  have b1_1 := B1.at 1 rfl
  have b1_1p := (B1.alloc (.cells #[.slice r3_a0 r3_l0 r3_c0, .slice r3_a1 r3_l1 r3_c1] 35)).at 1 rfl
  go_wp2_with fail
  clear b0_0 b0_0p b0_1 b0_1p b1_0 b1_0p b1_1 b1_1p
  obtain ⟨w7, hu, hx1, B2⟩ := boxes1 w6 #[.slice r3_a0 r3_l0 r3_c0, .slice r3_a1 r3_l1 r3_c1] 35
  rw [← hu]
  clear hu
  have lB2 := B2.lt
  replace p0h0 := p0h0.mono hx1
  replace p0h1 := p0h1.mono hx1
  replace B0 := B0.mono hx1
  replace r2_h0 := r2_h0.mono hx1
  replace r2_h1 := r2_h1.mono hx1
  replace B1 := B1.mono hx1
  replace r3_h0 := r3_h0.mono hx1
  replace r3_h1 := r3_h1.mono hx1
  replace r3_t0 := fun b hb => (r3_t0 b hb).ext hx1
  replace r3_t1 := fun b hb => (r3_t1 b hb).ext hx1
  have S7 := hx1.size
  replace hx := hx.trans hx1
  clear hx1
  refine (implInvertDelta aD w7 r3_h0 r3_h1  ZaD.out).mono ?_
  rintro e w8 ⟨v, rfl, hN, hx1⟩
  obtain ⟨r4_F, hv, r4_R, r4_N⟩ := hN.pc
  clear hN
  obtain ⟨r4_a0, r4_l0, r4_c0, r4_F0, r4_a1, r4_l1, r4_c1, r4_F1, rfl, r4_h0, r4_h1, eF⟩ := hv.ofTDelta
  clear hv
  subst eF
  have r4_Q := inOf r4_R
  have r4_i0 : ∀ b ∈ r4_F0, _ := fun b hb => inOf r4_R b (by simp [hb])
  have r4_i1 : ∀ b ∈ r4_F1, _ := fun b hb => inOf r4_R b (by simp [hb])
  have r4_t0 : ∀ b ∈ r4_F0, _ := fun b hb => thOf r4_R b (by simp [hb])
  have r4_t1 : ∀ b ∈ r4_F1, _ := fun b hb => thOf r4_R b (by simp [hb])
  have r4_X1 := ndSplit r4_N
  have r4_n1 := r4_X1.2.1
  have r4_d0_1 : ∀ b ∈ r4_F0, b ∉ r4_F1 := fun b hb => r4_X1.2.2 b (by simp [hb])
  have r4_n0 := r4_X1.1
  clear r4_R r4_X1
  replace p0h0 := p0h0.mono hx1
  replace p0h1 := p0h1.mono hx1
  replace B0 := B0.mono hx1
  replace r2_h0 := r2_h0.mono hx1
  replace r2_h1 := r2_h1.mono hx1
  replace B1 := B1.mono hx1
  replace r3_h0 := r3_h0.mono hx1
  replace r3_h1 := r3_h1.mono hx1
  replace B2 := B2.mono hx1
  replace r3_t0 := fun b hb => (r3_t0 b hb).ext hx1
  replace r3_t1 := fun b hb => (r3_t1 b hb).ext hx1
  have S8 := hx1.size
  replace hx := hx.trans hx1
  clear hx1
  have b0_0 := B0.at 0 rfl
  have b0_0p := (B0.alloc (.cells #[.slice r4_a0 r4_l0 r4_c0, .slice r4_a1 r4_l1 r4_c1] 35)).at 0 rfl
  have b0_1 := B0.at 1 rfl
  have b0_1p := (B0.alloc (.cells #[.slice r4_a0 r4_l0 r4_c0, .slice r4_a1 r4_l1 r4_c1] 35)).at 1 rfl
  have b1_0 := B1.at 0 rfl
  have b1_0p := (B1.alloc (.cells #[.slice r4_a0 r4_l0 r4_c0, .slice r4_a1 r4_l1 r4_c1] 35)).at 0 rfl
  have b1_1 := B1.at 1 rfl
  have b1_1p := (B1.alloc (.cells #[.slice r4_a0 r4_l0 r4_c0, .slice r4_a1 r4_l1 r4_c1] 35)).at 1 rfl
  have b2_0 := B2.at 0 rfl
  have b2_0p := (B2.alloc (.cells #[.slice r4_a0 r4_l0 r4_c0, .slice r4_a1 r4_l1 r4_c1] 35)).at 0 rfl
  have b2_1 := B2.at 1 rfl
  have b2_1p := (B2.alloc (.cells #[.slice r4_a0 r4_l0 r4_c0, .slice r4_a1 r4_l1 r4_c1] 35)).at 1 rfl
  go_wp2_with fail
  clear b0_0 b0_0p b0_1 b0_1p b1_0 b1_0p b1_1 b1_1p b2_0 b2_0p b2_1 b2_1p
  obtain ⟨w9, hu, hx1, B3⟩ := boxes1 w8 #[.slice r4_a0 r4_l0 r4_c0, .slice r4_a1 r4_l1 r4_c1] 35
  rw [← hu]
  clear hu
  have lB3 := B3.lt
  replace p0h0 := p0h0.mono hx1
  replace p0h1 := p0h1.mono hx1
  replace B0 := B0.mono hx1
  replace r2_h0 := r2_h0.mono hx1
  replace r2_h1 := r2_h1.mono hx1
  replace B1 := B1.mono hx1
  replace r3_h0 := r3_h0.mono hx1
  replace r3_h1 := r3_h1.mono hx1
  replace B2 := B2.mono hx1
  replace r4_h0 := r4_h0.mono hx1
  replace r4_h1 := r4_h1.mono hx1
  replace r3_t0 := fun b hb => (r3_t0 b hb).ext hx1
  replace r3_t1 := fun b hb => (r3_t1 b hb).ext hx1
  replace r4_t0 := fun b hb => (r4_t0 b hb).ext hx1
  replace r4_t1 := fun b hb => (r4_t1 b hb).ext hx1
  have S9 := hx1.size
  replace hx := hx.trans hx1
  clear hx1
  refine (eqDelta (invDelta aD) (invDelta aD) w9 r4_h0 r4_h1 r2_h0 r2_h1).mono ?_
  rintro e w10 ⟨he, hx1⟩
  obtain rfl : e = .returned (.bool true) := he.trans (ret_bool (by simp))
  replace p0h0 := p0h0.mono hx1
  replace p0h1 := p0h1.mono hx1
  replace B0 := B0.mono hx1
  replace r2_h0 := r2_h0.mono hx1
  replace r2_h1 := r2_h1.mono hx1
  replace B1 := B1.mono hx1
  replace r3_h0 := r3_h0.mono hx1
  replace r3_h1 := r3_h1.mono hx1
  replace B2 := B2.mono hx1
  replace r4_h0 := r4_h0.mono hx1
  replace r4_h1 := r4_h1.mono hx1
  replace B3 := B3.mono hx1
  replace r3_t0 := fun b hb => (r3_t0 b hb).ext hx1
  replace r3_t1 := fun b hb => (r3_t1 b hb).ext hx1
  replace r4_t0 := fun b hb => (r4_t0 b hb).ext hx1
  replace r4_t1 := fun b hb => (r4_t1 b hb).ext hx1
  have S10 := hx1.size
  replace hx := hx.trans hx1
  clear hx1
  have b0_0 := B0.at 0 rfl
  have b0_1 := B0.at 1 rfl
  have b1_0 := B1.at 0 rfl
  have b1_1 := B1.at 1 rfl
  have b2_0 := B2.at 0 rfl
  have b2_1 := B2.at 1 rfl
  have b3_0 := B3.at 0 rfl
  have b3_1 := B3.at 1 rfl
  go_wp2_with fail
  clear b0_0 b0_1 b1_0 b1_1 b2_0 b2_1 b3_0 b3_1
  refine wp_region_plan 5 [MP.is (.agg #[.slice r3_a0 r3_l0 r3_c0, .slice r3_a1 r3_l1 r3_c1]), MP.is (.agg #[.slice p0a0 p0l0 p0c0, .slice p0a1 p0l1 p0c1]), MP.vl aD, MP.is (.bool true), MP.is (.bool false)] (by kernel_rfl) (by kernel_rfl) (by kernel_rfl) ?_ ?_
  · refine ⟨?_, ?_, ?_, ?_, ?_, trivial⟩
    · intro vs w3 hx3 hd K hK
      simp [deps, fillD, dstAt, Region.binds, Act.put] at hd hK ⊢
      have c0 := (B2.mono hx3).at 0 rfl
      have c1 := (B2.mono hx3).at 1 rfl
      go_wp2_with fail
      exact hK _ _ (Ext.refl _) rfl
    · intro vs w3 hx3 hd K hK
      simp [deps, fillD, dstAt, Region.binds, Act.put] at hd hK ⊢
      have c0 := (B0.mono hx3).at 0 rfl
      have c1 := (B0.mono hx3).at 1 rfl
      go_wp2_with fail
      exact hK _ _ (Ext.refl _) rfl
    · intro vs w3 hx3 hd K hK
      simp [deps, fillD, dstAt, Region.binds, Act.put] at hd hK ⊢
      have e1 : vs 1 = .agg #[.slice p0a0 p0l0 p0c0, .slice p0a1 p0l1 p0c1] := by first | exact hd | exact hd.1 | exact hd.2 | exact hd.1.1 | exact hd.2.1 | exact hd.2.2 | exact hd.2.2.1 | exact hd.2.2.2 | exact hd.2.2.2.1 | exact hd.2.2.2.2
      simp only [e1] at hK ⊢
      go_wp2_with fail
      refine (toDelta w3 (p0h0.mono hx3) (p0h1.mono hx3) ZaD.out).mono ?_
      rintro e w4 ⟨v, rfl, hN, hx4⟩
      go_wp2_with fail
      exact hK _ _ hx4 hN.vl
    · intro vs w3 hx3 hd K hK
      simp [deps, fillD, dstAt, Region.binds, Act.put] at hd hK ⊢
      have e0 : vs 0 = .agg #[.slice r3_a0 r3_l0 r3_c0, .slice r3_a1 r3_l1 r3_c1] := by first | exact hd | exact hd.1 | exact hd.2 | exact hd.1.1 | exact hd.2.1 | exact hd.2.2 | exact hd.2.2.1 | exact hd.2.2.2 | exact hd.2.2.2.1 | exact hd.2.2.2.2
      obtain ⟨v2_F, v2_v⟩ : ∃ F, Vl w3 (vs 2) aD F := by first | exact hd | exact hd.1 | exact hd.2 | exact hd.1.1 | exact hd.2.1 | exact hd.2.2 | exact hd.2.2.1 | exact hd.2.2.2 | exact hd.2.2.2.1 | exact hd.2.2.2.2
      obtain ⟨v2_a0, v2_l0, v2_c0, v2_F0, v2_a1, v2_l1, v2_c1, v2_F1, e2, v2_h0, v2_h1, -⟩ := v2_v.ofTDelta
      simp only [e0, e2] at hK ⊢
      go_wp2_with fail
      refine (eqDelta aD aD w3 (r3_h0.mono hx3) (r3_h1.mono hx3) v2_h0 v2_h1).mono ?_
      rintro e w4 ⟨he, hx4⟩
      obtain rfl : e = .returned (.bool true) := he.trans (ret_bool (by simp))
      go_wp2_with fail
      exact hK _ _ hx4 rfl
    · intro vs w3 hx3 hd K hK
      simp [deps, fillD, dstAt, Region.binds, Act.put] at hd hK ⊢
      have e3 : vs 3 = .bool true := by first | exact hd | exact hd.1 | exact hd.2 | exact hd.1.1 | exact hd.2.1 | exact hd.2.2 | exact hd.2.2.1 | exact hd.2.2.2 | exact hd.2.2.2.1 | exact hd.2.2.2.2 | exact hd.2.2.2.2.1 | exact hd.2.2.2.2.2
      simp only [e3] at hK ⊢
      go_wp2_with fail
      exact hK _ _ (Ext.refl _) rfl
  intro vs w11 hx1 hd
  have e0 : vs 0 = .agg #[.slice r3_a0 r3_l0 r3_c0, .slice r3_a1 r3_l1 r3_c1] := hd 0 (by omega)
  have e1 : vs 1 = .agg #[.slice p0a0 p0l0 p0c0, .slice p0a1 p0l1 p0c1] := hd 1 (by omega)
  have e3 : vs 3 = .bool true := hd 3 (by omega)
  have e4 : vs 4 = .bool false := hd 4 (by omega)
  simp [fillD, dstAt, Act.put, List.range_succ]
  simp only [e0, e1, e3, e4]
  clear e0 e1 e3 e4 hd
  replace p0h0 := p0h0.mono hx1
  replace p0h1 := p0h1.mono hx1
  replace B0 := B0.mono hx1
  replace r2_h0 := r2_h0.mono hx1
  replace r2_h1 := r2_h1.mono hx1
  replace B1 := B1.mono hx1
  replace r3_h0 := r3_h0.mono hx1
  replace r3_h1 := r3_h1.mono hx1
  replace B2 := B2.mono hx1
  replace r4_h0 := r4_h0.mono hx1
  replace r4_h1 := r4_h1.mono hx1
  replace B3 := B3.mono hx1
  replace r3_t0 := fun b hb => (r3_t0 b hb).ext hx1
  replace r3_t1 := fun b hb => (r3_t1 b hb).ext hx1
  replace r4_t0 := fun b hb => (r4_t0 b hb).ext hx1
  replace r4_t1 := fun b hb => (r4_t1 b hb).ext hx1
  have S11 := hx1.size
  replace hx := hx.trans hx1
  clear hx1
  have b0_0 := B0.at 0 rfl
  have b0_1 := B0.at 1 rfl
  have b1_0 := B1.at 0 rfl
  have b1_1 := B1.at 1 rfl
  have b2_0 := B2.at 0 rfl
  have b2_1 := B2.at 1 rfl
  have b3_0 := B3.at 0 rfl
  have b3_1 := B3.at 1 rfl
  go_wp2_with fail
  clear b0_0 b0_1 b1_0 b1_1 b2_0 b2_1 b3_0 b3_1
  have kb := Nat.le_trans (cntDelta_le aD) (Nat.mul_le_mul_left 5 ZaD.out)
  refine (markDelta w11 r3_h0 r3_h1 r3_n0 r3_t0 r3_n1 r3_t1 r3_d0_1 (1) (by omega) (by omega)).mono ?_
  rintro e w12 ⟨rfl, s16_0, s16_1, ho⟩
  obtain ⟨m16, hm16⟩ : ∃ m : Int, (mkDelta aD (1)).2 = m := ⟨_, rfl⟩
  have lm16 : 0 ≤ m16 ∧ m16 ≤ 1 + 6000000 := by rw [← hm16, mkDelta_snd]; omega
  have gm16 : decide (m16 < 0) = false := decide_eq_false (by omega)
  rw [hm16]
  clear kb
  clear B2 r3_h0 r3_h1 r3_t0 r3_t1
  replace p0h0 := p0h0.only ho (apartL p0i0 r3_Q (by omega))
  replace p0h1 := p0h1.only ho (apartL p0i1 r3_Q (by omega))
  replace r2_h0 := r2_h0.only ho (apartL r2_i0 r3_Q (by omega))
  replace r2_h1 := r2_h1.only ho (apartL r2_i1 r3_Q (by omega))
  replace r4_t0 := fun b hb => (r4_t0 b hb).only ho (r4_h0.lt b hb) (apartL r4_i0 r3_Q (by omega) b hb)
  replace r4_h0 := r4_h0.only ho (apartL r4_i0 r3_Q (by omega))
  replace r4_t1 := fun b hb => (r4_t1 b hb).only ho (r4_h1.lt b hb) (apartL r4_i1 r3_Q (by omega) b hb)
  replace r4_h1 := r4_h1.only ho (apartL r4_i1 r3_Q (by omega))
  replace B0 := B0.only ho (fun hm => by have := r3_Q _ hm; omega)
  replace B1 := B1.only ho (fun hm => by have := r3_Q _ hm; omega)
  replace B3 := B3.only ho (fun hm => by have := r3_Q _ hm; omega)
  clear s16_0 s16_1
  have S12 := ho.size
  replace hx := ho.below hx (fun b hb => by have := r3_Q b hb; omega)
  clear ho
  have b0_0 := B0.at 0 rfl
  have b0_1 := B0.at 1 rfl
  have b1_0 := B1.at 0 rfl
  have b1_1 := B1.at 1 rfl
  have b3_0 := B3.at 0 rfl
  have b3_1 := B3.at 1 rfl
  go_wp2_with fail
  clear b0_0 b0_1 b1_0 b1_1 b3_0 b3_1
  refine (eqDelta (invDelta aD) (invDelta aD) w12 r4_h0 r4_h1 r2_h0 r2_h1).mono ?_
  rintro e w13 ⟨he, hx1⟩
  obtain rfl : e = .returned (.bool true) := he.trans (ret_bool (by simp))
  replace p0h0 := p0h0.mono hx1
  replace p0h1 := p0h1.mono hx1
  replace B0 := B0.mono hx1
  replace r2_h0 := r2_h0.mono hx1
  replace r2_h1 := r2_h1.mono hx1
  replace B1 := B1.mono hx1
  replace r4_h0 := r4_h0.mono hx1
  replace r4_h1 := r4_h1.mono hx1
  replace B3 := B3.mono hx1
  replace r4_t0 := fun b hb => (r4_t0 b hb).ext hx1
  replace r4_t1 := fun b hb => (r4_t1 b hb).ext hx1
  have S13 := hx1.size
  replace hx := hx.trans hx1
  clear hx1
  have b0_0 := B0.at 0 rfl
  have b0_1 := B0.at 1 rfl
  have b1_0 := B1.at 0 rfl
  have b1_1 := B1.at 1 rfl
  have b3_0 := B3.at 0 rfl
  have b3_1 := B3.at 1 rfl
  go_wp2_with fail
  clear b0_0 b0_1 b1_0 b1_1 b3_0 b3_1
  have kb := Nat.le_trans (cntDelta_le (invDelta aD)) (Nat.mul_le_mul_left 5 (bndInvertDelta aD ZaD.out))
  refine (markDelta w13 r4_h0 r4_h1 r4_n0 r4_t0 r4_n1 r4_t1 r4_d0_1 (1) (by omega) (by omega)).mono ?_
  rintro e w14 ⟨rfl, s18_0, s18_1, ho⟩
  obtain ⟨m18, hm18⟩ : ∃ m : Int, (mkDelta (invDelta aD) (1)).2 = m := ⟨_, rfl⟩
  have lm18 : 0 ≤ m18 ∧ m18 ≤ 1 + 6000000 := by rw [← hm18, mkDelta_snd]; omega
  have gm18 : decide (m18 < 0) = false := decide_eq_false (by omega)
  rw [hm18]
  clear kb
  replace p0h0 := p0h0.only ho (apartL p0i0 r4_Q (by omega))
  replace p0h1 := p0h1.only ho (apartL p0i1 r4_Q (by omega))
  replace r2_h0 := r2_h0.only ho (apartL r2_i0 r4_Q (by omega))
  replace r2_h1 := r2_h1.only ho (apartL r2_i1 r4_Q (by omega))
  replace B0 := B0.only ho (fun hm => by have := r4_Q _ hm; omega)
  replace B1 := B1.only ho (fun hm => by have := r4_Q _ hm; omega)
  replace B3 := B3.only ho (fun hm => by have := r4_Q _ hm; omega)
  have r4_h0 := s18_0
  clear s18_0
  have r4_h1 := s18_1
  clear s18_1
  replace r4_t0 := fun b hb => ho.thaw b (by simp [hb]) (r4_t0 b hb)
  replace r4_t1 := fun b hb => ho.thaw b (by simp [hb]) (r4_t1 b hb)
  have S14 := ho.size
  replace hx := ho.below hx (fun b hb => by have := r4_Q b hb; omega)
  clear ho
  have b0_0 := B0.at 0 rfl
  have b0_1 := B0.at 1 rfl
  have b1_0 := B1.at 0 rfl
  have b1_1 := B1.at 1 rfl
  have b3_0 := B3.at 0 rfl
  have b3_1 := B3.at 1 rfl
  go_wp2_with fail
  clear b0_0 b0_1 b1_0 b1_1 b3_0 b3_1
  refine (heldDelta w14 (1) r4_h0 r4_h1 (by omega) (by have h := hm18; rw [mkDelta_snd] at h; omega)).mono ?_
  rintro e w15 ⟨rfl, hx1⟩
  rw [hm18]
  replace p0h0 := p0h0.mono hx1
  replace p0h1 := p0h1.mono hx1
  replace B0 := B0.mono hx1
  replace r2_h0 := r2_h0.mono hx1
  replace r2_h1 := r2_h1.mono hx1
  replace B1 := B1.mono hx1
  replace r4_h0 := r4_h0.mono hx1
  replace r4_h1 := r4_h1.mono hx1
  replace B3 := B3.mono hx1
  replace r4_t0 := fun b hb => (r4_t0 b hb).ext hx1
  replace r4_t1 := fun b hb => (r4_t1 b hb).ext hx1
  have S15 := hx1.size
  replace hx := hx.trans hx1
  clear hx1
  have b0_0 := B0.at 0 rfl
  have b0_1 := B0.at 1 rfl
  have b1_0 := B1.at 0 rfl
  have b1_1 := B1.at 1 rfl
  have b3_0 := B3.at 0 rfl
  have b3_1 := B3.at 1 rfl
  go_wp2_with fail
  clear b0_0 b0_1 b1_0 b1_1 b3_0 b3_1
  refine (toDelta w15 p0h0 p0h1 ZaD.out).mono ?_
  rintro e w16 ⟨v, rfl, hN, hx1⟩
  obtain ⟨r20_F, hv, r20_R, r20_N⟩ := hN.pc
  clear hN
  obtain ⟨r20_a0, r20_l0, r20_c0, r20_F0, r20_a1, r20_l1, r20_c1, r20_F1, rfl, r20_h0, r20_h1, eF⟩ := hv.ofTDelta
  clear hv
  subst eF
  have r20_i0 : ∀ b ∈ r20_F0, _ := fun b hb => inOf r20_R b (by simp [hb])
  have r20_i1 : ∀ b ∈ r20_F1, _ := fun b hb => inOf r20_R b (by simp [hb])
  clear r20_R r20_N
  clear B0 p0h0 p0h1
  replace r2_h0 := r2_h0.mono hx1
  replace r2_h1 := r2_h1.mono hx1
  replace B1 := B1.mono hx1
  replace r4_h0 := r4_h0.mono hx1
  replace r4_h1 := r4_h1.mono hx1
  replace B3 := B3.mono hx1
  replace r4_t0 := fun b hb => (r4_t0 b hb).ext hx1
  replace r4_t1 := fun b hb => (r4_t1 b hb).ext hx1
  have S16 := hx1.size
  replace hx := hx.trans hx1
  clear hx1
  have b1_0 := B1.at 0 rfl
  have b1_1 := B1.at 1 rfl
  have b3_0 := B3.at 0 rfl
  have b3_1 := B3.at 1 rfl
  go_wp2_with fail
  clear b1_0 b1_1 b3_0 b3_1
  refine (implInvertDelta aD w16 r20_h0 r20_h1  ZaD.out).mono ?_
  rintro e w17 ⟨v, rfl, hN, hx1⟩
  obtain ⟨r21_F, hv, r21_R, r21_N⟩ := hN.pc
  clear hN
  obtain ⟨r21_a0, r21_l0, r21_c0, r21_F0, r21_a1, r21_l1, r21_c1, r21_F1, rfl, r21_h0, r21_h1, eF⟩ := hv.ofTDelta
  clear hv
  subst eF
  have r21_i0 : ∀ b ∈ r21_F0, _ := fun b hb => inOf r21_R b (by simp [hb])
  have r21_i1 : ∀ b ∈ r21_F1, _ := fun b hb => inOf r21_R b (by simp [hb])
  clear r21_R r21_N
  clear r20_h0 r20_h1
  replace r2_h0 := r2_h0.mono hx1
  replace r2_h1 := r2_h1.mono hx1
  replace B1 := B1.mono hx1
  replace r4_h0 := r4_h0.mono hx1
  replace r4_h1 := r4_h1.mono hx1
  replace B3 := B3.mono hx1
  replace r4_t0 := fun b hb => (r4_t0 b hb).ext hx1
  replace r4_t1 := fun b hb => (r4_t1 b hb).ext hx1
  have S17 := hx1.size
  replace hx := hx.trans hx1
  clear hx1
  have b1_0 := B1.at 0 rfl
  have b1_0p := (B1.alloc (.cells #[.slice r21_a0 r21_l0 r21_c0, .slice r21_a1 r21_l1 r21_c1] 35)).at 0 rfl
  have b1_1 := B1.at 1 rfl
  have b1_1p := (B1.alloc (.cells #[.slice r21_a0 r21_l0 r21_c0, .slice r21_a1 r21_l1 r21_c1] 35)).at 1 rfl
  have b3_0 := B3.at 0 rfl
  have b3_0p := (B3.alloc (.cells #[.slice r21_a0 r21_l0 r21_c0, .slice r21_a1 r21_l1 r21_c1] 35)).at 0 rfl
  have b3_1 := B3.at 1 rfl
  have b3_1p := (B3.alloc (.cells #[.slice r21_a0 r21_l0 r21_c0, .slice r21_a1 r21_l1 r21_c1] 35)).at 1 rfl
  go_wp2_with fail
  clear b1_0 b1_0p b1_1 b1_1p b3_0 b3_0p b3_1 b3_1p
  obtain ⟨w18, hu, hx1, B4⟩ := boxes1 w17 #[.slice r21_a0 r21_l0 r21_c0, .slice r21_a1 r21_l1 r21_c1] 35
  rw [← hu]
  clear hu
  have lB4 := B4.lt
  clear B1
  replace r2_h0 := r2_h0.mono hx1
  replace r2_h1 := r2_h1.mono hx1
  replace r4_h0 := r4_h0.mono hx1
  replace r4_h1 := r4_h1.mono hx1
  replace B3 := B3.mono hx1
  replace r21_h0 := r21_h0.mono hx1
  replace r21_h1 := r21_h1.mono hx1
  replace r4_t0 := fun b hb => (r4_t0 b hb).ext hx1
  replace r4_t1 := fun b hb => (r4_t1 b hb).ext hx1
  have S18 := hx1.size
  replace hx := hx.trans hx1
  clear hx1
  refine (eqDelta (invDelta aD) (invDelta aD) w18 r21_h0 r21_h1 r2_h0 r2_h1).mono ?_
  rintro e w19 ⟨he, hx1⟩
  obtain rfl : e = .returned (.bool true) := he.trans (ret_bool (by simp))
  clear B4 r2_h0 r2_h1 r21_h0 r21_h1
  replace r4_h0 := r4_h0.mono hx1
  replace r4_h1 := r4_h1.mono hx1
  replace B3 := B3.mono hx1
  replace r4_t0 := fun b hb => (r4_t0 b hb).ext hx1
  replace r4_t1 := fun b hb => (r4_t1 b hb).ext hx1
  have S19 := hx1.size
  replace hx := hx.trans hx1
  clear hx1
  have b3_0 := B3.at 0 rfl
  have b3_1 := B3.at 1 rfl
  go_wp2_with fail
  clear b3_0 b3_1
  refine (heldDelta w19 (1) r4_h0 r4_h1 (by omega) (by have h := hm18; rw [mkDelta_snd] at h; omega)).mono ?_
  rintro e w20 ⟨rfl, hx1⟩
  rw [hm18]
  clear B3 r4_h0 r4_h1 r4_t0 r4_t1
  have S20 := hx1.size
  replace hx := hx.trans hx1
  clear hx1
  go_wp2
  go_ret
  exact ⟨rfl, hx⟩
namespace LFnExactInvertDelta
theorem opensInt : Opens Int Try.prog 3 := Go.Q.opensInt Try.underlying3
theorem opensPair : Opens TPair Try.prog 70 := by
  intro H enc w base spare held fuel cs x h
  obtain ⟨xs, n, _, _, hlen, hxl, hf⟩ := DataW.trod_struct Try.underlying70 h
  rw [show Try.prog.cellsOf 70 = 2 from by kernel_rfl] at hlen
  have kInt : Try.prog.cellsOf 3 = 1 := by kernel_rfl
  match cs, hlen, xs, hxl with
  | [c0, c1], _, [y0, y1], _ =>
    have g0 : DataW.trod enc Try.prog w base spare held n 3 [c0] = some y0 := by simpa [kInt] using hf 0 _ rfl
    obtain ⟨x0, F0, e0, _⟩ := opensInt g0
    simp [Flat.enc] at e0
    subst e0
    have g1 : DataW.trod enc Try.prog w base spare held n 3 [c1] = some y1 := by simpa [kInt] using hf 1 _ rfl
    obtain ⟨x1, F1, e1, _⟩ := opensInt g1
    simp [Flat.enc] at e1
    subst e1
    exact ⟨⟨x0, x1⟩, [], rfl, rfl⟩
theorem opensPairS : Opens (List TPair) Try.prog 28 := opensSlice Try.underlying28 (by kernel_rfl) (by decide) opensPair
theorem opensDelta : Opens TDelta Try.prog 30 := by
  intro H enc w base spare held fuel cs x h
  obtain ⟨xs, n, _, _, hlen, hxl, hf⟩ := DataW.trod_struct Try.underlying30 h
  rw [show Try.prog.cellsOf 30 = 2 from by kernel_rfl] at hlen
  have kPairS : Try.prog.cellsOf 28 = 1 := by kernel_rfl
  match cs, hlen, xs, hxl with
  | [c0, c1], _, [y0, y1], _ =>
    have g0 : DataW.trod enc Try.prog w base spare held n 28 [c0] = some y0 := by simpa [kPairS] using hf 0 _ rfl
    obtain ⟨x0, F0, a0, l0, d0, e0, s0⟩ := opensPairS g0
    simp [Flat.enc] at e0
    subst e0
    have g1 : DataW.trod enc Try.prog w base spare held n 28 [c1] = some y1 := by simpa [kPairS] using hf 1 _ rfl
    obtain ⟨x1, F1, a1, l1, d1, e1, s1⟩ := opensPairS g1
    simp [Flat.enc] at e1
    subst e1
    exact ⟨⟨x0, x1⟩, _, _, _, _, _, _, _, _, _, rfl, s0, s1, rfl⟩
theorem ownFnExactInvertDelta : ownKnob Try.prog.godebug = none := by kernel_rfl
theorem laidOutFnExactInvertDelta : laidOutB Try.prog = true := by kernel_rfl
set_option maxRecDepth 100000 in
theorem liftedFnExactInvertDelta (os : Os) (started : os.Started) (H : Type) (enc : TypeId × Value → H) :
    ReturnsInHanded {} Try.checked os 6 .any (Rows.fnExactInvertDeltaSpec.pre6 enc Try.prog Try.f6 Rows.fnExactInvertDeltaRow.domain false) (Rows.fnExactInvertDeltaSpec.post enc Try.prog Try.f6 false true false false) := by
  refine returnsInHanded_of_change (C := Try.checked) ownFnExactInvertDelta started (by kernel_rfl) Try.func6
    (ChangeSpec.witness6 (enc := enc) (C := Try.checked) false ⟨#[], #[.agg #[.slice none 0 0, .slice none 0 0]], []⟩ 8 (by kernel_rfl) (by kernel_rfl) (by kernel_rfl) (by kernel_rfl)) ?_
  intro W base args ds gs before hval0 hW hcnd _
  have hval : ∀ (j : Nat) t v, Try.f6.params[j]? = some t → args[j]? = some v → Value.okWide Try.prog W .any base t v := hval0
  have hW' := hW
  obtain ⟨p, q, hA0, hV, rfl, hfz, hnd⟩ := hW
  have hA : DataW.TrodAll enc Try.prog W 0 (fun _ => true) true Try.f6.params.toList args.toList ds p := hA0
  rw [Try.params6] at hA hval
  obtain ⟨v0, vs0, d0, ds0, p0, q0, hargs, rfl, rfl, h0, r0⟩ := trodAll_cons hA
  obtain ⟨rfl, rfl, rfl⟩ := trodAll_nil r0
  obtain rfl : args = #[v0] := by cases args; simp_all
  obtain ⟨rfl, rfl⟩ := trodVars_none hV
  obtain ⟨cs0, rfl, _⟩ := okWide_struct Try.underlying30 (hval 0 30 v0 rfl rfl)
  have k0 := h0
  have lt0 : ∀ x ∈ p0, x.block < W.heap.size := by obtain ⟨m, hm⟩ := k0; exact DataW.trod_lt m _ _ _ hm
  obtain ⟨x0, F0, g0a0, g0l0, g0c0, g0F0, g0a1, g0l1, g0c1, g0F1, he0, hs0_0, hs0_1, _⟩ := Opens.vl opensDelta h0
  obtain rfl : cs0 = #[.slice g0a0 g0l0 g0c0, .slice g0a1 g0l1 g0c1] := Array.ext' (by simpa [Value.cells, Flat.enc] using he0)
  clear hA0 hval0
  refine (lawFnExactInvertDelta x0 W hs0_0 hs0_1).mono fun e W' ⟨he, bel⟩ => ?_
  subst he
  exact ⟨_, rfl, _, _, _, [], _, [], hW', trodAll_mk1 (shut_bool Try.underlying4 _), (trodAll_cons_mk (Below.trod laidOutFnExactInvertDelta (by kernel_rfl) (of_decide_eq_true (by kernel_rfl)) k0 bel lt0) trodAll_mk0), rfl, Below.frame bel _, fun h => by cases h⟩
/-- The statement. -/
theorem provedFnExactInvertDelta : Rows.FnExactInvertDeltaSaid :=
  OpenClaim.holds_of_wide 6 Try.f6 rfl rfl rfl rfl rfl rfl rfl ⟨rfl, rfl, rfl, rfl, rfl⟩ rfl rfl rfl rfl rfl (by kernel_rfl) Try.func6 (by kernel_rfl)
    (of_decide_eq_true (by kernel_rfl)) (by unfold Func.isWrapper; first | (rw [if_pos (by decide +kernel)]; kernel_rfl) | (rw [if_neg (by decide +kernel)]; exact ⟨rfl, rfl⟩))
    (fun os started H enc _ => liftedFnExactInvertDelta os started H enc)
#print axioms provedFnExactInvertDelta
end LFnExactInvertDelta
end Go.Proofs.Ytindeldjbofanaa
