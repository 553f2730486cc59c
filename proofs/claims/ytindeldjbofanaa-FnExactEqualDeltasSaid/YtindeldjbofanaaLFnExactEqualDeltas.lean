/- FnExactEqualDeltas: the law returns true for every input, and its arguments read as they did. No condition. -/
import Derived.Test.YtindeldjbofanaaS15a
import Derived.Test.YtindeldjbofanaaOpen
namespace Go.Proofs.Ytindeldjbofanaa
open Go.RowKit Go.Q Go.Q.Rd Go.ChangeShapes Go.WideShapes Go.ChangeAt
open Go.ChangeMaps (open_string shut_string)
set_option maxHeartbeats 4000000 in
set_option maxRecDepth 10000 in
theorem lawFnExactEqualDeltas (aA : TDelta) (aB : TDelta) (w : World) {p0a0 : Option Addr} {p0l0 p0c0 : Nat} {p0F0 : List Nat} (p0h0 : Sl w p0a0 p0l0 p0c0 aA.Added p0F0) {p0a1 : Option Addr} {p0l1 p0c1 : Nat} {p0F1 : List Nat} (p0h1 : Sl w p0a1 p0l1 p0c1 aA.Removed p0F1) {p1a0 : Option Addr} {p1l0 p1c0 : Nat} {p1F0 : List Nat} (p1h0 : Sl w p1a0 p1l0 p1c0 aB.Added p1F0) {p1a1 : Option Addr} {p1l1 p1c1 : Nat} {p1F1 : List Nat} (p1h1 : Sl w p1a1 p1l1 p1c1 aB.Removed p1F1) :
    Calls Try.prog 5 #[.agg #[.slice p0a0 p0l0 p0c0, .slice p0a1 p0l1 p0c1], .agg #[.slice p1a0 p1l0 p1c0, .slice p1a1 p1l1 p1c1]] w fun e w' => e = .returned (.bool true) ∧ Ext w w' := by
  have hx := Ext.refl w
  go_enter Try.func5, Try.ntmps5
  go_wp2_with fail
  obtain ⟨w1, hu, hx1, B0, B1⟩ := boxes2 w #[.slice p0a0 p0l0 p0c0, .slice p0a1 p0l1 p0c1] 30 #[.slice p1a0 p1l0 p1c0, .slice p1a1 p1l1 p1c1] 30
  rw [← hu]
  clear hu
  replace p0h0 := p0h0.mono hx1
  replace p0h1 := p0h1.mono hx1
  replace p1h0 := p1h0.mono hx1
  replace p1h1 := p1h1.mono hx1
  replace hx := hx.trans hx1
  clear hx1
  refine (szDelta w1 p0h0 p0h1 _ (by omega) (by omega)).mono ?_
  rintro e w2 ⟨rfl, hx1⟩
  replace p0h0 := p0h0.mono hx1
  replace p0h1 := p0h1.mono hx1
  replace p1h0 := p1h0.mono hx1
  replace p1h1 := p1h1.mono hx1
  replace B0 := B0.mono hx1
  replace B1 := B1.mono hx1
  replace hx := hx.trans hx1
  clear hx1
  by_cases q0 : 1048576 - (sizDelta aA : Int) < 0
  case pos =>
    rw [szr_neg q0]
    go_wp2
    go_ret
    exact ⟨rfl, hx⟩
  rw [szr_pos q0]
  have ZaA := hid (show sizDelta aA ≤ 1048576 by omega)
  have b0_0 := B0.at 0 rfl
  have b0_1 := B0.at 1 rfl
  have b1_0 := B1.at 0 rfl
  have b1_1 := B1.at 1 rfl
  go_wp2_with fail
  clear b0_0 b0_1 b1_0 b1_1
  refine (szDelta w2 p1h0 p1h1 _ (by omega) (by omega)).mono ?_
  rintro e w3 ⟨rfl, hx1⟩
  replace p0h0 := p0h0.mono hx1
  replace p0h1 := p0h1.mono hx1
  replace p1h0 := p1h0.mono hx1
  replace p1h1 := p1h1.mono hx1
  replace B0 := B0.mono hx1
  replace B1 := B1.mono hx1
  replace hx := hx.trans hx1
  clear hx1
  by_cases q1 : 1048576 - (sizDelta aA : Int) - (sizDelta aB : Int) < 0
  case pos =>
    rw [szr_neg q1]
    go_wp2
    go_ret
    exact ⟨rfl, hx⟩
  rw [szr_pos q1]
  have ZaB := hid (show sizDelta aB ≤ 1048576 by omega)
  have b0_0 := B0.at 0 rfl
  have b0_1 := B0.at 1 rfl
  have b1_0 := B1.at 0 rfl
  have b1_1 := B1.at 1 rfl
  go_wp2_with fail
  clear b0_0 b0_1 b1_0 b1_1
  refine wp_region_plan 6 [MP.is (.agg #[.slice p0a0 p0l0 p0c0, .slice p0a1 p0l1 p0c1]), MP.vl aA, MP.is (.agg #[.slice p1a0 p1l0 p1c0, .slice p1a1 p1l1 p1c1]), MP.vl aB, MP.is (.bool (decide (aA = aB))), MP.is (.bool (decide (aA = aB)))] (by kernel_rfl) (by kernel_rfl) ?_ ?_
  · refine ⟨?_, ?_, ?_, ?_, ?_, ?_, trivial⟩
    · intro vs w3 hx3 hd K hK
      simp [deps, fillD, dstAt, Region.binds, Act.put] at hd hK ⊢
      have c0 := (B0.mono hx3).at 0 rfl
      have c1 := (B0.mono hx3).at 1 rfl
      go_wp2_with fail
      exact hK _ _ (Ext.refl _) rfl
    · intro vs w3 hx3 hd K hK
      simp [deps, fillD, dstAt, Region.binds, Act.put] at hd hK ⊢
      have e0 : vs 0 = .agg #[.slice p0a0 p0l0 p0c0, .slice p0a1 p0l1 p0c1] := by first | exact hd | exact hd.1 | exact hd.2 | exact hd.1.1 | exact hd.2.1 | exact hd.2.2 | exact hd.2.2.1 | exact hd.2.2.2 | exact hd.2.2.2.1 | exact hd.2.2.2.2
      simp only [e0] at hK ⊢
      go_wp2_with fail
      refine (toDelta w3 (p0h0.mono hx3) (p0h1.mono hx3) ZaA.out).mono ?_
      rintro e w4 ⟨v, rfl, hN, hx4⟩
      go_wp2_with fail
      exact hK _ _ hx4 hN.vl
    · intro vs w3 hx3 hd K hK
      simp [deps, fillD, dstAt, Region.binds, Act.put] at hd hK ⊢
      have c0 := (B1.mono hx3).at 0 rfl
      have c1 := (B1.mono hx3).at 1 rfl
      go_wp2_with fail
      exact hK _ _ (Ext.refl _) rfl
    · intro vs w3 hx3 hd K hK
      simp [deps, fillD, dstAt, Region.binds, Act.put] at hd hK ⊢
      have e2 : vs 2 = .agg #[.slice p1a0 p1l0 p1c0, .slice p1a1 p1l1 p1c1] := by first | exact hd | exact hd.1 | exact hd.2 | exact hd.1.1 | exact hd.2.1 | exact hd.2.2 | exact hd.2.2.1 | exact hd.2.2.2 | exact hd.2.2.2.1 | exact hd.2.2.2.2
      simp only [e2] at hK ⊢
      go_wp2_with fail
      refine (toDelta w3 (p1h0.mono hx3) (p1h1.mono hx3) ZaB.out).mono ?_
      rintro e w4 ⟨v, rfl, hN, hx4⟩
      go_wp2_with fail
      exact hK _ _ hx4 hN.vl
    · intro vs w3 hx3 hd K hK
      simp [deps, fillD, dstAt, Region.binds, Act.put] at hd hK ⊢
      obtain ⟨v1_F, v1_v⟩ : ∃ F, Vl w3 (vs 1) aA F := by first | exact hd | exact hd.1 | exact hd.2 | exact hd.1.1 | exact hd.2.1 | exact hd.2.2 | exact hd.2.2.1 | exact hd.2.2.2 | exact hd.2.2.2.1 | exact hd.2.2.2.2
      obtain ⟨v1_a0, v1_l0, v1_c0, v1_F0, v1_a1, v1_l1, v1_c1, v1_F1, e1, v1_h0, v1_h1, -⟩ := v1_v.ofTDelta
      obtain ⟨v3_F, v3_v⟩ : ∃ F, Vl w3 (vs 3) aB F := by first | exact hd | exact hd.1 | exact hd.2 | exact hd.1.1 | exact hd.2.1 | exact hd.2.2 | exact hd.2.2.1 | exact hd.2.2.2 | exact hd.2.2.2.1 | exact hd.2.2.2.2
      obtain ⟨v3_a0, v3_l0, v3_c0, v3_F0, v3_a1, v3_l1, v3_c1, v3_F1, e3, v3_h0, v3_h1, -⟩ := v3_v.ofTDelta
      simp only [e1, e3] at hK ⊢
      go_wp2_with fail
      refine (specEqualDeltas aA aB w3 v1_h0 v1_h1 v3_h0 v3_h1 ).mono ?_
      rintro e w4 ⟨rfl, hx4⟩
      go_wp2_with fail
      exact hK _ _ hx4 rfl
    · intro vs w3 hx3 hd K hK
      simp [deps, fillD, dstAt, Region.binds, Act.put] at hd hK ⊢
      have e4 : vs 4 = .bool (decide (aA = aB)) := by first | exact hd | exact hd.1 | exact hd.2 | exact hd.1.1 | exact hd.2.1 | exact hd.2.2 | exact hd.2.2.1 | exact hd.2.2.2 | exact hd.2.2.2.1 | exact hd.2.2.2.2 | exact hd.2.2.2.2.1 | exact hd.2.2.2.2.2
      simp only [e4] at hK ⊢
      go_wp2_with fail
      exact hK _ _ (Ext.refl _) rfl
  intro vs w4 hx1 hd
  have e0 : vs 0 = .agg #[.slice p0a0 p0l0 p0c0, .slice p0a1 p0l1 p0c1] := hd 0 (by omega)
  have e2 : vs 2 = .agg #[.slice p1a0 p1l0 p1c0, .slice p1a1 p1l1 p1c1] := hd 2 (by omega)
  have e4 : vs 4 = .bool (decide (aA = aB)) := hd 4 (by omega)
  have e5 : vs 5 = .bool (decide (aA = aB)) := hd 5 (by omega)
  simp [fillD, dstAt, Act.put, List.range_succ]
  simp only [e0, e2, e4, e5]
  clear e0 e2 e4 e5 hd
  replace p0h0 := p0h0.mono hx1
  replace p0h1 := p0h1.mono hx1
  replace p1h0 := p1h0.mono hx1
  replace p1h1 := p1h1.mono hx1
  replace B0 := B0.mono hx1
  replace B1 := B1.mono hx1
  replace hx := hx.trans hx1
  clear hx1
  have b0_0 := B0.at 0 rfl
  have b0_1 := B0.at 1 rfl
  have b1_0 := B1.at 0 rfl
  have b1_1 := B1.at 1 rfl
  go_wp2_with fail
  clear b0_0 b0_1 b1_0 b1_1
  refine (toDelta w4 p0h0 p0h1 ZaA.out).mono ?_
  rintro e w5 ⟨v, rfl, hN, hx1⟩
  obtain ⟨r12_F, hv⟩ := hN.vl
  clear hN
  obtain ⟨r12_a0, r12_l0, r12_c0, r12_F0, r12_a1, r12_l1, r12_c1, r12_F1, rfl, r12_h0, r12_h1, -⟩ := hv.ofTDelta
  clear hv
  replace p0h0 := p0h0.mono hx1
  replace p0h1 := p0h1.mono hx1
  replace p1h0 := p1h0.mono hx1
  replace p1h1 := p1h1.mono hx1
  replace B0 := B0.mono hx1
  replace B1 := B1.mono hx1
  replace hx := hx.trans hx1
  clear hx1
  have b0_0 := B0.at 0 rfl
  have b0_0p := (B0.alloc (.cells #[.slice r12_a0 r12_l0 r12_c0, .slice r12_a1 r12_l1 r12_c1] 35)).at 0 rfl
  have b0_1 := B0.at 1 rfl
  have b0_1p := (B0.alloc (.cells #[.slice r12_a0 r12_l0 r12_c0, .slice r12_a1 r12_l1 r12_c1] 35)).at 1 rfl
  have b1_0 := B1.at 0 rfl
  have b1_0p := (B1.alloc (.cells #[.slice r12_a0 r12_l0 r12_c0, .slice r12_a1 r12_l1 r12_c1] 35)).at 0 rfl
  have b1_1 := B1.at 1 rfl
  have b1_1p := (B1.alloc (.cells #[.slice r12_a0 r12_l0 r12_c0, .slice r12_a1 r12_l1 r12_c1] 35)).at 1 rfl
  go_wp2_with fail
  clear b0_0 b0_0p b0_1 b0_1p b1_0 b1_0p b1_1 b1_1p
  obtain ⟨w6, hu, hx1, B2⟩ := boxes1 w5 #[.slice r12_a0 r12_l0 r12_c0, .slice r12_a1 r12_l1 r12_c1] 35
  rw [← hu]
  clear hu
  replace p0h0 := p0h0.mono hx1
  replace p0h1 := p0h1.mono hx1
  replace p1h0 := p1h0.mono hx1
  replace p1h1 := p1h1.mono hx1
  replace B0 := B0.mono hx1
  replace B1 := B1.mono hx1
  replace r12_h0 := r12_h0.mono hx1
  replace r12_h1 := r12_h1.mono hx1
  replace hx := hx.trans hx1
  clear hx1
  refine (toDelta w6 p1h0 p1h1 ZaB.out).mono ?_
  rintro e w7 ⟨v, rfl, hN, hx1⟩
  obtain ⟨r13_F, hv⟩ := hN.vl
  clear hN
  obtain ⟨r13_a0, r13_l0, r13_c0, r13_F0, r13_a1, r13_l1, r13_c1, r13_F1, rfl, r13_h0, r13_h1, -⟩ := hv.ofTDelta
  clear hv
  replace p0h0 := p0h0.mono hx1
  replace p0h1 := p0h1.mono hx1
  replace p1h0 := p1h0.mono hx1
  replace p1h1 := p1h1.mono hx1
  replace B0 := B0.mono hx1
  replace B1 := B1.mono hx1
  replace r12_h0 := r12_h0.mono hx1
  replace r12_h1 := r12_h1.mono hx1
  replace B2 := B2.mono hx1
  replace hx := hx.trans hx1
  clear hx1
  have b0_0 := B0.at 0 rfl
  have b0_0p := (B0.alloc (.cells #[.slice r13_a0 r13_l0 r13_c0, .slice r13_a1 r13_l1 r13_c1] 35)).at 0 rfl
  have b0_1 := B0.at 1 rfl
  have b0_1p := (B0.alloc (.cells #[.slice r13_a0 r13_l0 r13_c0, .slice r13_a1 r13_l1 r13_c1] 35)).at 1 rfl
  have b1_0 := B1.at 0 rfl
  have b1_0p := (B1.alloc (.cells #[.slice r13_a0 r13_l0 r13_c0, .slice r13_a1 r13_l1 r13_c1] 35)).at 0 rfl
  have b1_1 := B1.at 1 rfl
  have b1_1p := (B1.alloc (.cells #[.slice r13_a0 r13_l0 r13_c0, .slice r13_a1 r13_l1 r13_c1] 35)).at 1 rfl
  have b2_0 := B2.at 0 rfl
  have b2_0p := (B2.alloc (.cells #[.slice r13_a0 r13_l0 r13_c0, .slice r13_a1 r13_l1 r13_c1] 35)).at 0 rfl
  have b2_1 := B2.at 1 rfl
  have b2_1p := (B2.alloc (.cells #[.slice r13_a0 r13_l0 r13_c0, .slice r13_a1 r13_l1 r13_c1] 35)).at 1 rfl
  go_wp2_with fail
  clear b0_0 b0_0p b0_1 b0_1p b1_0 b1_0p b1_1 b1_1p b2_0 b2_0p b2_1 b2_1p
  obtain ⟨w8, hu, hx1, B3⟩ := boxes1 w7 #[.slice r13_a0 r13_l0 r13_c0, .slice r13_a1 r13_l1 r13_c1] 35
  rw [← hu]
  clear hu
  replace p0h0 := p0h0.mono hx1
  replace p0h1 := p0h1.mono hx1
  replace p1h0 := p1h0.mono hx1
  replace p1h1 := p1h1.mono hx1
  replace B0 := B0.mono hx1
  replace B1 := B1.mono hx1
  replace r12_h0 := r12_h0.mono hx1
  replace r12_h1 := r12_h1.mono hx1
  replace B2 := B2.mono hx1
  replace r13_h0 := r13_h0.mono hx1
  replace r13_h1 := r13_h1.mono hx1
  replace hx := hx.trans hx1
  clear hx1
  refine (implEqualDeltas aA aB w8 r12_h0 r12_h1 r13_h0 r13_h1 ).mono ?_
  rintro e w9 ⟨rfl, hx1⟩
  replace p0h0 := p0h0.mono hx1
  replace p0h1 := p0h1.mono hx1
  replace p1h0 := p1h0.mono hx1
  replace p1h1 := p1h1.mono hx1
  replace B0 := B0.mono hx1
  replace B1 := B1.mono hx1
  replace r12_h0 := r12_h0.mono hx1
  replace r12_h1 := r12_h1.mono hx1
  replace B2 := B2.mono hx1
  replace r13_h0 := r13_h0.mono hx1
  replace r13_h1 := r13_h1.mono hx1
  replace B3 := B3.mono hx1
  replace hx := hx.trans hx1
  clear hx1
  have b0_0 := B0.at 0 rfl
  have b0_1 := B0.at 1 rfl
  have b1_0 := B1.at 0 rfl
  have b1_1 := B1.at 1 rfl
  have b2_0 := B2.at 0 rfl
  have b2_1 := B2.at 1 rfl
  have b3_0 := B3.at 0 rfl
  have b3_1 := B3.at 1 rfl
  go_wp2_with fail
  clear b0_0 b0_1 b1_0 b1_1 b2_0 b2_1 b3_0 b3_1
  refine wp_region_plan 5 [MP.is (.agg #[.slice r12_a0 r12_l0 r12_c0, .slice r12_a1 r12_l1 r12_c1]), MP.is (.agg #[.slice p0a0 p0l0 p0c0, .slice p0a1 p0l1 p0c1]), MP.vl aA, MP.is (.bool true), MP.is (.bool false)] (by kernel_rfl) (by kernel_rfl) ?_ ?_
  · refine ⟨?_, ?_, ?_, ?_, ?_, trivial⟩
    · intro vs w3 hx3 hd K hK
      simp [deps, fillD, dstAt, Region.binds, Act.put] at hd hK ⊢
      have c0 := (B2.mono hx3).at 0 rfl
      have c1 := (B2.mono hx3).at 1 rfl
      go_wp2_with fail
      exact hK _ _ (Ext.refl _) rfl
    · intro vs w3 hx3 hd K hK
      simp [deps, fillD, dstAt, Region.binds, Act.put] at hd hK ⊢
      have c0 := (B0.mono hx3).at 0 rfl
      have c1 := (B0.mono hx3).at 1 rfl
      go_wp2_with fail
      exact hK _ _ (Ext.refl _) rfl
    · intro vs w3 hx3 hd K hK
      simp [deps, fillD, dstAt, Region.binds, Act.put] at hd hK ⊢
      have e1 : vs 1 = .agg #[.slice p0a0 p0l0 p0c0, .slice p0a1 p0l1 p0c1] := by first | exact hd | exact hd.1 | exact hd.2 | exact hd.1.1 | exact hd.2.1 | exact hd.2.2 | exact hd.2.2.1 | exact hd.2.2.2 | exact hd.2.2.2.1 | exact hd.2.2.2.2
      simp only [e1] at hK ⊢
      go_wp2_with fail
      refine (toDelta w3 (p0h0.mono hx3) (p0h1.mono hx3) ZaA.out).mono ?_
      rintro e w4 ⟨v, rfl, hN, hx4⟩
      go_wp2_with fail
      exact hK _ _ hx4 hN.vl
    · intro vs w3 hx3 hd K hK
      simp [deps, fillD, dstAt, Region.binds, Act.put] at hd hK ⊢
      have e0 : vs 0 = .agg #[.slice r12_a0 r12_l0 r12_c0, .slice r12_a1 r12_l1 r12_c1] := by first | exact hd | exact hd.1 | exact hd.2 | exact hd.1.1 | exact hd.2.1 | exact hd.2.2 | exact hd.2.2.1 | exact hd.2.2.2 | exact hd.2.2.2.1 | exact hd.2.2.2.2
      obtain ⟨v2_F, v2_v⟩ : ∃ F, Vl w3 (vs 2) aA F := by first | exact hd | exact hd.1 | exact hd.2 | exact hd.1.1 | exact hd.2.1 | exact hd.2.2 | exact hd.2.2.1 | exact hd.2.2.2 | exact hd.2.2.2.1 | exact hd.2.2.2.2
      obtain ⟨v2_a0, v2_l0, v2_c0, v2_F0, v2_a1, v2_l1, v2_c1, v2_F1, e2, v2_h0, v2_h1, -⟩ := v2_v.ofTDelta
      simp only [e0, e2] at hK ⊢
      go_wp2_with fail
      refine (eqDelta aA aA w3 (r12_h0.mono hx3) (r12_h1.mono hx3) v2_h0 v2_h1).mono ?_
      rintro e w4 ⟨he, hx4⟩
      obtain rfl : e = .returned (.bool true) := he.trans (ret_bool (by simp))
      go_wp2_with fail
      exact hK _ _ hx4 rfl
    · intro vs w3 hx3 hd K hK
      simp [deps, fillD, dstAt, Region.binds, Act.put] at hd hK ⊢
      have e3 : vs 3 = .bool true := by first | exact hd | exact hd.1 | exact hd.2 | exact hd.1.1 | exact hd.2.1 | exact hd.2.2 | exact hd.2.2.1 | exact hd.2.2.2 | exact hd.2.2.2.1 | exact hd.2.2.2.2 | exact hd.2.2.2.2.1 | exact hd.2.2.2.2.2
      simp only [e3] at hK ⊢
      go_wp2_with fail
      exact hK _ _ (Ext.refl _) rfl
  intro vs w10 hx1 hd
  have e0 : vs 0 = .agg #[.slice r12_a0 r12_l0 r12_c0, .slice r12_a1 r12_l1 r12_c1] := hd 0 (by omega)
  have e1 : vs 1 = .agg #[.slice p0a0 p0l0 p0c0, .slice p0a1 p0l1 p0c1] := hd 1 (by omega)
  have e3 : vs 3 = .bool true := hd 3 (by omega)
  have e4 : vs 4 = .bool false := hd 4 (by omega)
  simp [fillD, dstAt, Act.put, List.range_succ]
  simp only [e0, e1, e3, e4]
  clear e0 e1 e3 e4 hd
  replace p0h0 := p0h0.mono hx1
  replace p0h1 := p0h1.mono hx1
  replace p1h0 := p1h0.mono hx1
  replace p1h1 := p1h1.mono hx1
  replace B0 := B0.mono hx1
  replace B1 := B1.mono hx1
  replace r12_h0 := r12_h0.mono hx1
  replace r12_h1 := r12_h1.mono hx1
  replace B2 := B2.mono hx1
  replace r13_h0 := r13_h0.mono hx1
  replace r13_h1 := r13_h1.mono hx1
  replace B3 := B3.mono hx1
  replace hx := hx.trans hx1
  clear hx1
  have b0_0 := B0.at 0 rfl
  have b0_1 := B0.at 1 rfl
  have b1_0 := B1.at 0 rfl
  have b1_1 := B1.at 1 rfl
  have b2_0 := B2.at 0 rfl
  have b2_1 := B2.at 1 rfl
  have b3_0 := B3.at 0 rfl
  have b3_1 := B3.at 1 rfl
  go_wp2_with fail
  clear b0_0 b0_1 b1_0 b1_1 b2_0 b2_1 b3_0 b3_1
  refine wp_region_plan 5 [MP.is (.agg #[.slice r13_a0 r13_l0 r13_c0, .slice r13_a1 r13_l1 r13_c1]), MP.is (.agg #[.slice p1a0 p1l0 p1c0, .slice p1a1 p1l1 p1c1]), MP.vl aB, MP.is (.bool true), MP.is (.bool false)] (by kernel_rfl) (by kernel_rfl) ?_ ?_
  · refine ⟨?_, ?_, ?_, ?_, ?_, trivial⟩
    · intro vs w3 hx3 hd K hK
      simp [deps, fillD, dstAt, Region.binds, Act.put] at hd hK ⊢
      have c0 := (B3.mono hx3).at 0 rfl
      have c1 := (B3.mono hx3).at 1 rfl
      go_wp2_with fail
      exact hK _ _ (Ext.refl _) rfl
    · intro vs w3 hx3 hd K hK
      simp [deps, fillD, dstAt, Region.binds, Act.put] at hd hK ⊢
      have c0 := (B1.mono hx3).at 0 rfl
      have c1 := (B1.mono hx3).at 1 rfl
      go_wp2_with fail
      exact hK _ _ (Ext.refl _) rfl
    · intro vs w3 hx3 hd K hK
      simp [deps, fillD, dstAt, Region.binds, Act.put] at hd hK ⊢
      have e1 : vs 1 = .agg #[.slice p1a0 p1l0 p1c0, .slice p1a1 p1l1 p1c1] := by first | exact hd | exact hd.1 | exact hd.2 | exact hd.1.1 | exact hd.2.1 | exact hd.2.2 | exact hd.2.2.1 | exact hd.2.2.2 | exact hd.2.2.2.1 | exact hd.2.2.2.2
      simp only [e1] at hK ⊢
      go_wp2_with fail
      refine (toDelta w3 (p1h0.mono hx3) (p1h1.mono hx3) ZaB.out).mono ?_
      rintro e w4 ⟨v, rfl, hN, hx4⟩
      go_wp2_with fail
      exact hK _ _ hx4 hN.vl
    · intro vs w3 hx3 hd K hK
      simp [deps, fillD, dstAt, Region.binds, Act.put] at hd hK ⊢
      have e0 : vs 0 = .agg #[.slice r13_a0 r13_l0 r13_c0, .slice r13_a1 r13_l1 r13_c1] := by first | exact hd | exact hd.1 | exact hd.2 | exact hd.1.1 | exact hd.2.1 | exact hd.2.2 | exact hd.2.2.1 | exact hd.2.2.2 | exact hd.2.2.2.1 | exact hd.2.2.2.2
      obtain ⟨v2_F, v2_v⟩ : ∃ F, Vl w3 (vs 2) aB F := by first | exact hd | exact hd.1 | exact hd.2 | exact hd.1.1 | exact hd.2.1 | exact hd.2.2 | exact hd.2.2.1 | exact hd.2.2.2 | exact hd.2.2.2.1 | exact hd.2.2.2.2
      obtain ⟨v2_a0, v2_l0, v2_c0, v2_F0, v2_a1, v2_l1, v2_c1, v2_F1, e2, v2_h0, v2_h1, -⟩ := v2_v.ofTDelta
      simp only [e0, e2] at hK ⊢
      go_wp2_with fail
      refine (eqDelta aB aB w3 (r13_h0.mono hx3) (r13_h1.mono hx3) v2_h0 v2_h1).mono ?_
      rintro e w4 ⟨he, hx4⟩
      obtain rfl : e = .returned (.bool true) := he.trans (ret_bool (by simp))
      go_wp2_with fail
      exact hK _ _ hx4 rfl
    · intro vs w3 hx3 hd K hK
      simp [deps, fillD, dstAt, Region.binds, Act.put] at hd hK ⊢
      have e3 : vs 3 = .bool true := by first | exact hd | exact hd.1 | exact hd.2 | exact hd.1.1 | exact hd.2.1 | exact hd.2.2 | exact hd.2.2.1 | exact hd.2.2.2 | exact hd.2.2.2.1 | exact hd.2.2.2.2 | exact hd.2.2.2.2.1 | exact hd.2.2.2.2.2
      simp only [e3] at hK ⊢
      go_wp2_with fail
      exact hK _ _ (Ext.refl _) rfl
  intro vs w11 hx1 hd
  have e0 : vs 0 = .agg #[.slice r13_a0 r13_l0 r13_c0, .slice r13_a1 r13_l1 r13_c1] := hd 0 (by omega)
  have e1 : vs 1 = .agg #[.slice p1a0 p1l0 p1c0, .slice p1a1 p1l1 p1c1] := hd 1 (by omega)
  have e3 : vs 3 = .bool true := hd 3 (by omega)
  have e4 : vs 4 = .bool false := hd 4 (by omega)
  simp [fillD, dstAt, Act.put, List.range_succ]
  simp only [e0, e1, e3, e4]
  clear e0 e1 e3 e4 hd
  replace p0h0 := p0h0.mono hx1
  replace p0h1 := p0h1.mono hx1
  replace p1h0 := p1h0.mono hx1
  replace p1h1 := p1h1.mono hx1
  replace B0 := B0.mono hx1
  replace B1 := B1.mono hx1
  replace r12_h0 := r12_h0.mono hx1
  replace r12_h1 := r12_h1.mono hx1
  replace B2 := B2.mono hx1
  replace r13_h0 := r13_h0.mono hx1
  replace r13_h1 := r13_h1.mono hx1
  replace B3 := B3.mono hx1
  replace hx := hx.trans hx1
  clear hx1
  go_wp2
  go_ret
  exact ⟨rfl, hx⟩
namespace LFnExactEqualDeltas
theorem opensInt : Opens Int Try.prog 3 := Go.Q.opensInt Try.underlying3
theorem opensPair : Opens TPair Try.prog 70 := by
  intro H enc w base spare held fuel cs x h
  obtain ⟨xs, n, _, _, hlen, hxl, hf⟩ := DataW.trod_struct Try.underlying70 h
  rw [show Try.prog.cellsOf 70 = 2 from by kernel_rfl] at hlen
  have kInt : Try.prog.cellsOf 3 = 1 := by kernel_rfl
  match cs, hlen, xs, hxl with
  | [c0, c1], _, [y0, y1], _ =>
    have g0 : DataW.trod enc Try.prog w base spare held n 3 [c0] = some y0 := by simpa [kInt] using hf 0 _ rfl
    obtain ⟨x0, F0, e0, _⟩ := opensInt g0
    simp [Flat.enc] at e0
    subst e0
    have g1 : DataW.trod enc Try.prog w base spare held n 3 [c1] = some y1 := by simpa [kInt] using hf 1 _ rfl
    obtain ⟨x1, F1, e1, _⟩ := opensInt g1
    simp [Flat.enc] at e1
    subst e1
    exact ⟨⟨x0, x1⟩, [], rfl, rfl⟩
theorem opensPairS : Opens (List TPair) Try.prog 28 := opensSlice Try.underlying28 (by kernel_rfl) (by decide) opensPair
theorem opensDelta : Opens TDelta Try.prog 30 := by
  intro H enc w base spare held fuel cs x h
  obtain ⟨xs, n, _, _, hlen, hxl, hf⟩ := DataW.trod_struct Try.underlying30 h
  rw [show Try.prog.cellsOf 30 = 2 from by kernel_rfl] at hlen
  have kPairS : Try.prog.cellsOf 28 = 1 := by kernel_rfl
  match cs, hlen, xs, hxl with
  | [c0, c1], _, [y0, y1], _ =>
    have g0 : DataW.trod enc Try.prog w base spare held n 28 [c0] = some y0 := by simpa [kPairS] using hf 0 _ rfl
    obtain ⟨x0, F0, a0, l0, d0, e0, s0⟩ := opensPairS g0
    simp [Flat.enc] at e0
    subst e0
    have g1 : DataW.trod enc Try.prog w base spare held n 28 [c1] = some y1 := by simpa [kPairS] using hf 1 _ rfl
    obtain ⟨x1, F1, a1, l1, d1, e1, s1⟩ := opensPairS g1
    simp [Flat.enc] at e1
    subst e1
    exact ⟨⟨x0, x1⟩, _, _, _, _, _, _, _, _, _, rfl, s0, s1, rfl⟩
theorem ownFnExactEqualDeltas : ownKnob Try.prog.godebug = none := by kernel_rfl
theorem laidOutFnExactEqualDeltas : laidOutB Try.prog = true := by kernel_rfl
set_option maxRecDepth 100000 in
theorem liftedFnExactEqualDeltas (os : Os) (started : os.Started) (H : Type) (enc : TypeId × Value → H) :
    ReturnsInHanded {} Try.checked os 5 .any (Rows.fnExactEqualDeltasSpec.pre6 enc Try.prog Try.f5 Rows.fnExactEqualDeltasRow.domain false) (Rows.fnExactEqualDeltasSpec.post enc Try.prog Try.f5 false true false false) := by
  refine returnsInHanded_of_change (C := Try.checked) ownFnExactEqualDeltas started (by kernel_rfl) Try.func5
    (ChangeSpec.witness6 (enc := enc) (C := Try.checked) false ⟨#[], #[.agg #[.slice none 0 0, .slice none 0 0], .agg #[.slice none 0 0, .slice none 0 0]], []⟩ 8 (by kernel_rfl) (by kernel_rfl) (by kernel_rfl) (by kernel_rfl)) ?_
  intro W base args ds gs before hval0 hW hcnd _
  have hval : ∀ (j : Nat) t v, Try.f5.params[j]? = some t → args[j]? = some v → Value.okWide Try.prog W .any base t v := hval0
  have hW' := hW
  obtain ⟨p, q, hA0, hV, rfl, hfz, hnd⟩ := hW
  have hA : DataW.TrodAll enc Try.prog W 0 (fun _ => true) true Try.f5.params.toList args.toList ds p := hA0
  rw [Try.params5] at hA hval
  obtain ⟨v0, vs0, d0, ds0, p0, q0, hargs, rfl, rfl, h0, r0⟩ := trodAll_cons hA
  obtain ⟨v1, vs1, d1, ds1, p1, q1, rfl, rfl, rfl, h1, r1⟩ := trodAll_cons r0
  obtain ⟨rfl, rfl, rfl⟩ := trodAll_nil r1
  obtain rfl : args = #[v0, v1] := by cases args; simp_all
  obtain ⟨rfl, rfl⟩ := trodVars_none hV
  obtain ⟨cs0, rfl, _⟩ := okWide_struct Try.underlying30 (hval 0 30 v0 rfl rfl)
  have k0 := h0
  have lt0 : ∀ x ∈ p0, x.block < W.heap.size := by obtain ⟨m, hm⟩ := k0; exact DataW.trod_lt m _ _ _ hm
  obtain ⟨x0, F0, g0a0, g0l0, g0c0, g0F0, g0a1, g0l1, g0c1, g0F1, he0, hs0_0, hs0_1, _⟩ := Opens.vl opensDelta h0
  obtain rfl : cs0 = #[.slice g0a0 g0l0 g0c0, .slice g0a1 g0l1 g0c1] := Array.ext' (by simpa [Value.cells, Flat.enc] using he0)
  obtain ⟨cs1, rfl, _⟩ := okWide_struct Try.underlying30 (hval 1 30 v1 rfl rfl)
  have k1 := h1
  have lt1 : ∀ x ∈ p1, x.block < W.heap.size := by obtain ⟨m, hm⟩ := k1; exact DataW.trod_lt m _ _ _ hm
  obtain ⟨x1, F1, g1a0, g1l0, g1c0, g1F0, g1a1, g1l1, g1c1, g1F1, he1, hs1_0, hs1_1, _⟩ := Opens.vl opensDelta h1
  obtain rfl : cs1 = #[.slice g1a0 g1l0 g1c0, .slice g1a1 g1l1 g1c1] := Array.ext' (by simpa [Value.cells, Flat.enc] using he1)
  clear hA0 hval0
  refine (lawFnExactEqualDeltas x0 x1 W hs0_0 hs0_1 hs1_0 hs1_1).mono fun e W' ⟨he, bel⟩ => ?_
  subst he
  exact ⟨_, rfl, _, _, _, [], _, [], hW', trodAll_mk1 (shut_bool Try.underlying4 _), (trodAll_cons_mk (Below.trod laidOutFnExactEqualDeltas (by kernel_rfl) (of_decide_eq_true (by kernel_rfl)) k0 bel lt0) (trodAll_cons_mk (Below.trod laidOutFnExactEqualDeltas (by kernel_rfl) (of_decide_eq_true (by kernel_rfl)) k1 bel lt1) trodAll_mk0)), rfl, Below.frame bel _, fun h => by cases h⟩
/-- The statement. -/
theorem provedFnExactEqualDeltas : Rows.FnExactEqualDeltasSaid :=
  OpenClaim.holds_of_wide 5 Try.f5 rfl rfl rfl rfl rfl rfl rfl ⟨rfl, rfl, rfl, rfl, rfl⟩ rfl rfl rfl rfl rfl (by kernel_rfl) Try.func5 (by kernel_rfl)
    (of_decide_eq_true (by kernel_rfl)) (by unfold Func.isWrapper; first | (rw [if_pos (by decide +kernel)]; kernel_rfl) | (rw [if_neg (by decide +kernel)]; exact ⟨rfl, rfl⟩))
    (fun os started H enc _ => liftedFnExactEqualDeltas os started H enc)
#print axioms provedFnExactEqualDeltas
end LFnExactEqualDeltas
end Go.Proofs.Ytindeldjbofanaa
