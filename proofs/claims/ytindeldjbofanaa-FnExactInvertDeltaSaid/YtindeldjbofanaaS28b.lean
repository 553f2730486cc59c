/- Deltas: turned about; both texts. -/
import Derived.Test.YtindeldjbofanaaTy
import Derived.Test.YtindeldjbofanaaApp
namespace Go.Q
def invDelta (d : TDelta) : TDelta := ⟨d.Removed, d.Added⟩
theorem bndInvertDelta (d : TDelta) (h : sizDelta d ≤ 1048576) : sizDelta (invDelta d) ≤ 1048576 := by
  unfold sizDelta invDelta at *; simp only; omega
end Go.Q
namespace Go.Proofs.Ytindeldjbofanaa
open Go.RowKit Go.Q
theorem copyPairs {a : Option Addr} {len cap : Nat} {l : List TPair} {F : List Nat} (w : World) (h : Sl w a len cap l F) (hz : l.length ≤ 1048576) :
    Calls Try.prog 38 #[.slice a len cap] w fun e w' => ∃ v, e = .returned v ∧ New w w' v l ∧ Ext w w' := by
  obtain ⟨i0, hi, hz0, hz1, hz2⟩ := info_parts Try.infoPair
  have hn := h.hlen
  go_enter Try.func38, Try.ntmps38
  go_wp2_with (at_builtin; refine wpList_append_copy (α := TPair) rfl _ _ 33 rfl 61 i0 (.agg #[.int .i64 0, .int .i64 0]) 16 Try.underlying33 hi hz0 hz1 hz2 rfl rfl rfl (h.mono ((Ext.refl w).alloc _)) (by omega) ?_)
  intro v w1 hN hx1
  go_wp2
  go_ret
  exact ⟨v, rfl, hN.old ((Ext.refl w).alloc _), ((Ext.refl w).alloc _).trans hx1⟩
theorem implInvertDelta (d : TDelta) (w : World) {a0 : Option Addr} {l0 c0 : Nat} {F0 : List Nat} (h0 : Sl w a0 l0 c0 d.Added F0) {a1 : Option Addr} {l1 c1 : Nat} {F1 : List Nat} (h1 : Sl w a1 l1 c1 d.Removed F1) (hz : sizDelta d ≤ 1048576) :
    Calls Try.prog 21 #[.agg #[.slice a0 l0 c0, .slice a1 l1 c1]] w fun e w' => ∃ v, e = .returned v ∧ New w w' v (invDelta d) ∧ Ext w w' := by
  go_enter Try.func21, Try.ntmps21
  go_wp2_with fail
  obtain ⟨u, hu, hx, B0, B1⟩ := boxes2 w #[.slice a0 l0 c0, .slice a1 l1 c1] 35 #[.slice none 0 0, .slice none 0 0] 35
  rw [← hu]
  clear hu
  refine wp_region_plan 7 [MP.is (.pointer (some ⟨w.heap.size, 1, none⟩)), MP.is (.slice a1 l1 c1), MP.new u d.Removed, MP.is (.pointer (some ⟨w.heap.size, 0, none⟩)), MP.is (.slice a0 l0 c0), MP.new2 2 u d.Removed d.Added, MP.new u (invDelta d)] (by kernel_rfl) (by kernel_rfl) (by kernel_rfl) ?_ ?_
  · refine ⟨?_, ?_, ?_, ?_, ?_, ?_, ?_, trivial⟩
    · intro vs w3 hx3 hd K hK
      simp [deps, fillD, dstAt, Region.binds, Act.put] at hd hK ⊢
      go_wp2_with fail
      exact hK _ _ (Ext.refl _) rfl
    · intro vs w3 hx3 hd K hK
      simp [deps, fillD, dstAt, Region.binds, Act.put] at hd hK ⊢
      have e0 : vs 0 = .pointer (some ⟨w.heap.size, 1, none⟩) := by first | exact hd | exact hd.1 | exact hd.2 | exact hd.1.1 | exact hd.2.1 | exact hd.2.2 | exact hd.2.2.1 | exact hd.2.2.2 | exact hd.2.2.2.1 | exact hd.2.2.2.2 | exact hd.2.2.2.2.1 | exact hd.2.2.2.2.2
      simp only [e0] at hK ⊢
      have c0 := (B0.mono hx3).at 1 rfl
      go_wp2_with fail
      exact hK _ _ (Ext.refl _) rfl
    · intro vs w3 hx3 hd K hK
      simp [deps, fillD, dstAt, Region.binds, Act.put] at hd hK ⊢
      have e1 : vs 1 = .slice a1 l1 c1 := by first | exact hd | exact hd.1 | exact hd.2 | exact hd.1.1 | exact hd.2.1 | exact hd.2.2 | exact hd.2.2.1 | exact hd.2.2.2 | exact hd.2.2.2.1 | exact hd.2.2.2.2 | exact hd.2.2.2.2.1 | exact hd.2.2.2.2.2
      simp only [e1] at hK ⊢
      go_wp2_with fail
      refine (copyPairs w3 (h1.mono (hx.trans hx3)) (by unfold sizDelta sizPairS at hz; omega)).mono ?_
      rintro e w4 ⟨v, rfl, hN, hx4⟩
      go_wp2_with fail
      exact hK _ _ hx4 (hN.old hx3)
    · intro vs w3 hx3 hd K hK
      simp [deps, fillD, dstAt, Region.binds, Act.put] at hd hK ⊢
      go_wp2_with fail
      exact hK _ _ (Ext.refl _) rfl
    · intro vs w3 hx3 hd K hK
      simp [deps, fillD, dstAt, Region.binds, Act.put] at hd hK ⊢
      have e3 : vs 3 = .pointer (some ⟨w.heap.size, 0, none⟩) := by first | exact hd | exact hd.1 | exact hd.2 | exact hd.1.1 | exact hd.2.1 | exact hd.2.2 | exact hd.2.2.1 | exact hd.2.2.2 | exact hd.2.2.2.1 | exact hd.2.2.2.2 | exact hd.2.2.2.2.1 | exact hd.2.2.2.2.2
      simp only [e3] at hK ⊢
      have c0 := (B0.mono hx3).at 0 rfl
      go_wp2_with fail
      exact hK _ _ (Ext.refl _) rfl
    · intro vs w3 hx3 hd K hK
      simp [deps, fillD, dstAt, Region.binds, Act.put] at hd hK ⊢
      have e4 : vs 4 = .slice a0 l0 c0 := by first | exact hd | exact hd.1 | exact hd.2 | exact hd.1.1 | exact hd.2.1 | exact hd.2.2 | exact hd.2.2.1 | exact hd.2.2.2 | exact hd.2.2.2.1 | exact hd.2.2.2.2 | exact hd.2.2.2.2.1 | exact hd.2.2.2.2.2
      have f2 : (MP.new u d.Removed).p vs (vs 2) w3 := by first | exact hd | exact hd.1 | exact hd.2 | exact hd.1.1 | exact hd.2.1 | exact hd.2.2 | exact hd.2.2.1 | exact hd.2.2.2 | exact hd.2.2.2.1 | exact hd.2.2.2.2 | exact hd.2.2.2.2.1 | exact hd.2.2.2.2.2
      simp only [e4] at hK ⊢
      go_wp2_with fail
      refine (copyPairs w3 (h0.mono (hx.trans hx3)) (by unfold sizDelta sizPairS at hz; omega)).mono ?_
      rintro e w4 ⟨v, rfl, hN, hx4⟩
      go_wp2_with fail
      exact hK _ _ hx4 ⟨_, _, hx3.size, f2.pc.mono hx4, hN.pc⟩
    · intro vs w3 hx3 hd K hK
      simp [deps, fillD, dstAt, Region.binds, Act.put] at hd hK ⊢
      have f2 : (MP.new u d.Removed).p vs (vs 2) w3 := by first | exact hd | exact hd.1 | exact hd.2 | exact hd.1.1 | exact hd.2.1 | exact hd.2.2 | exact hd.2.2.1 | exact hd.2.2.2 | exact hd.2.2.2.1 | exact hd.2.2.2.2 | exact hd.2.2.2.2.1 | exact hd.2.2.2.2.2
      have f5 : (MP.new2 2 u d.Removed d.Added).p vs (vs 5) w3 := by first | exact hd | exact hd.1 | exact hd.2 | exact hd.1.1 | exact hd.2.1 | exact hd.2.2 | exact hd.2.2.1 | exact hd.2.2.2 | exact hd.2.2.2.1 | exact hd.2.2.2.2 | exact hd.2.2.2.2.1 | exact hd.2.2.2.2.2
      obtain ⟨m, n, lm, g0, g1⟩ := f5
      obtain ⟨xa, xl, xc, e2, -⟩ := g0.choose_spec.1.sl
      obtain ⟨ya, yl, yc, e5, -⟩ := g1.choose_spec.1.sl
      rw [e2] at g0
      rw [e5] at g1
      simp only [e2, e5] at hK ⊢
      go_wp2_with fail
      exact hK _ _ (Ext.refl _) (joinNewDelta (x := invDelta d) g0 g1 (Nat.le_refl _) (Nat.le_refl _) lm)
  intro vs w1 hx1 hd
  have hN : New u w1 (vs 6) (invDelta d) := hd 6 (by omega)
  obtain ⟨G, hv⟩ := hN.vl
  obtain ⟨xa, xl, xc, G0, ya, yl, yc, G1, ev, -⟩ := hv.ofTDelta
  clear hv
  rw [ev] at hN
  simp [fillD, dstAt, Act.put, List.range_succ, ev]
  clear hd
  have lB := B1.lt
  have hxx := hx.trans hx1
  have B1 := B1.mono hx1
  have e0 := B1.at 0 rfl
  have e1 := B1.at 1 rfl
  have t0 := B1.thaw 0
  have t1 := B1.thaw 1
  go_wp2_with fail
  clear e0 e1 t0 t1
  have hN2 := ((hN.set (p := ⟨w.heap.size + 1, 0, none⟩) lB (.slice xa xl xc)).set (p := ⟨w.heap.size + 1, 1, none⟩) lB (.slice ya yl yc)).old hx
  have hx2 := (hxx.setCell (p := ⟨w.heap.size + 1, 0, none⟩) (by simp) (.slice xa xl xc)).setCell (p := ⟨w.heap.size + 1, 1, none⟩) (by simp) (.slice ya yl yc)
  have B1 := (B1.set 0 (.slice xa xl xc)).set 1 (.slice ya yl yc)
  have r0 := B1.at 0 rfl
  have r1 := B1.at 1 rfl
  exact bodyPost_ret (v := .agg #[.slice xa xl xc, .slice ya yl yc]) (by simp [results, Try.results21, go_sem, *]) rfl ⟨_, rfl, hN2, hx2⟩
theorem specInvertDelta (d : TDelta) (w : World) {a0 : Option Addr} {l0 c0 : Nat} {F0 : List Nat} (h0 : Sl w a0 l0 c0 d.Added F0) {a1 : Option Addr} {l1 c1 : Nat} {F1 : List Nat} (h1 : Sl w a1 l1 c1 d.Removed F1) (hz : sizDelta d ≤ 1048576) :
    Calls Try.prog 20 #[.agg #[.slice a0 l0 c0, .slice a1 l1 c1]] w fun e w' => ∃ v, e = .returned v ∧ New w w' v (invDelta d) ∧ Ext w w' := by
  obtain ⟨i0, hi, hz0, hz1, hz2⟩ := info_parts Try.infoPair
  have n0 := h0.hlen
  have n1 := h1.hlen
  unfold sizDelta sizPairS at hz
  go_enter Try.func20, Try.ntmps20
  go_wp2_with fail
  obtain ⟨u, hu, hx, B0, B1⟩ := boxes2 w #[.slice a0 l0 c0, .slice a1 l1 c1] 35 #[.slice none 0 0, .slice none 0 0] 35
  rw [← hu]
  clear hu
  refine wp_region_plan 9 [MP.lit, MP.is (.pointer (some ⟨w.heap.size, 1, none⟩)), MP.is (.slice a1 l1 c1), MP.new u d.Removed, MP.lit, MP.is (.pointer (some ⟨w.heap.size, 0, none⟩)), MP.is (.slice a0 l0 c0), MP.new2 3 u d.Removed d.Added, MP.new u (invDelta d)] (by kernel_rfl) (by kernel_rfl) (by kernel_rfl) ?_ ?_
  · refine ⟨?_, ?_, ?_, ?_, ?_, ?_, ?_, ?_, ?_, trivial⟩
    · intro vs w3 hx3 hd K hK
      simp [deps, fillD, dstAt, Region.binds, Act.put] at hd hK ⊢
      go_wp2_with fail
      exact hK _ _ ((Ext.refl _).alloc _) ⟨_, rfl⟩
    · intro vs w3 hx3 hd K hK
      simp [deps, fillD, dstAt, Region.binds, Act.put] at hd hK ⊢
      go_wp2_with fail
      exact hK _ _ (Ext.refl _) rfl
    · intro vs w3 hx3 hd K hK
      simp [deps, fillD, dstAt, Region.binds, Act.put] at hd hK ⊢
      have e1 : vs 1 = .pointer (some ⟨w.heap.size, 1, none⟩) := by first | exact hd | exact hd.1 | exact hd.2 | exact hd.1.1 | exact hd.2.1 | exact hd.2.2 | exact hd.2.2.1 | exact hd.2.2.2 | exact hd.2.2.2.1 | exact hd.2.2.2.2 | exact hd.2.2.2.2.1 | exact hd.2.2.2.2.2
      simp only [e1] at hK ⊢
      have c0 := (B0.mono hx3).at 1 rfl
      go_wp2_with fail
      exact hK _ _ (Ext.refl _) rfl
    · intro vs w3 hx3 hd K hK
      simp [deps, fillD, dstAt, Region.binds, Act.put] at hd hK ⊢
      have e2 : vs 2 = .slice a1 l1 c1 := by first | exact hd | exact hd.1 | exact hd.2 | exact hd.1.1 | exact hd.2.1 | exact hd.2.2 | exact hd.2.2.1 | exact hd.2.2.2 | exact hd.2.2.2.1 | exact hd.2.2.2.2 | exact hd.2.2.2.2.1 | exact hd.2.2.2.2.2
      have f0 : (MP.lit).p vs (vs 0) w3 := by first | exact hd | exact hd.1 | exact hd.2 | exact hd.1.1 | exact hd.2.1 | exact hd.2.2 | exact hd.2.2.1 | exact hd.2.2.2 | exact hd.2.2.2.1 | exact hd.2.2.2.2 | exact hd.2.2.2.2.1 | exact hd.2.2.2.2.2
      simp only [e2] at hK ⊢
      obtain ⟨la, el⟩ := f0
      simp only [el] at hK ⊢
      go_wp2_with (at_builtin; refine wpList_append_copy (α := TPair) rfl _ _ 33 rfl 61 i0 (.agg #[.int .i64 0, .int .i64 0]) 16 Try.underlying33 hi hz0 hz1 hz2 rfl rfl rfl (h1.mono (hx.trans hx3)) (by omega) ?_)
      intro v w4 hN hx4
      go_wp2_with fail
      exact hK _ _ hx4 (hN.old hx3)
    · intro vs w3 hx3 hd K hK
      simp [deps, fillD, dstAt, Region.binds, Act.put] at hd hK ⊢
      go_wp2_with fail
      exact hK _ _ ((Ext.refl _).alloc _) ⟨_, rfl⟩
    · intro vs w3 hx3 hd K hK
      simp [deps, fillD, dstAt, Region.binds, Act.put] at hd hK ⊢
      go_wp2_with fail
      exact hK _ _ (Ext.refl _) rfl
    · intro vs w3 hx3 hd K hK
      simp [deps, fillD, dstAt, Region.binds, Act.put] at hd hK ⊢
      have e5 : vs 5 = .pointer (some ⟨w.heap.size, 0, none⟩) := by first | exact hd | exact hd.1 | exact hd.2 | exact hd.1.1 | exact hd.2.1 | exact hd.2.2 | exact hd.2.2.1 | exact hd.2.2.2 | exact hd.2.2.2.1 | exact hd.2.2.2.2 | exact hd.2.2.2.2.1 | exact hd.2.2.2.2.2
      simp only [e5] at hK ⊢
      have c0 := (B0.mono hx3).at 0 rfl
      go_wp2_with fail
      exact hK _ _ (Ext.refl _) rfl
    · intro vs w3 hx3 hd K hK
      simp [deps, fillD, dstAt, Region.binds, Act.put] at hd hK ⊢
      have e6 : vs 6 = .slice a0 l0 c0 := by first | exact hd | exact hd.1 | exact hd.2 | exact hd.1.1 | exact hd.2.1 | exact hd.2.2 | exact hd.2.2.1 | exact hd.2.2.2 | exact hd.2.2.2.1 | exact hd.2.2.2.2 | exact hd.2.2.2.2.1 | exact hd.2.2.2.2.2
      have f3 : (MP.new u d.Removed).p vs (vs 3) w3 := by first | exact hd | exact hd.1 | exact hd.2 | exact hd.1.1 | exact hd.2.1 | exact hd.2.2 | exact hd.2.2.1 | exact hd.2.2.2 | exact hd.2.2.2.1 | exact hd.2.2.2.2 | exact hd.2.2.2.2.1 | exact hd.2.2.2.2.2
      have f4 : (MP.lit).p vs (vs 4) w3 := by first | exact hd | exact hd.1 | exact hd.2 | exact hd.1.1 | exact hd.2.1 | exact hd.2.2 | exact hd.2.2.1 | exact hd.2.2.2 | exact hd.2.2.2.1 | exact hd.2.2.2.2 | exact hd.2.2.2.2.1 | exact hd.2.2.2.2.2
      simp only [e6] at hK ⊢
      obtain ⟨la, el⟩ := f4
      simp only [el] at hK ⊢
      go_wp2_with (at_builtin; refine wpList_append_copy (α := TPair) rfl _ _ 33 rfl 61 i0 (.agg #[.int .i64 0, .int .i64 0]) 16 Try.underlying33 hi hz0 hz1 hz2 rfl rfl rfl (h0.mono (hx.trans hx3)) (by omega) ?_)
      intro v w4 hN hx4
      go_wp2_with fail
      exact hK _ _ hx4 ⟨_, _, hx3.size, f3.pc.mono hx4, hN.pc⟩
    · intro vs w3 hx3 hd K hK
      simp [deps, fillD, dstAt, Region.binds, Act.put] at hd hK ⊢
      have f3 : (MP.new u d.Removed).p vs (vs 3) w3 := by first | exact hd | exact hd.1 | exact hd.2 | exact hd.1.1 | exact hd.2.1 | exact hd.2.2 | exact hd.2.2.1 | exact hd.2.2.2 | exact hd.2.2.2.1 | exact hd.2.2.2.2 | exact hd.2.2.2.2.1 | exact hd.2.2.2.2.2
      have f7 : (MP.new2 3 u d.Removed d.Added).p vs (vs 7) w3 := by first | exact hd | exact hd.1 | exact hd.2 | exact hd.1.1 | exact hd.2.1 | exact hd.2.2 | exact hd.2.2.1 | exact hd.2.2.2 | exact hd.2.2.2.1 | exact hd.2.2.2.2 | exact hd.2.2.2.2.1 | exact hd.2.2.2.2.2
      obtain ⟨m, n, lm, g0, g1⟩ := f7
      obtain ⟨xa, xl, xc, e2, -⟩ := g0.choose_spec.1.sl
      obtain ⟨ya, yl, yc, e5, -⟩ := g1.choose_spec.1.sl
      rw [e2] at g0
      rw [e5] at g1
      simp only [e2, e5] at hK ⊢
      go_wp2_with fail
      exact hK _ _ (Ext.refl _) (joinNewDelta (x := invDelta d) g0 g1 (Nat.le_refl _) (Nat.le_refl _) lm)
  intro vs w1 hx1 hd
  have hN : New u w1 (vs 8) (invDelta d) := hd 8 (by omega)
  obtain ⟨G, hv⟩ := hN.vl
  obtain ⟨xa, xl, xc, G0, ya, yl, yc, G1, ev, -⟩ := hv.ofTDelta
  clear hv
  rw [ev] at hN
  simp [fillD, dstAt, Act.put, List.range_succ, ev]
  clear hd
  have lB := B1.lt
  have hxx := hx.trans hx1
  have B1 := B1.mono hx1
  have e0 := B1.at 0 rfl
  have e1 := B1.at 1 rfl
  have t0 := B1.thaw 0
  have t1 := B1.thaw 1
  go_wp2_with fail
  clear e0 e1 t0 t1
  have hN2 := ((hN.set (p := ⟨w.heap.size + 1, 0, none⟩) lB (.slice xa xl xc)).set (p := ⟨w.heap.size + 1, 1, none⟩) lB (.slice ya yl yc)).old hx
  have hx2 := (hxx.setCell (p := ⟨w.heap.size + 1, 0, none⟩) (by simp) (.slice xa xl xc)).setCell (p := ⟨w.heap.size + 1, 1, none⟩) (by simp) (.slice ya yl yc)
  have B1 := (B1.set 0 (.slice xa xl xc)).set 1 (.slice ya yl yc)
  have r0 := B1.at 0 rfl
  have r1 := B1.at 1 rfl
  exact bodyPost_ret (v := .agg #[.slice xa xl xc, .slice ya yl yc]) (by simp [results, Try.results20, go_sem, *]) rfl ⟨_, rfl, hN2, hx2⟩
end Go.Proofs.Ytindeldjbofanaa
