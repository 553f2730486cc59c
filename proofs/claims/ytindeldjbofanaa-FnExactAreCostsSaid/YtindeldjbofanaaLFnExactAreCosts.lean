/- FnExactAreCosts: the law returns true for every input, and its arguments read as they did. No condition. -/
import Derived.Test.YtindeldjbofanaaS25a
import Derived.Test.YtindeldjbofanaaOpen
namespace Go.Proofs.Ytindeldjbofanaa
open Go.RowKit Go.Q Go.Q.Rd Go.ChangeShapes Go.WideShapes Go.ChangeAt
open Go.ChangeMaps (open_string shut_string)
set_option maxHeartbeats 4000000 in
set_option maxRecDepth 10000 in
theorem lawFnExactAreCosts {aCosts : List Int} (w : World) {p0a0 : Option Addr} {p0l0 p0c0 : Nat} {p0F0 : List Nat} (p0h0 : Sl w p0a0 p0l0 p0c0 aCosts p0F0) :
    Calls Try.prog 4 #[.slice p0a0 p0l0 p0c0] w fun e w' => e = .returned (.bool true) ∧ Ext w w' := by
  have hx := Ext.refl w
  have p0le := p0h0.le
  by_cases qlen0 : 1048576 < (p0l0 : Int)
  case pos =>
    go_enter Try.func4, Try.ntmps4
    go_wp2
    go_ret
    exact ⟨rfl, by repeat (first | exact Ext.refl _ | refine Ext.alloc ?_ _)⟩
  have zaCosts : sizIntS aCosts ≤ 1048576 := by have := p0h0.hlen; unfold sizIntS; omega
  have ZaCosts := hid zaCosts; clear zaCosts
  go_enter Try.func4, Try.ntmps4
  go_wp2_with fail
  refine (toIntS w p0h0 ZaCosts.out).mono ?_
  rintro e w1 ⟨v, rfl, hN, hx1⟩
  obtain ⟨r0_F, hv⟩ := hN.vl
  clear hN
  obtain ⟨r0_a0, r0_l0, r0_c0, rfl, r0_h0⟩ := hv.sl
  clear hv
  replace p0h0 := p0h0.mono hx1
  replace hx := hx.trans hx1
  clear hx1
  go_wp2_with fail
  refine (specAreCosts  w1 r0_h0 ).mono ?_
  rintro e w2 ⟨rfl, hx1⟩
  replace p0h0 := p0h0.mono hx1
  replace r0_h0 := r0_h0.mono hx1
  replace hx := hx.trans hx1
  clear hx1
  go_wp2_with fail
  refine (toIntS w2 p0h0 ZaCosts.out).mono ?_
  rintro e w3 ⟨v, rfl, hN, hx1⟩
  obtain ⟨r2_F, hv⟩ := hN.vl
  clear hN
  obtain ⟨r2_a0, r2_l0, r2_c0, rfl, r2_h0⟩ := hv.sl
  clear hv
  replace p0h0 := p0h0.mono hx1
  replace r0_h0 := r0_h0.mono hx1
  replace hx := hx.trans hx1
  clear hx1
  go_wp2_with fail
  refine (implAreCosts  w3 r2_h0 ).mono ?_
  rintro e w4 ⟨rfl, hx1⟩
  replace p0h0 := p0h0.mono hx1
  replace r0_h0 := r0_h0.mono hx1
  replace r2_h0 := r2_h0.mono hx1
  replace hx := hx.trans hx1
  clear hx1
  go_wp2_with fail
  refine (toIntS w4 p0h0 ZaCosts.out).mono ?_
  rintro e w5 ⟨v, rfl, hN, hx1⟩
  obtain ⟨r4_F, hv⟩ := hN.vl
  clear hN
  obtain ⟨r4_a0, r4_l0, r4_c0, rfl, r4_h0⟩ := hv.sl
  clear hv
  replace p0h0 := p0h0.mono hx1
  replace r0_h0 := r0_h0.mono hx1
  replace r2_h0 := r2_h0.mono hx1
  replace hx := hx.trans hx1
  clear hx1
  go_wp2_with fail
  refine (eqIntS w5 r2_h0 r4_h0).mono ?_
  rintro e w6 ⟨he, hx1⟩
  obtain rfl : e = .returned (.bool true) := he.trans (ret_bool (by simp))
  replace p0h0 := p0h0.mono hx1
  replace r0_h0 := r0_h0.mono hx1
  replace r2_h0 := r2_h0.mono hx1
  replace r4_h0 := r4_h0.mono hx1
  replace hx := hx.trans hx1
  clear hx1
  go_wp2
  go_ret
  exact ⟨rfl, hx⟩
namespace LFnExactAreCosts
theorem opensInt : Opens Int Try.prog 3 := Go.Q.opensInt Try.underlying3
theorem opensIntS : Opens (List Int) Try.prog 24 := opensSlice Try.underlying24 (by kernel_rfl) (by decide) opensInt
theorem ownFnExactAreCosts : ownKnob Try.prog.godebug = none := by kernel_rfl
theorem laidOutFnExactAreCosts : laidOutB Try.prog = true := by kernel_rfl
set_option maxRecDepth 100000 in
theorem liftedFnExactAreCosts (os : Os) (started : os.Started) (H : Type) (enc : TypeId × Value → H) :
    ReturnsInHanded {} Try.checked os 4 .any (Rows.fnExactAreCostsSpec.pre6 enc Try.prog Try.f4 Rows.fnExactAreCostsRow.domain false) (Rows.fnExactAreCostsSpec.post enc Try.prog Try.f4 false true false false) := by
  refine returnsInHanded_of_change (C := Try.checked) ownFnExactAreCosts started (by kernel_rfl) Try.func4
    (ChangeSpec.witness6 (enc := enc) (C := Try.checked) false ⟨#[], #[.slice none 0 0], []⟩ 8 (by kernel_rfl) (by kernel_rfl) (by kernel_rfl) (by kernel_rfl)) ?_
  intro W base args ds gs before hval0 hW hcnd _
  have hval : ∀ (j : Nat) t v, Try.f4.params[j]? = some t → args[j]? = some v → Value.okWide Try.prog W .any base t v := hval0
  have hW' := hW
  obtain ⟨p, q, hA0, hV, rfl, hfz, hnd⟩ := hW
  have hA : DataW.TrodAll enc Try.prog W 0 (fun _ => true) true Try.f4.params.toList args.toList ds p := hA0
  rw [Try.params4] at hA hval
  obtain ⟨v0, vs0, d0, ds0, p0, q0, hargs, rfl, rfl, h0, r0⟩ := trodAll_cons hA
  obtain ⟨rfl, rfl, rfl⟩ := trodAll_nil r0
  obtain rfl : args = #[v0] := by cases args; simp_all
  obtain ⟨rfl, rfl⟩ := trodVars_none hV
  obtain ⟨a0, len0, cap0, rfl⟩ := okWide_slice Try.underlying24 (hval 0 24 v0 rfl rfl)
  have k0 := h0
  have lt0 : ∀ x ∈ p0, x.block < W.heap.size := by obtain ⟨m, hm⟩ := k0; exact DataW.trod_lt m _ _ _ hm
  obtain ⟨x0, F0, a0', l0', c0', he0, hs0⟩ := Opens.vl opensIntS h0
  simp [Value.cells] at he0
  obtain ⟨rfl, rfl, rfl⟩ := he0
  clear hA0 hval0
  refine (lawFnExactAreCosts  W hs0).mono fun e W' ⟨he, bel⟩ => ?_
  subst he
  exact ⟨_, rfl, _, _, _, [], _, [], hW', trodAll_mk1 (shut_bool Try.underlying4 _), (trodAll_cons_mk (Below.trod laidOutFnExactAreCosts (by kernel_rfl) (of_decide_eq_true (by kernel_rfl)) k0 bel lt0) trodAll_mk0), rfl, Below.frame bel _, fun h => by cases h⟩
/-- The statement. -/
theorem provedFnExactAreCosts : Rows.FnExactAreCostsSaid :=
  OpenClaim.holds_of_wide 4 Try.f4 rfl rfl rfl rfl rfl rfl rfl ⟨rfl, rfl, rfl, rfl, rfl⟩ rfl rfl rfl rfl rfl (by kernel_rfl) Try.func4 (by kernel_rfl)
    (of_decide_eq_true (by kernel_rfl)) (by unfold Func.isWrapper; first | (rw [if_pos (by decide +kernel)]; kernel_rfl) | (rw [if_neg (by decide +kernel)]; exact ⟨rfl, rfl⟩))
    (fun os started H enc _ => liftedFnExactAreCosts os started H enc)
#print axioms provedFnExactAreCosts
end LFnExactAreCosts
end Go.Proofs.Ytindeldjbofanaa
