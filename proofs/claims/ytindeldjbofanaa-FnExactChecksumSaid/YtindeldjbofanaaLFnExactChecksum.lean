/- FnExactChecksum: the law returns true for every input, and its arguments read as they did. No condition. -/
import Derived.Test.YtindeldjbofanaaS25a
import Derived.Test.YtindeldjbofanaaOpen
namespace Go.Proofs.Ytindeldjbofanaa
open Go.RowKit Go.Q Go.Q.Rd Go.ChangeShapes Go.WideShapes Go.ChangeAt
open Go.ChangeMaps (open_string shut_string)
set_option maxHeartbeats 4000000 in
set_option maxRecDepth 10000 in
theorem lawFnExactChecksum (aS : ByteArray) (w : World) (p0hs : aS.size ≤ maxLen) :
    Calls Try.prog 3 #[.string aS] w fun e w' => e = .returned (.bool true) ∧ Ext w w' := by
  have hx := Ext.refl w
  by_cases qlen0 : 1048576 < (aS.size : Int)
  case pos =>
    unfold maxLen at *
    go_enter Try.func3, Try.ntmps3
    go_wp2
    go_ret
    exact ⟨rfl, by repeat (first | exact Ext.refl _ | refine Ext.alloc ?_ _)⟩
  have zaS := hid (show aS.size ≤ 1048576 by omega)
  go_enter Try.func3, Try.ntmps3
  go_wp2_with fail
  refine (specChecksum aS w  zaS.out).mono ?_
  rintro e w1 ⟨rfl, hx1⟩
  replace hx := hx.trans hx1
  clear hx1
  go_wp2_with fail
  refine (implChecksum aS w1  zaS.out).mono ?_
  rintro e w2 ⟨rfl, hx1⟩
  replace hx := hx.trans hx1
  clear hx1
  go_wp2
  go_ret
  exact ⟨rfl, hx⟩
namespace LFnExactChecksum

theorem ownFnExactChecksum : ownKnob Try.prog.godebug = none := by kernel_rfl
theorem laidOutFnExactChecksum : laidOutB Try.prog = true := by kernel_rfl
set_option maxRecDepth 100000 in
theorem liftedFnExactChecksum (os : Os) (started : os.Started) (H : Type) (enc : TypeId × Value → H) :
    ReturnsInHanded {} Try.checked os 3 .any (Rows.fnExactChecksumSpec.pre6 enc Try.prog Try.f3 Rows.fnExactChecksumRow.domain false) (Rows.fnExactChecksumSpec.post enc Try.prog Try.f3 false true false false) := by
  refine returnsInHanded_of_change (C := Try.checked) ownFnExactChecksum started (by kernel_rfl) Try.func3
    (ChangeSpec.witness6 (enc := enc) (C := Try.checked) false ⟨#[], #[.string .empty], []⟩ 8 (by kernel_rfl) (by kernel_rfl) (by kernel_rfl) (by kernel_rfl)) ?_
  intro W base args ds gs before hval0 hW hcnd _
  have hval : ∀ (j : Nat) t v, Try.f3.params[j]? = some t → args[j]? = some v → Value.okWide Try.prog W .any base t v := hval0
  have hW' := hW
  obtain ⟨p, q, hA0, hV, rfl, hfz, hnd⟩ := hW
  have hA : DataW.TrodAll enc Try.prog W 0 (fun _ => true) true Try.f3.params.toList args.toList ds p := hA0
  rw [Try.params3] at hA hval
  obtain ⟨v0, vs0, d0, ds0, p0, q0, hargs, rfl, rfl, h0, r0⟩ := trodAll_cons hA
  obtain ⟨rfl, rfl, rfl⟩ := trodAll_nil r0
  obtain rfl : args = #[v0] := by cases args; simp_all
  obtain ⟨rfl, rfl⟩ := trodVars_none hV
  obtain ⟨x0, rfl, rfl, rfl, hs0⟩ := open_string Try.underlying9 (hval 0 9 v0 rfl rfl) h0
  clear hA0 hval0
  refine (lawFnExactChecksum x0 W hs0).mono fun e W' ⟨he, bel⟩ => ?_
  subst he
  exact ⟨_, rfl, _, _, _, [], _, [], hW', trodAll_mk1 (shut_bool Try.underlying4 _), (trodAll_cons_mk (shut_string Try.underlying9 hs0) trodAll_mk0), rfl, Below.frame bel _, fun h => by cases h⟩
/-- The statement. -/
theorem provedFnExactChecksum : Rows.FnExactChecksumSaid :=
  OpenClaim.holds_of_wide 3 Try.f3 rfl rfl rfl rfl rfl rfl rfl ⟨rfl, rfl, rfl, rfl, rfl⟩ rfl rfl rfl rfl rfl (by kernel_rfl) Try.func3 (by kernel_rfl)
    (of_decide_eq_true (by kernel_rfl)) (by unfold Func.isWrapper; first | (rw [if_pos (by decide +kernel)]; kernel_rfl) | (rw [if_neg (by decide +kernel)]; exact ⟨rfl, rfl⟩))
    (fun os started H enc _ => liftedFnExactChecksum os started H enc)
#print axioms provedFnExactChecksum
end LFnExactChecksum
end Go.Proofs.Ytindeldjbofanaa
