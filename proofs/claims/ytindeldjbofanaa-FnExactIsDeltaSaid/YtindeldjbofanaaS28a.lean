/- Deltas: what is one; both texts. -/
import Derived.Test.YtindeldjbofanaaS15b
namespace Go.Q
def hasP (l : List TPair) (p : TPair) : Bool := l.any fun x => decide (x = p)
def commonP (a b : List TPair) : Bool := a.any fun p => hasP b p
def isDelta (d : TDelta) : Bool := arePairs d.Added && arePairs d.Removed && !commonP d.Added d.Removed
end Go.Q
namespace Go.Proofs.Ytindeldjbofanaa
open Go.RowKit Go.Q
theorem commonClosure {a : Option Addr} {len cap : Nat} {l : List TPair} {F : List Nat} (p : TPair) (bb : Nat) (w : World) (h : Sl w a len cap l F) (hB : Box w bb [.slice a len cap] 33) :
    Calls Try.prog 56 #[.agg #[.int .i64 p.From, .int .i64 p.To], .pointer (some ⟨bb, 0, none⟩)] w fun e w' => e = .returned (.bool (hasP l p)) ∧ Ext w w' := by
  have hlt := hB.lt
  go_enter Try.func56, Try.ntmps56
  have b0 := (hB.alloc (.cells #[.int .i64 p.From, .int .i64 p.To] 61)).at 0 rfl
  go_wp2_with fail
  obtain ⟨u, hu, hx0, B0⟩ := boxes1 w #[.int .i64 p.From, .int .i64 p.To] 61
  rw [← hu]
  clear hu b0
  refine (slContainsPair p u (h.mono hx0)).mono ?_
  rintro e w1 ⟨rfl, hx1⟩
  go_wp2
  go_ret
  exact ⟨rfl, hx0.trans hx1⟩
theorem slIndexFuncCommon {a a' : Option Addr} {len cap len' cap' : Nat} {l l' : List TPair} {F F' : List Nat} (bb : Nat) (w : World) (h : Sl w a len cap l F) (h' : Sl w a' len' cap' l' F') (hB : Box w bb [.slice a' len' cap'] 33) :
    Calls Try.prog 63 #[.slice a len cap, .func (.func 56) #[] #[.pointer (some ⟨bb, 0, none⟩)]] w fun e w' => (∃ n : Int, e = .returned (.int .i64 n) ∧ decide (0 ≤ n) = commonP l l') ∧ Ext w w' := by
  have h1 := h.le
  go_enter Try.func63, Try.ntmps63
  go_wp2
  go_loopw [8] (fun i wr => ∃ k : Nat, k ≤ len ∧ i = .int .i64 k ∧ Ext w wr ∧ commonP l l' = (l.drop k).any fun p => hasP l' p) (fun i _ => len - (intOf i).toNat)
  case atStart => exact ⟨0, Nat.zero_le _, rfl, Ext.refl _, rfl⟩
  case round =>
    obtain ⟨k, hk, rfl, hx, ht⟩ := hrel
    have HT := hid ht; clear ht
    by_cases hlt : k < len
    · obtain ⟨b, off, x, rfl, hxk, c0, c1⟩ := (h.mono hx).atTPair hlt
      have HD := hid (any_drop (p := fun x => hasP l' x) hxk); clear hxk
      go_wp2_with fail
      refine (commonClosure x bb wr (h'.mono hx) (hB.mono hx)).mono ?_
      rintro e w1 ⟨rfl, hx1⟩
      generalize hasP l' x = bv at HD ⊢
      cases bv
      · go_wp2
        go_roundw
        case rel => exact ⟨k + 1, by omega, by go_num, hx.trans hx1, by rw [HT.out, HD.out]; simp⟩
        case measure => simp [intOf]; omega
      · go_wp2
        go_ret
        exact ⟨⟨_, rfl, by rw [HT.out, HD.out]; simp⟩, hx.trans hx1⟩
    · go_wp2
      go_ret
      exact ⟨⟨_, rfl, by rw [HT.out, List.drop_eq_nil_of_le (by rw [h.hlen]; omega)]; rfl⟩, hx⟩
theorem implcommonPair {a a' : Option Addr} {len cap len' cap' : Nat} {l l' : List TPair} {F F' : List Nat} (w : World) (h : Sl w a len cap l F) (h' : Sl w a' len' cap' l' F') :
    Calls Try.prog 44 #[.slice a len cap, .slice a' len' cap'] w fun e w' => e = .returned (.bool (commonP l l')) ∧ Ext w w' := by
  go_enter Try.func44, Try.ntmps44
  go_wp2_with fail
  obtain ⟨u, hu, hx0, B0⟩ := boxes1 w #[.slice a' len' cap'] 33
  rw [← hu]
  clear hu
  have hc : Calls Try.prog 55 #[.slice a len cap, .func (.func 56) #[] #[.pointer (some ⟨w.heap.size, 0, none⟩)]] u fun e w' => e = .returned (.bool (commonP l l')) ∧ Ext u w' := by
    go_enter Try.func55, Try.ntmps55
    go_wp2_with fail
    refine (slIndexFuncCommon w.heap.size u (h.mono hx0) (h'.mono hx0) B0).mono ?_
    rintro e w1 ⟨⟨n, rfl, hn⟩, hx1⟩
    have HN := hid hn; clear hn
    go_wp2
    go_ret
    exact ⟨ret_bool HN.out, hx1⟩
  refine hc.mono ?_
  rintro e w1 ⟨rfl, hx1⟩
  go_wp2
  go_ret
  exact ⟨rfl, hx0.trans hx1⟩
theorem implIsDelta (x : TDelta) (w : World) {a0 : Option Addr} {l0 c0 : Nat} {F0 : List Nat} (h0 : Sl w a0 l0 c0 x.Added F0) {a1 : Option Addr} {l1 c1 : Nat} {F1 : List Nat} (h1 : Sl w a1 l1 c1 x.Removed F1) :
    Calls Try.prog 25 #[.agg #[.slice a0 l0 c0, .slice a1 l1 c1]] w fun e w' => e = .returned (.bool (isDelta x)) ∧ Ext w w' := by
  go_enter Try.func25, Try.ntmps25
  go_wp2_with fail
  obtain ⟨u, hu, hx, B0⟩ := boxes1 w #[.slice a0 l0 c0, .slice a1 l1 c1] 35
  rw [← hu]
  clear hu
  refine (implArePairs u (h0.mono hx)).mono ?_
  rintro e w1 ⟨rfl, hx1⟩
  replace hx := hx.trans hx1
  replace B0 := B0.mono hx1
  clear hx1
  have b0 := B0.at 0 rfl
  have b1 := B0.at 1 rfl
  generalize hv : arePairs x.Added = bv
  have HV := hid hv; clear hv
  cases bv
  · go_wp2
    go_ret
    exact ⟨ret_bool (by unfold isDelta; rw [HV.out]; rfl), hx⟩
  go_wp2_with fail
  refine (implArePairs w1 (h1.mono hx)).mono ?_
  rintro e w2 ⟨rfl, hx1⟩
  replace hx := hx.trans hx1
  replace B0 := B0.mono hx1
  clear hx1 b0 b1
  have b0 := B0.at 0 rfl
  have b1 := B0.at 1 rfl
  generalize hv : arePairs x.Removed = bv
  have HV2 := hid hv; clear hv
  cases bv
  · go_wp2
    go_ret
    exact ⟨ret_bool (by unfold isDelta; rw [HV.out, HV2.out]; rfl), hx⟩
  go_wp2_with fail
  refine (implcommonPair w2 (h0.mono hx) (h1.mono hx)).mono ?_
  rintro e w3 ⟨rfl, hx1⟩
  go_wp2
  go_ret
  exact ⟨ret_bool (by unfold isDelta; rw [HV.out, HV2.out]; rfl), hx.trans hx1⟩
theorem specIsDelta (x : TDelta) (w : World) {a0 : Option Addr} {l0 c0 : Nat} {F0 : List Nat} (h0 : Sl w a0 l0 c0 x.Added F0) {a1 : Option Addr} {l1 c1 : Nat} {F1 : List Nat} (h1 : Sl w a1 l1 c1 x.Removed F1) :
    Calls Try.prog 24 #[.agg #[.slice a0 l0 c0, .slice a1 l1 c1]] w fun e w' => e = .returned (.bool (isDelta x)) ∧ Ext w w' := by
  have hl := h0.le
  go_enter Try.func24, Try.ntmps24
  go_wp2
  obtain ⟨u, hu, hx0, B0⟩ := boxes1 w #[.slice a0 l0 c0, .slice a1 l1 c1] 35
  rw [← hu]
  clear hu
  go_loopw [3] (fun i wr => ∃ k : Nat, k ≤ l0 ∧ i = .int .i64 k ∧ Ext u wr ∧ commonP x.Added x.Removed = (x.Added.drop k).any fun p => hasP x.Removed p) (fun i _ => l0 - (intOf i).toNat)
  case atStart => exact ⟨0, Nat.zero_le _, rfl, Ext.refl _, rfl⟩
  case round =>
    obtain ⟨k, hk, rfl, hx, ht⟩ := hrel
    have HT := hid ht; clear ht
    have b0 := (B0.mono hx).at 0 rfl
    have b1 := (B0.mono hx).at 1 rfl
    by_cases hlt : k < l0
    · obtain ⟨b, off, p, rfl, hxk, d0, d1⟩ := (h0.mono (hx0.trans hx)).atTPair hlt
      have HD := hid (any_drop (p := fun x_1 => hasP x.Removed x_1) hxk); clear hxk
      have e0 := Later.cell b0
      have e1 := Later.cell b1
      have d0 := Later.cell d0
      have d1 := Later.cell d1
      go_wp2_with fail
      refine wp_region_later (by kernel_rfl) (by kernel_rfl) ?_
      repeat (go_big_quiet_step (with_reducible exact later_bool (specl15Has _ _ (h1.mono (hx0.trans (hx.trans (Later.ext _))))) rfl))
      refine wpQuiet_nil ?_
      rintro _ ⟨y, rfl⟩
      have hh : (x.Removed.any fun x => decide (x = p)) = hasP x.Removed p := rfl
      rw [hh]; clear hh
      generalize hasP x.Removed p = bv at HD ⊢
      cases bv
      · go_wp2
        go_roundw
        case rel => exact ⟨k + 1, by omega, by go_num, hx.trans y.2, by rw [HT.out, HD.out]; simp⟩
        case measure => simp [intOf]; omega
      · go_wp2
        go_ret
        exact ⟨ret_bool (by unfold isDelta; rw [HT.out, HD.out]; simp), (hx0.trans hx).trans y.2⟩
    · have hc := hid (show commonP x.Added x.Removed = false by rw [HT.out, List.drop_eq_nil_of_le (by rw [h0.hlen]; omega)]; rfl)
      go_wp2_with fail
      refine (specArePairs wr (h0.mono (hx0.trans hx))).mono ?_
      rintro e w1 ⟨rfl, hx1⟩
      have b0 := (B0.mono (hx.trans hx1)).at 1 rfl
      generalize hv : arePairs x.Added = bv
      have HV := hid hv; clear hv
      cases bv
      · go_wp2
        go_ret
        exact ⟨ret_bool (by unfold isDelta; rw [HV.out]; rfl), (hx0.trans hx).trans hx1⟩
      go_wp2_with fail
      refine (specArePairs w1 (h1.mono ((hx0.trans hx).trans hx1))).mono ?_
      rintro e w2 ⟨rfl, hx2⟩
      go_wp2
      go_ret
      exact ⟨ret_bool (by unfold isDelta; rw [HV.out, hc.out]; simp), ((hx0.trans hx).trans hx1).trans hx2⟩
end Go.Proofs.Ytindeldjbofanaa
