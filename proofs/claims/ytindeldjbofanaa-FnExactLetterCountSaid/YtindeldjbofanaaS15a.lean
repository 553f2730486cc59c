/- Lists of pairs compared: both texts. -/
import Derived.Test.YtindeldjbofanaaTy
namespace Go.Proofs.Ytindeldjbofanaa
open Go.RowKit Go.Q
theorem specEqualPairs {a a' : Option Addr} {len cap len' cap' : Nat} {l l' : List TPair} {F F' : List Nat} (w : World) (h : Sl w a len cap l F) (h' : Sl w a' len' cap' l' F') :
    Calls Try.prog 34 #[.slice a len cap, .slice a' len' cap'] w fun e w' => e = .returned (.bool (decide (l = l'))) ∧ Ext w w' := by
  have h1 := h.le
  have h2 := h'.le
  by_cases hlen : len = len'
  · subst hlen
    go_enter Try.func34, Try.ntmps34
    go_wp2
    go_loopw [5] (fun i wr => ∃ k : Nat, k ≤ len ∧ i = .int .i64 k ∧ Ext w wr ∧ decide (l = l') = decide (l.drop k = l'.drop k)) (fun i _ => len - (intOf i).toNat)
    case atStart => exact ⟨0, Nat.zero_le _, rfl, Ext.refl _, rfl⟩
    case round =>
      obtain ⟨k, hk, rfl, hx, ht⟩ := hrel
      have HT := hid ht; clear ht
      by_cases hlt : k < len
      · obtain ⟨pb, poff, px, rfl, phx, pd0, pd1⟩ := (h.mono hx).atTPair hlt
        obtain ⟨qb, qoff, qx, rfl, qhx, qd0, qd1⟩ := (h'.mono hx).atTPair hlt
        have HD := hid (drop_dec phx qhx)
        clear phx qhx
        have pd0 := Later.cell pd0
        have pd1 := Later.cell pd1
        have qd0 := Later.cell qd0
        have qd1 := Later.cell qd1
        go_wp2_with fail
        refine wp_region_later (by kernel_rfl) (by kernel_rfl) ?_
        repeat (go_big_quiet_step (fail))
        refine wpQuiet_nil ?_
        rintro _ ⟨y, rfl⟩
        generalize decide (px = qx) = bb at HD ⊢
        cases bb
        · go_wp2
          go_ret
          refine ⟨ret_bool ?_, hx.trans y.2⟩
          rw [HT.out, HD.out]; rfl
        · go_wp2
          go_roundw
          case rel => exact ⟨k + 1, by omega, by go_num, hx.trans y.2, by rw [HT.out, HD.out]; simp⟩
          case measure => simp [intOf]; omega
      · go_wp2
        go_ret
        refine ⟨ret_bool ?_, hx⟩
        rw [HT.out, List.drop_eq_nil_of_le (by have := h.hlen; omega), List.drop_eq_nil_of_le (by have := h'.hlen; omega)]; rfl
  · have hne : decide (l = l') = false := by
      have := h.hlen; have := h'.hlen
      simp; rintro rfl; omega
    rw [hne]
    have hb : ((len : Int) != (len' : Int)) = true := by simp; omega
    go_enter Try.func34, Try.ntmps34
    go_wp2
    go_ret
    exact ⟨rfl, Ext.refl _⟩

theorem implEqualPairs {a a' : Option Addr} {len cap len' cap' : Nat} {l l' : List TPair} {F F' : List Nat} (w : World) (h : Sl w a len cap l F) (h' : Sl w a' len' cap' l' F') :
    Calls Try.prog 36 #[.slice a len cap, .slice a' len' cap'] w fun e w' => e = .returned (.bool (decide (l = l'))) ∧ Ext w w' := by
  go_enter Try.func36, Try.ntmps36
  go_wp2_with fail
  refine (slEqualPair w h h').mono ?_
  rintro e w1 ⟨rfl, hx⟩
  go_wp2
  go_ret
  exact ⟨rfl, hx⟩

theorem specEqualDeltas (x y : TDelta) (w : World) {pa0 : Option Addr} {pl0 pc0 : Nat} {pF0 : List Nat} (ph0 : Sl w pa0 pl0 pc0 x.Added pF0) {pa1 : Option Addr} {pl1 pc1 : Nat} {pF1 : List Nat} (ph1 : Sl w pa1 pl1 pc1 x.Removed pF1)
    {qa0 : Option Addr} {ql0 qc0 : Nat} {qF0 : List Nat} (qh0 : Sl w qa0 ql0 qc0 y.Added qF0) {qa1 : Option Addr} {ql1 qc1 : Nat} {qF1 : List Nat} (qh1 : Sl w qa1 ql1 qc1 y.Removed qF1) :
    Calls Try.prog 16 #[.agg #[.slice pa0 pl0 pc0, .slice pa1 pl1 pc1], .agg #[.slice qa0 ql0 qc0, .slice qa1 ql1 qc1]] w fun e w' => e = .returned (.bool (decide (x = y))) ∧ Ext w w' := by
  rw [TDelta.dec]
  go_enter Try.func16, Try.ntmps16
  go_wp2_with fail
  obtain ⟨u0, hu, hx, B0, B1⟩ := boxes2 w #[.slice pa0 pl0 pc0, .slice pa1 pl1 pc1] 35 #[.slice qa0 ql0 qc0, .slice qa1 ql1 qc1] 35
  rw [← hu]
  clear hu
  refine (specEqualPairs u0 (ph0.mono hx) (qh0.mono hx)).mono ?_
  rintro e w1 ⟨rfl, hx1⟩
  have a0 := (B0.mono hx1).at 1 rfl
  have a1 := (B1.mono hx1).at 1 rfl
  have hx := hx.trans hx1
  clear hx1
  generalize hb : decide (x.Added = y.Added) = b
  have HB := hid hb; clear hb
  cases b
  · go_wp2
    go_ret
    exact ⟨ret_bool (by rw [HB.out]; rfl), hx⟩
  · go_wp2_with fail
    refine (specEqualPairs w1 (ph1.mono hx) (qh1.mono hx)).mono ?_
    rintro e w2 ⟨rfl, hx2⟩
    go_wp2
    go_ret
    exact ⟨ret_bool (by rw [HB.out]; rfl), hx.trans hx2⟩
theorem implEqualDeltas (x y : TDelta) (w : World) {pa0 : Option Addr} {pl0 pc0 : Nat} {pF0 : List Nat} (ph0 : Sl w pa0 pl0 pc0 x.Added pF0) {pa1 : Option Addr} {pl1 pc1 : Nat} {pF1 : List Nat} (ph1 : Sl w pa1 pl1 pc1 x.Removed pF1)
    {qa0 : Option Addr} {ql0 qc0 : Nat} {qF0 : List Nat} (qh0 : Sl w qa0 ql0 qc0 y.Added qF0) {qa1 : Option Addr} {ql1 qc1 : Nat} {qF1 : List Nat} (qh1 : Sl w qa1 ql1 qc1 y.Removed qF1) :
    Calls Try.prog 18 #[.agg #[.slice pa0 pl0 pc0, .slice pa1 pl1 pc1], .agg #[.slice qa0 ql0 qc0, .slice qa1 ql1 qc1]] w fun e w' => e = .returned (.bool (decide (x = y))) ∧ Ext w w' := by
  rw [TDelta.dec]
  go_enter Try.func18, Try.ntmps18
  go_wp2_with fail
  obtain ⟨u0, hu, hx, B0, B1⟩ := boxes2 w #[.slice pa0 pl0 pc0, .slice pa1 pl1 pc1] 35 #[.slice qa0 ql0 qc0, .slice qa1 ql1 qc1] 35
  rw [← hu]
  clear hu
  refine (implEqualPairs u0 (ph0.mono hx) (qh0.mono hx)).mono ?_
  rintro e w1 ⟨rfl, hx1⟩
  have a0 := (B0.mono hx1).at 1 rfl
  have a1 := (B1.mono hx1).at 1 rfl
  have hx := hx.trans hx1
  clear hx1
  generalize hb : decide (x.Added = y.Added) = b
  have HB := hid hb; clear hb
  cases b
  · go_wp2
    go_ret
    exact ⟨ret_bool (by rw [HB.out]; rfl), hx⟩
  · go_wp2_with fail
    refine (implEqualPairs w1 (ph1.mono hx) (qh1.mono hx)).mono ?_
    rintro e w2 ⟨rfl, hx2⟩
    go_wp2
    go_ret
    exact ⟨ret_bool (by rw [HB.out]; rfl), hx.trans hx2⟩
end Go.Proofs.Ytindeldjbofanaa
