/- Tokens: how many operands they take; both texts. -/
import Derived.Test.YtindeldjbofanaaS15b
namespace Go.Q
def zerT (t : TToken) : Bool := decide (t.Letter = 0) && decide (t.Low = 0) && decide (t.High = 0)
def arity (t : TToken) : Int :=
  if t.Kind = 1 ∨ t.Kind = 2 then (if zerT t then 0 else -1)
  else if t.Kind = 3 then (if inB t.Letter 0 8 && decide (t.Low = 0) && decide (t.High = 0) then 0 else -1)
  else if t.Kind = 4 ∨ t.Kind = 5 then (if zerT t then 2 else -1)
  else if t.Kind = 6 then (if zerT t then 1 else -1)
  else if t.Kind = 7 then (if decide (t.Letter = 0) && inB t.High 1 3 && inB t.Low 0 t.High then 1 else -1)
  else -1
def tokOk (t : TToken) : Bool := decide (0 ≤ arity t)
theorem tokOk_zero (k a b c : Int) (hk : k = 1 ∨ k = 2 ∨ k = 4 ∨ k = 5 ∨ k = 6) : tokOk ⟨k, a, b, c⟩ = (decide (a = 0) && decide (b = 0) && decide (c = 0)) := by
  unfold tokOk arity zerT
  generalize (decide (a = 0) && decide (b = 0) && decide (c = 0)) = z
  rcases hk with rfl | rfl | rfl | rfl | rfl <;> cases z <;> simp
end Go.Q
namespace Go.Proofs.Ytindeldjbofanaa
open Go.RowKit Go.Q
theorem specl2Letter (n : Int) (w : World) : Calls Try.prog 67 #[.int .i64 n] w fun e w' => e = .returned (.bool (inB n 0 8)) ∧ Ext w w' := by
  go_enter Try.func67, Try.ntmps67
  go_wp2_with fail
  refine (specl1In n 0 8 w).mono ?_
  rintro e w1 ⟨rfl, hx1⟩
  go_wp2
  go_ret
  exact ⟨rfl, hx1⟩
theorem implisLetter (n : Int) (w : World) : Calls Try.prog 70 #[.int .i64 n] w fun e w' => e = .returned (.bool (inB n 0 8)) ∧ Ext w w' := by
  go_enter Try.func70, Try.ntmps70
  go_wp2_with fail
  refine (implwithin n 0 8 w).mono ?_
  rintro e w1 ⟨rfl, hx1⟩
  go_wp2
  go_ret
  exact ⟨rfl, hx1⟩
theorem zer_cases (a b c : Int) : (a ≠ 0 ∨ a = 0 ∧ b ≠ 0 ∨ a = 0 ∧ b = 0 ∧ c ≠ 0 ∨ a = 0 ∧ b = 0 ∧ c = 0) := by omega
set_option maxHeartbeats 1000000 in
theorem specl8Arity (t : TToken) (w : World) : Calls Try.prog 65 #[.agg #[.int .i64 t.Kind, .int .i64 t.Letter, .int .i64 t.Low, .int .i64 t.High]] w fun e w' => e = .returned (.int .i64 (arity t)) ∧ Ext w w' := by
  obtain ⟨k, a, b, c⟩ := t
  simp only
  by_cases k1 : k = 1 ∨ k = 2 ∨ k = 4 ∨ k = 5 ∨ k = 6
  case pos =>
    rcases zer_cases a b c with q | ⟨rfl, q⟩ | ⟨rfl, rfl, q⟩ | ⟨rfl, rfl, rfl⟩
    all_goals rcases k1 with rfl | rfl | rfl | rfl | rfl
    all_goals
      go_enter Try.func65, Try.ntmps65
      go_wp2
      go_ret
      refine ⟨ret_int (by simp [arity, zerT, *]), by repeat (first | exact Ext.refl _ | refine Ext.alloc ?_ _)⟩
  by_cases k3 : k = 3
  case pos =>
    subst k3
    clear k1
    go_enter Try.func65, Try.ntmps65
    go_wp2_with fail
    obtain ⟨u, hu, hx, B0⟩ := boxes1 w #[.int .i64 3, .int .i64 a, .int .i64 b, .int .i64 c] 66
    rw [← hu]
    clear hu
    refine (specl2Letter a u).mono ?_
    rintro e w1 ⟨rfl, hx1⟩
    replace B0 := B0.mono hx1
    replace hx := hx.trans hx1
    have a1 := B0.at 1 rfl
    have a2 := B0.at 2 rfl
    have a3 := B0.at 3 rfl
    generalize hq : inB a 0 8 = q
    have Q := hid hq
    clear hq
    cases q
    case false =>
      go_wp2
      go_ret
      exact ⟨ret_int (by simp [arity, Q.out]), hx⟩
    by_cases b0 : b = 0
    case neg =>
      go_wp2
      go_ret
      exact ⟨ret_int (by simp [arity, b0]), hx⟩
    subst b0
    by_cases c0 : c = 0
    case neg =>
      go_wp2
      go_ret
      exact ⟨ret_int (by simp [arity, c0]), hx⟩
    subst c0
    go_wp2
    go_ret
    exact ⟨ret_int (by simp [arity, Q.out]), hx⟩
  by_cases k7 : k = 7
  case pos =>
    subst k7
    clear k1 k3
    by_cases a0 : a = 0
    case neg =>
      go_enter Try.func65, Try.ntmps65
      go_wp2
      go_ret
      exact ⟨ret_int (by simp [arity, a0]), by repeat (first | exact Ext.refl _ | refine Ext.alloc ?_ _)⟩
    subst a0
    go_enter Try.func65, Try.ntmps65
    go_wp2_with fail
    obtain ⟨u, hu, hx, B0⟩ := boxes1 w #[.int .i64 7, .int .i64 0, .int .i64 b, .int .i64 c] 66
    rw [← hu]
    clear hu
    refine (specl1In c 1 3 u).mono ?_
    rintro e w1 ⟨rfl, hx1⟩
    replace B0 := B0.mono hx1
    replace hx := hx.trans hx1
    clear hx1
    have a2 := B0.at 2 rfl
    have a3 := B0.at 3 rfl
    generalize hq : inB c 1 3 = q
    have Q := hid hq
    clear hq
    cases q
    case false =>
      go_wp2
      go_ret
      exact ⟨ret_int (by simp [arity, Q.out]), hx⟩
    go_wp2_with fail
    refine (specl1In b 0 c w1).mono ?_
    rintro e w2 ⟨rfl, hx1⟩
    replace hx := hx.trans hx1
    clear hx1
    generalize hq : inB b 0 c = q
    have Q2 := hid hq
    clear hq
    cases q
    case false =>
      go_wp2
      go_ret
      exact ⟨ret_int (by simp [arity, Q.out, Q2.out]), hx⟩
    go_wp2
    go_ret
    exact ⟨ret_int (by simp [arity, Q.out, Q2.out]), hx⟩
  obtain ⟨n1, n2, n4, n5, n6⟩ : k ≠ 1 ∧ k ≠ 2 ∧ k ≠ 4 ∧ k ≠ 5 ∧ k ≠ 6 := by omega
  go_enter Try.func65, Try.ntmps65
  go_wp2
  go_ret
  exact ⟨ret_int (by simp [arity, *]), by repeat (first | exact Ext.refl _ | refine Ext.alloc ?_ _)⟩
set_option maxHeartbeats 1000000 in
theorem impltokenOk (t : TToken) (w : World) : Calls Try.prog 68 #[.agg #[.int .i64 t.Kind, .int .i64 t.Letter, .int .i64 t.Low, .int .i64 t.High]] w fun e w' => e = .returned (.bool (tokOk t)) ∧ Ext w w' := by
  obtain ⟨k, a, b, c⟩ := t
  simp only
  by_cases k1 : k = 1 ∨ k = 2 ∨ k = 4 ∨ k = 5 ∨ k = 6
  case pos =>
    rw [tokOk_zero k a b c k1]
    rcases k1 with rfl | rfl | rfl | rfl | rfl
    all_goals
      go_enter Try.func68, Try.ntmps68
      go_wp2
    all_goals go_ret
    all_goals refine ⟨ret_bool (by simp [*]), by repeat (first | exact Ext.refl _ | refine Ext.alloc ?_ _)⟩
  by_cases k3 : k = 3
  case pos =>
    subst k3
    clear k1
    go_enter Try.func68, Try.ntmps68
    go_wp2_with fail
    obtain ⟨u, hu, hx, B0⟩ := boxes1 w #[.int .i64 3, .int .i64 a, .int .i64 b, .int .i64 c] 66
    rw [← hu]
    clear hu
    refine (implisLetter a u).mono ?_
    rintro e w1 ⟨rfl, hx1⟩
    replace B0 := B0.mono hx1
    replace hx := hx.trans hx1
    have a2 := B0.at 2 rfl
    have a3 := B0.at 3 rfl
    generalize hq : inB a 0 8 = q
    have Q := hid hq
    clear hq
    cases q
    case false =>
      go_wp2
      go_ret
      exact ⟨ret_bool (by simp [tokOk, arity, Q.out]), hx⟩
    by_cases b0 : b = 0
    case neg =>
      go_wp2
      go_ret
      exact ⟨ret_bool (by simp [tokOk, arity, b0]), hx⟩
    subst b0
    by_cases c0 : c = 0
    case neg =>
      go_wp2
      go_ret
      exact ⟨ret_bool (by simp [tokOk, arity, c0]), hx⟩
    subst c0
    go_wp2
    go_ret
    exact ⟨ret_bool (by simp [tokOk, arity, Q.out]), hx⟩
  by_cases k7 : k = 7
  case pos =>
    subst k7
    clear k1 k3
    by_cases a0 : a = 0
    case neg =>
      go_enter Try.func68, Try.ntmps68
      go_wp2
      go_ret
      exact ⟨ret_bool (by simp [tokOk, arity, a0]), by repeat (first | exact Ext.refl _ | refine Ext.alloc ?_ _)⟩
    subst a0
    go_enter Try.func68, Try.ntmps68
    go_wp2_with fail
    obtain ⟨u, hu, hx, B0⟩ := boxes1 w #[.int .i64 7, .int .i64 0, .int .i64 b, .int .i64 c] 66
    rw [← hu]
    clear hu
    refine (implwithin b 0 c u).mono ?_
    rintro e w1 ⟨rfl, hx1⟩
    replace B0 := B0.mono hx1
    replace hx := hx.trans hx1
    clear hx1
    have a3 := B0.at 3 rfl
    generalize hq : inB b 0 c = q
    have Q := hid hq
    clear hq
    cases q
    case false =>
      go_wp2
      go_ret
      exact ⟨ret_bool (by simp [tokOk, arity, Q.out]), hx⟩
    go_wp2_with fail
    refine (implwithin c 1 3 w1).mono ?_
    rintro e w2 ⟨rfl, hx1⟩
    replace hx := hx.trans hx1
    clear hx1
    generalize hq : inB c 1 3 = q
    have Q2 := hid hq
    clear hq
    cases q
    case false =>
      go_wp2
      go_ret
      exact ⟨ret_bool (by simp [tokOk, arity, Q.out, Q2.out]), hx⟩
    go_wp2
    go_ret
    exact ⟨ret_bool (by simp [tokOk, arity, Q.out, Q2.out]), hx⟩
  obtain ⟨n1, n2, n4, n5, n6⟩ : k ≠ 1 ∧ k ≠ 2 ∧ k ≠ 4 ∧ k ≠ 5 ∧ k ≠ 6 := by omega
  go_enter Try.func68, Try.ntmps68
  go_wp2
  go_ret
  exact ⟨ret_bool (by simp [tokOk, arity, *]), by repeat (first | exact Ext.refl _ | refine Ext.alloc ?_ _)⟩
end Go.Proofs.Ytindeldjbofanaa
