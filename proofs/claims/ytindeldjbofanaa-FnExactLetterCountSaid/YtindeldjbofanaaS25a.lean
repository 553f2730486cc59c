/- The checksum of a record; the lists of costs: both texts compute one function. -/
import Derived.Test.YtindeldjbofanaaTy
namespace Go.Q
def ck (l : List UInt8) : Int := l.foldl (fun n c => (257 * n + (c.toNat : Int) + 1) % 9973) 1
theorem ck_snoc (l : List UInt8) (c : UInt8) : ck (l ++ [c]) = (257 * ck l + (c.toNat : Int) + 1) % 9973 := by
  simp [ck]
theorem ck_lo (l : List UInt8) : 0 ≤ ck l := by
  rcases List.eq_nil_or_concat l with rfl | ⟨l, c, rfl⟩
  · decide
  · rw [List.concat_eq_append, ck_snoc]; omega
theorem ck_hi (l : List UInt8) : ck l < 9973 := by
  rcases List.eq_nil_or_concat l with rfl | ⟨l, c, rfl⟩
  · decide
  · rw [List.concat_eq_append, ck_snoc]; omega
theorem take_snoc (s : ByteArray) (k : Nat) (h : k < s.size) : s.data.toList.take (k + 1) = s.data.toList.take k ++ [s[k]] := by
  rw [List.take_succ_eq_append_getElem (by simpa using h)]; rfl
theorem beqLen {n : Nat} {m : Int} (k : Nat) (h : m = k) : ((n : Int) == m) = decide (n = k) := by subst h; rw [Bool.eq_iff_iff]; simp; omega
/-- Between two numbers. -/
def inB (x a b : Int) : Bool := decide (a ≤ x) && decide (x ≤ b)
def costsOk (l : List Int) : Bool := l.all (fun c => inB c 0 9)
def areCosts (l : List Int) : Bool := costsOk l && decide (l.length = 6)
theorem all_drop {α : Type} {p : α → Bool} {l : List α} {k : Nat} {x : α} (h : l[k]? = some x) : (l.drop k).all p = (p x && (l.drop (k + 1)).all p) := by
  obtain ⟨hk, rfl⟩ := List.getElem?_eq_some_iff.1 h
  rw [List.drop_eq_getElem_cons hk, List.all_cons]
end Go.Q
namespace Go.Proofs.Ytindeldjbofanaa
open Go.RowKit Go.Q
set_option maxHeartbeats 400000 in
theorem specChecksum (s : ByteArray) (w : World) (hs : s.size ≤ 1048576) :
    Calls Try.prog 9 #[.string s] w fun e w' => e = .returned (.int .i64 (ck s.data.toList)) ∧ Ext w w' := by
  go_enter Try.func9, Try.ntmps9
  go_wp2
  go_loop [3, 4] (fun n i => ∃ k : Nat, k ≤ s.size ∧ i = .int .i64 k ∧ n = .int .i64 (ck (s.data.toList.take k))) (fun _ i => s.size - (intOf i).toNat)
  case atStart => exact ⟨0, Nat.zero_le _, rfl, rfl⟩
  case round =>
    obtain ⟨k, hk, rfl, rfl⟩ := hrel
    have hd0 := ck_lo (s.data.toList.take k)
    have hd1 := ck_hi (s.data.toList.take k)
    by_cases hlt : k < s.size
    · have hb := s[k].toNat_lt
      have hsn := ck_snoc (s.data.toList.take k) s[k]
      have hts := take_snoc s k hlt
      have HS : Hid (ck (s.data.toList.take (k + 1)) = (257 * ck (s.data.toList.take k) + (s[k].toNat : Int) + 1) % 9973) := by rw [hts]; exact hsn
      clear hsn hts
      go_wp2
      all_goals
        go_round
        case rel => exact ⟨k + 1, by omega, by go_num, by rw [HS.out, Int.mul_comm 257]⟩
        case measure => simp [intOf]; omega
    · go_wp2
      go_ret
      exact ⟨ret_int (by rw [List.take_of_length_le (by simp; omega)]), Ext.refl _⟩
set_option maxHeartbeats 400000 in
theorem implChecksum (s : ByteArray) (w : World) (hs : s.size ≤ 1048576) :
    Calls Try.prog 10 #[.string s] w fun e w' => e = .returned (.int .i64 (ck s.data.toList)) ∧ Ext w w' := by
  go_enter Try.func10, Try.ntmps10
  go_wp2
  go_loop [3, 4] (fun n i => ∃ k : Nat, k ≤ s.size ∧ i = .int .i64 k ∧ n = .int .i64 (ck (s.data.toList.take k))) (fun _ i => s.size - (intOf i).toNat)
  case atStart => exact ⟨0, Nat.zero_le _, rfl, rfl⟩
  case round =>
    obtain ⟨k, hk, rfl, rfl⟩ := hrel
    have hd0 := ck_lo (s.data.toList.take k)
    have hd1 := ck_hi (s.data.toList.take k)
    by_cases hlt : k < s.size
    · have hb := s[k].toNat_lt
      have hsn := ck_snoc (s.data.toList.take k) s[k]
      have hts := take_snoc s k hlt
      have HS : Hid (ck (s.data.toList.take (k + 1)) = (257 * ck (s.data.toList.take k) + (s[k].toNat : Int) + 1) % 9973) := by rw [hts]; exact hsn
      clear hsn hts
      go_wp2
      all_goals
        go_round
        case rel => exact ⟨k + 1, by omega, by go_num, by rw [HS.out]⟩
        case measure => simp [intOf]; omega
    · go_wp2
      go_ret
      exact ⟨ret_int (by rw [List.take_of_length_le (by simp; omega)]), Ext.refl _⟩
theorem implAreCosts {a : Option Addr} {len cap : Nat} {l : List Int} {F : List Nat} (w : World) (h : Sl w a len cap l F) :
    Calls Try.prog 13 #[.slice a len cap] w fun e w' => e = .returned (.bool (areCosts l)) ∧ Ext w w' := by
  have h1 := h.le
  have hlen := hid h.hlen
  go_enter Try.func13, Try.ntmps13
  go_wp2
  go_loop [4, 7] (fun _ i => ∃ k : Nat, k ≤ len ∧ i = .int .i64 k ∧ costsOk l = (l.drop k).all (fun c => inB c 0 9)) (fun _ i => len - (intOf i).toNat)
  case atStart => exact ⟨0, Nat.zero_le _, rfl, rfl⟩
  case round =>
    obtain ⟨k, hk, rfl, ht⟩ := hrel
    have HT := hid ht; clear ht
    by_cases hlt : k < len
    · obtain ⟨b, off, x, rfl, hx, c0⟩ := h.int hlt
      have HD := hid (all_drop (p := fun c => inB c 0 9) hx); clear hx
      by_cases q : 0 ≤ x ∧ x ≤ 9
      case pos =>
        obtain ⟨q0, q1⟩ := q
        go_wp2
        go_round
        case rel => exact ⟨k + 1, by omega, by go_num, by rw [HT.out, HD.out]; simp [inB, q0, q1]⟩
        case measure => simp [intOf]; omega
      case neg =>
        have q2 : inB x 0 9 = false := by simp [inB]; omega
        have Q2 := hid q2; clear q2
        rcases Int.lt_or_le x 0 with q0 | q0
        · go_wp2
          go_ret
          exact ⟨ret_bool (by unfold areCosts; rw [HT.out, HD.out, Q2.out]; rfl), Ext.refl _⟩
        · have q1 : ¬ x ≤ 9 := fun h => q ⟨q0, h⟩
          clear q
          go_wp2
          go_ret
          exact ⟨ret_bool (by unfold areCosts; rw [HT.out, HD.out, Q2.out]; rfl), Ext.refl _⟩
    · go_wp2
      go_ret
      exact ⟨ret_bool (by unfold areCosts; rw [HT.out, List.drop_eq_nil_of_le (by rw [hlen.out]; omega), hlen.out, beqLen (m := 6) 6 rfl]; rfl), Ext.refl _⟩
theorem specAreCosts {a : Option Addr} {len cap : Nat} {l : List Int} {F : List Nat} (w : World) (h : Sl w a len cap l F) :
    Calls Try.prog 11 #[.slice a len cap] w fun e w' => e = .returned (.bool (areCosts l)) ∧ Ext w w' := by
  have h1 := h.le
  have hlen := hid h.hlen
  go_enter Try.func11, Try.ntmps11
  go_wp2
  go_loop [3] (fun i => ∃ k : Nat, k ≤ len ∧ i = .int .i64 k ∧ costsOk l = (l.drop k).all (fun c => inB c 0 9)) (fun i => len - (intOf i).toNat)
  case atStart => exact ⟨0, Nat.zero_le _, rfl, rfl⟩
  case round =>
    obtain ⟨k, hk, rfl, ht⟩ := hrel
    have HT := hid ht; clear ht
    by_cases hlt : k < len
    · obtain ⟨b, off, x, rfl, hx, c0⟩ := h.int hlt
      have HD := hid (all_drop (p := fun c => inB c 0 9) hx); clear hx
      by_cases q : 0 ≤ x ∧ x ≤ 9
      case pos =>
        obtain ⟨q0, q1⟩ := q
        go_wp2
        go_round
        case rel => exact ⟨k + 1, by omega, by go_num, by rw [HT.out, HD.out]; simp [inB, q0, q1]⟩
        case measure => simp [intOf]; omega
      case neg =>
        have q2 : inB x 0 9 = false := by simp [inB]; omega
        have Q2 := hid q2; clear q2
        rcases Int.lt_or_le x 0 with q0 | q0
        · go_wp2
          go_ret
          exact ⟨ret_bool (by unfold areCosts; rw [HT.out, HD.out, Q2.out]; rfl), Ext.refl _⟩
        · have q1 : ¬ x ≤ 9 := fun h => q ⟨q0, h⟩
          clear q
          go_wp2
          go_ret
          exact ⟨ret_bool (by unfold areCosts; rw [HT.out, HD.out, Q2.out]; rfl), Ext.refl _⟩
    · go_wp2
      go_ret
      exact ⟨ret_bool (by unfold areCosts; rw [HT.out, List.drop_eq_nil_of_le (by rw [hlen.out]; omega), hlen.out, beqLen (m := 6) 6 rfl]; rfl), Ext.refl _⟩
end Go.Proofs.Ytindeldjbofanaa
