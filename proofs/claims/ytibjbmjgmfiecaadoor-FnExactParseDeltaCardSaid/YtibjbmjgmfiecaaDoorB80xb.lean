/- Numbers written out in full and read again; strings cut at a byte; checksums: the plain law. -/
import Derived.Test.YtibjbmjgmfiecaaDoorB75xb
import Derived.Lib.SplitLaws
import Derived.Lib.Atoi
set_option linter.unusedVariables false
set_option linter.unusedSimpArgs false
set_option maxHeartbeats 1000000
set_option maxRecDepth 100000
namespace Go.Q
open Go.D
/-! ### Pieces -/
def splitL (c : UInt8) : List UInt8 → List (List UInt8)
  | [] => [[]]
  | b :: l => if b = c then [] :: splitL c l else (b :: (splitL c l).headD []) :: (splitL c l).tail
theorem splitL_ne (c : UInt8) (l : List UInt8) : splitL c l ≠ [] := by
  cases l with
  | nil => simp [splitL]
  | cons b l => unfold splitL; split <;> simp
theorem splitL_no {c : UInt8} : ∀ {l : List UInt8}, c ∉ l → splitL c l = [l]
  | [], _ => rfl
  | b :: l, h => by
    unfold splitL
    rw [if_neg (fun e => h (by simp [e])), splitL_no fun hm => h (by simp [hm])]
    rfl
theorem splitL_hit {c : UInt8} {r : List UInt8} : ∀ {l : List UInt8}, c ∉ l → splitL c (l ++ c :: r) = l :: splitL c r
  | [], _ => by rw [List.nil_append, splitL, if_pos rfl]
  | b :: l, h => by
    rw [List.cons_append, splitL, if_neg (fun e => h (by simp [e])), splitL_hit fun hm => h (by simp [hm])]
    rfl
theorem splitL_len (c : UInt8) : ∀ l : List UInt8, (splitL c l).length = l.count c + 1
  | [] => rfl
  | b :: l => by
    unfold splitL
    have ih := splitL_len c l
    split
    · rename_i h; subst h; rw [List.length_cons, ih, List.count_cons_self]
    · rename_i h
      rw [List.length_cons, List.length_tail, ih, List.count_cons_of_ne (by simpa using h)]; omega
theorem splitL_join (c : UInt8) : ∀ l : List UInt8, joinL [c] (splitL c l) = l
  | [] => rfl
  | b :: l => by
    have ih := splitL_join c l
    unfold splitL
    obtain ⟨x, r, hx⟩ : ∃ x r, splitL c l = x :: r := by
      cases h : splitL c l with
      | nil => exact absurd h (splitL_ne c l)
      | cons x r => exact ⟨x, r, rfl⟩
    rw [hx] at ih ⊢
    unfold joinL at ih ⊢
    rw [Lib.join_cons] at ih
    split
    · rename_i h; subst h
      rw [Lib.join_cons, ← ih]
      simp [Lib.joinTail]
    · rw [Lib.join_cons]
      simp only [List.headD_cons, List.tail_cons, List.cons_append]
      rw [ih]
theorem cut_step {c b : UInt8} {l : List UInt8} {O : List (List UInt8)} {F i : Nat} (hb : l[i]? = some b) (hi : F ≤ i ∧ i ≤ l.length ∧ c ∉ (l.take i).drop F ∧ O.length ≤ i) (hbe : b = c) (he : splitL c l = O ++ splitL c (l.drop F)) :
    splitL c l = (O ++ [(l.take i).drop F]) ++ splitL c (l.drop (i + 1)) := by
  subst hbe
  have hl := (List.getElem?_eq_some_iff.1 hb).1
  have e : l.drop F = (l.take i).drop F ++ b :: l.drop (i + 1) := by
    conv => lhs; rw [← List.take_append_drop i l]
    rw [List.drop_append, List.length_take, show F - min i l.length = 0 by omega, List.drop_zero, List.drop_eq_getElem_cons hl, (List.getElem?_eq_some_iff.1 hb).2]
  rw [he, e, splitL_hit hi.2.2.1]
  simp
theorem cut_keep {c b : UInt8} {l : List UInt8} {O : List (List UInt8)} {F i : Nat} (hb : l[i]? = some b) (hi : F ≤ i ∧ i ≤ l.length ∧ c ∉ (l.take i).drop F ∧ O.length ≤ i) (hbe : b ≠ c) : c ∉ (l.take (i + 1)).drop F := by
  have hl := (List.getElem?_eq_some_iff.1 hb).1
  rw [List.take_add_one, hb, List.drop_append, List.length_take]
  intro h
  rcases List.mem_append.1 h with h | h
  · exact hi.2.2.1 h
  · rw [show F - min i l.length = 0 by omega] at h
    simp at h
    exact hbe h.symm
/-- The kit's pieces are these. -/
theorem split_eq (c : UInt8) : ∀ (k : Nat) (s : ByteArray), s.data.toList.count c = k → Lib.splitB (bs [c]) 0 k s = (splitL c s.data.toList).map bs := by
  intro k
  induction k with
  | zero =>
    intro s h
    rw [Lib.splitB_zero, splitL_no (List.count_eq_zero.1 h)]
    simp [bs]
  | succ k ih =>
    intro s h
    have hmem : c ∈ s.data.toList := List.count_pos_iff.1 (by omega)
    rcases Lib.indexB_cases s (bs [c]) with h1 | ⟨i, h1, h2⟩
    · exfalso
      have h3 : Lib.index s.data.toList [c] = -1 := by
        have e : Lib.indexB s (bs [c]) = Lib.index s.data.toList (bs [c]).data.toList := rfl
        rw [bs_list] at e; rw [← e]; exact h1
      rw [Lib.index_one] at h3
      obtain ⟨j, hj⟩ := List.getElem?_of_mem hmem
      exact Lib.indexByte_none h3 j hj
    · have h3 : Lib.index s.data.toList [c] = i := by
        have e : Lib.indexB s (bs [c]) = Lib.index s.data.toList (bs [c]).data.toList := rfl
        rw [bs_list] at e; rw [← e]; exact h1
      rw [Lib.index_one] at h3
      obtain ⟨h4, h5⟩ := Lib.indexByte_some h3
      have hi := (List.getElem?_eq_some_iff.1 h4).1
      have hsp : s.data.toList = s.data.toList.take i ++ c :: s.data.toList.drop (i + 1) := by
        conv => lhs; rw [← List.take_append_drop i s.data.toList]
        rw [List.drop_eq_getElem_cons hi, (List.getElem?_eq_some_iff.1 h4).2]
      have hno : c ∉ s.data.toList.take i := fun hm => by
        obtain ⟨j, hj⟩ := List.getElem?_of_mem hm
        have hj2 := (List.getElem?_eq_some_iff.1 hj).1
        rw [List.length_take] at hj2
        rw [List.getElem?_take_of_lt (by omega)] at hj
        exact h5 j (by omega) hj
      rw [Lib.splitB_hit _ _ _ _ _ h1, Nat.add_zero, bs_size, List.length_singleton]
      have e1 : s.extract 0 i = bs (s.data.toList.take i) := by
        apply ByteArray.ext
        rw [ByteArray.data_extract]
        apply Array.ext'
        simp [bs]
      have e2 : (s.extract (i + 1) s.size).data.toList = s.data.toList.drop (i + 1) := by
        rw [ByteArray.data_extract, Array.toList_extract, List.extract_eq_take_drop]
        rw [List.take_of_length_le (by rw [List.length_drop, Array.length_toList]; exact Nat.le_refl _)]
      have hc : (s.data.toList.drop (i + 1)).count c = k := by
        rw [hsp, List.count_append, List.count_cons_self, List.count_eq_zero.2 hno] at h
        omega
      rw [ih _ (by rw [e2]; exact hc), e2, e1]
      conv => rhs; rw [hsp, splitL_hit hno]
      rfl
/-! ### Parts of strings -/
theorem bs_get (l : List UInt8) (n : Nat) : (bs l)[n]? = l[n]? := by
  show (bs l).data[n]? = l[n]?
  simp [bs]
theorem bs_extract (l : List UInt8) (n m : Nat) : (bs l).extract n m = bs ((l.take m).drop n) := by
  apply ByteArray.ext
  rw [ByteArray.data_extract]
  apply Array.ext'
  rw [Array.toList_extract, List.extract_eq_take_drop, bs_list]
  simp only [bs]
  rw [List.drop_take]
theorem bs_of (s : ByteArray) : bs s.data.toList = s := by
  apply ByteArray.ext
  simp [bs]
end Go.Q
