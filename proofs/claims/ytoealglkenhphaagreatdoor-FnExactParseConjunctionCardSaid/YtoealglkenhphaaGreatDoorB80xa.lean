/- Numbers written out in full and read again; strings cut at a byte; checksums: the plain law. -/
import Derived.Test.YtoealglkenhphaaGreatDoorB74xa
import Derived.Lib.SplitLaws
import Derived.Lib.Atoi
set_option linter.unusedVariables false
set_option linter.unusedSimpArgs false
set_option maxHeartbeats 1000000
set_option maxRecDepth 100000
namespace Go.Q
open Go.D
/-! ### Numbers -/
def itoS (n : Int) : List UInt8 := Lib.itoa n
theorem itoS_num {n : Int} (h : 0 ≤ n) : itoS n = numS n := by unfold itoS numS Lib.itoa; rw [if_neg (by omega)]
theorem dig_le : ∀ (k u : Nat), 1 ≤ k → (u < 10 ^ k ↔ (Lib.decDigits u).length ≤ k)
  | 0, _, h => by omega
  | k + 1, u, _ => by
    by_cases h : u < 10
    · rw [dig_small h]
      have : 10 ^ (k + 1) = 10 ^ k * 10 := by rw [Nat.pow_succ]
      have h1 : 1 ≤ 10 ^ k := Nat.one_le_pow _ _ (by decide)
      simp; omega
    · rw [dig_more (by omega), List.length_append, List.length_singleton, Nat.pow_succ]
      by_cases hk : k = 0
      · subst hk
        rw [Nat.pow_zero]
        have h1 : 1 ≤ (Lib.decDigits (u / 10)).length := by
          by_cases h2 : u / 10 < 10
          · rw [dig_small h2]; simp
          · rw [dig_more (by omega)]; simp
        omega
      · have := dig_le k (u / 10) (by omega)
        omega
theorem dig_ne (u : Nat) : Lib.decDigits u ≠ [] := by
  by_cases h : u < 10
  · rw [dig_small h]; simp
  · rw [dig_more (by omega)]; simp
def isDg (b : UInt8) : Bool := decide (48 ≤ b.toNat) && decide (b.toNat ≤ 57)
def accN (l : List UInt8) : Nat := l.foldl (fun n b => if isDg b = true then n * 10 + (b.toNat - 48) else n) 0
def cntD (l : List UInt8) : Nat := l.countP isDg
theorem accN_snoc (l : List UInt8) (b : UInt8) : accN (l ++ [b]) = if isDg b = true then accN l * 10 + (b.toNat - 48) else accN l := by unfold accN; rw [List.foldl_append]; rfl
theorem dg_of {d : Nat} (h : d < 10) : isDg (UInt8.ofNat (48 + d)) = true ∧ (UInt8.ofNat (48 + d)).toNat - 48 = d := by
  have e : (UInt8.ofNat (48 + d)).toNat = 48 + d := by rw [UInt8.toNat_ofNat']; omega
  unfold isDg
  rw [e]
  constructor
  · simp; omega
  · omega
theorem dig_all : ∀ (k u : Nat), u < k → (Lib.decDigits u).all isDg = true
  | 0, _, h => by omega
  | k + 1, u, h => by
    by_cases h1 : u < 10
    · rw [dig_small h1]; simpa using (dg_of h1).1
    · rw [dig_more (by omega), List.all_append, dig_all k (u / 10) (by omega)]
      simpa using (dg_of (Nat.mod_lt u (by decide))).1
theorem accN_dig : ∀ (k u : Nat), u < k → accN (Lib.decDigits u) = u
  | 0, _, h => by omega
  | k + 1, u, h => by
    by_cases h1 : u < 10
    · rw [dig_small h1]
      have := accN_snoc [] (UInt8.ofNat (48 + u))
      rw [List.nil_append, if_pos (dg_of h1).1, (dg_of h1).2] at this
      rw [this]; simp [accN]
    · have hm := dg_of (Nat.mod_lt u (show 0 < 10 by decide))
      rw [dig_more (by omega), accN_snoc, accN_dig k (u / 10) (by omega), if_pos hm.1, hm.2]
      omega
theorem cntD_dig (u : Nat) : cntD (Lib.decDigits u) = (Lib.decDigits u).length := by
  unfold cntD
  rw [List.countP_eq_length]
  exact List.all_eq_true.1 (dig_all (u + 1) u (by omega))
theorem dig_head {u : Nat} : (Lib.decDigits u).head? ≠ some 45 := by
  intro h
  have := List.all_eq_true.1 (dig_all (u + 1) u (by omega)) 45 (List.mem_of_mem_head? h)
  exact absurd this (by decide)
def sgnN (l : List UInt8) : Int := if l.head? = some 45 then -(accN l : Int) else accN l
theorem sgn_itoS (n : Int) : sgnN (itoS n) = n ∧ cntD (itoS n) = (Lib.decDigits n.natAbs).length := by
  unfold sgnN itoS Lib.itoa
  by_cases h : n < 0
  · rw [if_pos h]
    have e1 : accN (45 :: Lib.decDigits n.natAbs) = accN (Lib.decDigits n.natAbs) := by
      unfold accN
      rw [List.foldl_cons, if_neg (by decide)]
    have e2 : cntD (45 :: Lib.decDigits n.natAbs) = cntD (Lib.decDigits n.natAbs) := by
      unfold cntD
      rw [List.countP_cons_of_neg (by decide)]
    rw [List.head?_cons, if_pos rfl, e1, e2, accN_dig (n.natAbs + 1) _ (by omega), cntD_dig]
    exact ⟨by omega, rfl⟩
  · rw [if_neg h, if_neg dig_head, accN_dig (n.toNat + 1) _ (by omega), cntD_dig]
    exact ⟨by omega, by rw [show n.natAbs = n.toNat by omega]⟩
/-- What is read, as the text of the reference has it. -/
def parseI (l : List UInt8) : Int × Bool := if cntD l ≤ 9 ∧ l.length ≤ 10 ∧ itoS (sgnN l) = l then (sgnN l, true) else (0, false)
theorem parseI_of {l : List UInt8} {n : Int} (h : itoS n = l) : parseI l = if -999999999 ≤ n ∧ n ≤ 999999999 then (n, true) else (0, false) := by
  obtain ⟨h1, h2⟩ := sgn_itoS n
  rw [h] at h1 h2
  have h3 := dig_le 9 n.natAbs (by decide)
  unfold parseI
  rw [h1, h2]
  by_cases hb : -999999999 ≤ n ∧ n ≤ 999999999
  · have h4 : (Lib.decDigits n.natAbs).length ≤ 9 := h3.1 (by omega)
    have h5 : l.length ≤ 10 := by
      rw [← h]
      unfold itoS Lib.itoa
      split
      · rw [List.length_cons]; omega
      · rw [show n.toNat = n.natAbs by omega]; omega
    rw [if_pos ⟨h4, h5, h⟩, if_pos hb]
  · rw [if_neg (fun hh => hb (by have := h3.2 hh.1; omega)), if_neg hb]
theorem parseI_no {l : List UInt8} (h : ∀ n, itoS n ≠ l) : parseI l = (0, false) := by
  unfold parseI
  rw [if_neg (fun hh => h _ hh.2.2)]
theorem parseI_get {l : List UInt8} {n : Int} (h : parseI l = (n, true)) : itoS n = l ∧ -999999999 ≤ n ∧ n ≤ 999999999 := by
  unfold parseI at h
  split at h
  · rename_i hc
    obtain ⟨h1, h2, h3⟩ := hc
    cases h
    refine ⟨h3, ?_⟩
    have h4 := (sgn_itoS (sgnN l)).2
    rw [h3] at h4
    have h5 := (dig_le 9 (sgnN l).natAbs (by decide)).2 (by omega)
    omega
  · cases h
/-! ### Pieces -/
def splitL (c : UInt8) : List UInt8 → List (List UInt8)
  | [] => [[]]
  | b :: l => if b = c then [] :: splitL c l else (b :: (splitL c l).headD []) :: (splitL c l).tail
theorem splitL_ne (c : UInt8) (l : List UInt8) : splitL c l ≠ [] := by
  cases l with
  | nil => simp [splitL]
  | cons b l => unfold splitL; split <;> simp
theorem splitL_no {c : UInt8} : ∀ {l : List UInt8}, c ∉ l → splitL c l = [l]
  | [], _ => rfl
  | b :: l, h => by
    unfold splitL
    rw [if_neg (fun e => h (by simp [e])), splitL_no fun hm => h (by simp [hm])]
    rfl
theorem splitL_hit {c : UInt8} {r : List UInt8} : ∀ {l : List UInt8}, c ∉ l → splitL c (l ++ c :: r) = l :: splitL c r
  | [], _ => by rw [List.nil_append, splitL, if_pos rfl]
  | b :: l, h => by
    rw [List.cons_append, splitL, if_neg (fun e => h (by simp [e])), splitL_hit fun hm => h (by simp [hm])]
    rfl
theorem splitL_len (c : UInt8) : ∀ l : List UInt8, (splitL c l).length = l.count c + 1
  | [] => rfl
  | b :: l => by
    unfold splitL
    have ih := splitL_len c l
    split
    · rename_i h; subst h; rw [List.length_cons, ih, List.count_cons_self]
    · rename_i h
      rw [List.length_cons, List.length_tail, ih, List.count_cons_of_ne (by simpa using h)]; omega
theorem splitL_join (c : UInt8) : ∀ l : List UInt8, joinL [c] (splitL c l) = l
  | [] => rfl
  | b :: l => by
    have ih := splitL_join c l
    unfold splitL
    obtain ⟨x, r, hx⟩ : ∃ x r, splitL c l = x :: r := by
      cases h : splitL c l with
      | nil => exact absurd h (splitL_ne c l)
      | cons x r => exact ⟨x, r, rfl⟩
    rw [hx] at ih ⊢
    unfold joinL at ih ⊢
    rw [Lib.join_cons] at ih
    split
    · rename_i h; subst h
      rw [Lib.join_cons, ← ih]
      simp [Lib.joinTail]
    · rw [Lib.join_cons]
      simp only [List.headD_cons, List.tail_cons, List.cons_append]
      rw [ih]
theorem splitL_mem {c : UInt8} : ∀ {l x : List UInt8}, x ∈ splitL c l → c ∉ x ∧ x.length ≤ l.length
  | [], x, h => by
    simp [splitL] at h
    subst h; simp
  | b :: l, x, h => by
    unfold splitL at h
    split at h
    · rcases List.mem_cons.1 h with rfl | h
      · simp
      · have := splitL_mem h
        exact ⟨this.1, by simp; omega⟩
    · rename_i hb
      obtain ⟨y, r, hx⟩ : ∃ x r, splitL c l = x :: r := by
        cases h' : splitL c l with
        | nil => exact absurd h' (splitL_ne c l)
        | cons x r => exact ⟨x, r, rfl⟩
      rw [hx] at h
      rcases List.mem_cons.1 h with rfl | h
      · have := splitL_mem (c := c) (l := l) (x := y) (by rw [hx]; simp)
        refine ⟨fun hm => ?_, by simp; exact this.2⟩
        rcases List.mem_cons.1 hm with e | hm
        · exact hb e.symm
        · exact this.1 hm
      · have := splitL_mem (c := c) (l := l) (x := x) (by rw [hx]; simp; exact .inr (by simpa using h))
        exact ⟨this.1, by simp; omega⟩
theorem cut_step {c b : UInt8} {l : List UInt8} {O : List (List UInt8)} {F i : Nat} (hb : l[i]? = some b) (hi : F ≤ i ∧ i ≤ l.length ∧ c ∉ (l.take i).drop F ∧ O.length ≤ i) (hbe : b = c) (he : splitL c l = O ++ splitL c (l.drop F)) :
    splitL c l = (O ++ [(l.take i).drop F]) ++ splitL c (l.drop (i + 1)) := by
  subst hbe
  have hl := (List.getElem?_eq_some_iff.1 hb).1
  have e : l.drop F = (l.take i).drop F ++ b :: l.drop (i + 1) := by
    conv => lhs; rw [← List.take_append_drop i l]
    rw [List.drop_append, List.length_take, show F - min i l.length = 0 by omega, List.drop_zero, List.drop_eq_getElem_cons hl, (List.getElem?_eq_some_iff.1 hb).2]
  rw [he, e, splitL_hit hi.2.2.1]
  simp
theorem cut_keep {c b : UInt8} {l : List UInt8} {O : List (List UInt8)} {F i : Nat} (hb : l[i]? = some b) (hi : F ≤ i ∧ i ≤ l.length ∧ c ∉ (l.take i).drop F ∧ O.length ≤ i) (hbe : b ≠ c) : c ∉ (l.take (i + 1)).drop F := by
  have hl := (List.getElem?_eq_some_iff.1 hb).1
  rw [List.take_add_one, hb, List.drop_append, List.length_take]
  intro h
  rcases List.mem_append.1 h with h | h
  · exact hi.2.2.1 h
  · rw [show F - min i l.length = 0 by omega] at h
    simp at h
    exact hbe h.symm
/-- The kit's pieces are these. -/
theorem split_eq (c : UInt8) : ∀ (k : Nat) (s : ByteArray), s.data.toList.count c = k → Lib.splitB (bs [c]) 0 k s = (splitL c s.data.toList).map bs := by
  intro k
  induction k with
  | zero =>
    intro s h
    rw [Lib.splitB_zero, splitL_no (List.count_eq_zero.1 h)]
    simp [bs]
  | succ k ih =>
    intro s h
    have hmem : c ∈ s.data.toList := List.count_pos_iff.1 (by omega)
    rcases Lib.indexB_cases s (bs [c]) with h1 | ⟨i, h1, h2⟩
    · exfalso
      have h3 : Lib.index s.data.toList [c] = -1 := by
        have e : Lib.indexB s (bs [c]) = Lib.index s.data.toList (bs [c]).data.toList := rfl
        rw [bs_list] at e; rw [← e]; exact h1
      rw [Lib.index_one] at h3
      obtain ⟨j, hj⟩ := List.getElem?_of_mem hmem
      exact Lib.indexByte_none h3 j hj
    · have h3 : Lib.index s.data.toList [c] = i := by
        have e : Lib.indexB s (bs [c]) = Lib.index s.data.toList (bs [c]).data.toList := rfl
        rw [bs_list] at e; rw [← e]; exact h1
      rw [Lib.index_one] at h3
      obtain ⟨h4, h5⟩ := Lib.indexByte_some h3
      have hi := (List.getElem?_eq_some_iff.1 h4).1
      have hsp : s.data.toList = s.data.toList.take i ++ c :: s.data.toList.drop (i + 1) := by
        conv => lhs; rw [← List.take_append_drop i s.data.toList]
        rw [List.drop_eq_getElem_cons hi, (List.getElem?_eq_some_iff.1 h4).2]
      have hno : c ∉ s.data.toList.take i := fun hm => by
        obtain ⟨j, hj⟩ := List.getElem?_of_mem hm
        have hj2 := (List.getElem?_eq_some_iff.1 hj).1
        rw [List.length_take] at hj2
        rw [List.getElem?_take_of_lt (by omega)] at hj
        exact h5 j (by omega) hj
      rw [Lib.splitB_hit _ _ _ _ _ h1, Nat.add_zero, bs_size, List.length_singleton]
      have e1 : s.extract 0 i = bs (s.data.toList.take i) := by
        apply ByteArray.ext
        rw [ByteArray.data_extract]
        apply Array.ext'
        simp [bs]
      have e2 : (s.extract (i + 1) s.size).data.toList = s.data.toList.drop (i + 1) := by
        rw [ByteArray.data_extract, Array.toList_extract, List.extract_eq_take_drop]
        rw [List.take_of_length_le (by rw [List.length_drop, Array.length_toList]; exact Nat.le_refl _)]
      have hc : (s.data.toList.drop (i + 1)).count c = k := by
        rw [hsp, List.count_append, List.count_cons_self, List.count_eq_zero.2 hno] at h
        omega
      rw [ih _ (by rw [e2]; exact hc), e2, e1]
      conv => rhs; rw [hsp, splitL_hit hno]
      rfl
/-! ### Parts of strings -/
theorem bs_get (l : List UInt8) (n : Nat) : (bs l)[n]? = l[n]? := by
  show (bs l).data[n]? = l[n]?
  simp [bs]
theorem bs_extract (l : List UInt8) (n m : Nat) : (bs l).extract n m = bs ((l.take m).drop n) := by
  apply ByteArray.ext
  rw [ByteArray.data_extract]
  apply Array.ext'
  rw [Array.toList_extract, List.extract_eq_take_drop, bs_list]
  simp only [bs]
  rw [List.drop_take]
theorem bs_of (s : ByteArray) : bs s.data.toList = s := by
  apply ByteArray.ext
  simp [bs]
end Go.Q
