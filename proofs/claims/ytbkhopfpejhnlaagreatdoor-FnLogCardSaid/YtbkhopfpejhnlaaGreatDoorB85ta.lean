import Derived.Test.YtbkhopfpejhnlaaGreatDoorB77ta
import Derived.Lib.SplitLaws
import Derived.Lib.Atoi
import Derived.Test.YtbkhopfpejhnlaaGreatDoorB03ta
set_option linter.unusedVariables false
set_option linter.unusedSimpArgs false
set_option maxHeartbeats 1000000
set_option maxRecDepth 100000
namespace Go.Q
open Go.D
def itoS (n : Int) : List UInt8 := Lib.itoa n
theorem itoS_num {n : Int} (h : 0 ≤ n) : itoS n = numS n := by unfold itoS numS Lib.itoa; rw [if_neg (by omega)]
theorem dig_le : ∀ (k u : Nat), 1 ≤ k → (u < 10 ^ k ↔ (Lib.decDigits u).length ≤ k)
 | 0, _, h => by omega
 | k + 1, u, _ => by
  by_cases h : u < 10
  · rw [dig_small h]
    have : 10 ^ (k + 1) = 10 ^ k * 10 := by rw [Nat.pow_succ]
    have h1 : 1 ≤ 10 ^ k := Nat.one_le_pow _ _ (by decide)
    simp; omega
  · rw [dig_more (by omega), List.length_append, List.length_singleton, Nat.pow_succ]
    by_cases hk : k = 0
    · subst hk
      rw [Nat.pow_zero]
      have h1 : 1 ≤ (Lib.decDigits (u / 10)).length := by
       by_cases h2 : u / 10 < 10
       · rw [dig_small h2]; simp
       · rw [dig_more (by omega)]; simp
      omega
    · have := dig_le k (u / 10) (by omega)
      omega
theorem dig_ne (u : Nat) : Lib.decDigits u ≠ [] := by
 by_cases h : u < 10
 · rw [dig_small h]; simp
 · rw [dig_more (by omega)]; simp
def isDg (b : UInt8) : Bool := decide (48 ≤ b.toNat) && decide (b.toNat ≤ 57)
def accN (l : List UInt8) : Nat := l.foldl (fun n b => if isDg b = true then n * 10 + (b.toNat - 48) else n) 0
def cntD (l : List UInt8) : Nat := l.countP isDg
theorem accN_snoc (l : List UInt8) (b : UInt8) : accN (l ++ [b]) = if isDg b = true then accN l * 10 + (b.toNat - 48) else accN l := by unfold accN; rw [List.foldl_append]; rfl
theorem cntD_snoc (l : List UInt8) (b : UInt8) : cntD (l ++ [b]) = if isDg b = true then cntD l + 1 else cntD l := by
 unfold cntD
 rw [List.countP_append, List.countP_singleton]
 split <;> rfl
theorem dg_of {d : Nat} (h : d < 10) : isDg (UInt8.ofNat (48 + d)) = true ∧ (UInt8.ofNat (48 + d)).toNat - 48 = d := by
 have e : (UInt8.ofNat (48 + d)).toNat = 48 + d := by rw [UInt8.toNat_ofNat']; omega
 unfold isDg
 rw [e]
 constructor
 · simp; omega
 · omega
theorem dig_all : ∀ (k u : Nat), u < k → (Lib.decDigits u).all isDg = true
 | 0, _, h => by omega
 | k + 1, u, h => by
  by_cases h1 : u < 10
  · rw [dig_small h1]; simpa using (dg_of h1).1
  · rw [dig_more (by omega), List.all_append, dig_all k (u / 10) (by omega)]
    simpa using (dg_of (Nat.mod_lt u (by decide))).1
theorem accN_dig : ∀ (k u : Nat), u < k → accN (Lib.decDigits u) = u
 | 0, _, h => by omega
 | k + 1, u, h => by
  by_cases h1 : u < 10
  · rw [dig_small h1]
    have := accN_snoc [] (UInt8.ofNat (48 + u))
    rw [List.nil_append, if_pos (dg_of h1).1, (dg_of h1).2] at this
    rw [this]; simp [accN]
  · have hm := dg_of (Nat.mod_lt u (show 0 < 10 by decide))
    rw [dig_more (by omega), accN_snoc, accN_dig k (u / 10) (by omega), if_pos hm.1, hm.2]
    omega
theorem cntD_dig (u : Nat) : cntD (Lib.decDigits u) = (Lib.decDigits u).length := by
 unfold cntD
 rw [List.countP_eq_length]
 exact List.all_eq_true.1 (dig_all (u + 1) u (by omega))
theorem dig_head {u : Nat} : (Lib.decDigits u).head? ≠ some 45 := by
 intro h
 have := List.all_eq_true.1 (dig_all (u + 1) u (by omega)) 45 (List.mem_of_mem_head? h)
 exact absurd this (by decide)
def sgnN (l : List UInt8) : Int := if l.head? = some 45 then -(accN l : Int) else accN l
theorem sgn_itoS (n : Int) : sgnN (itoS n) = n ∧ cntD (itoS n) = (Lib.decDigits n.natAbs).length := by
 unfold sgnN itoS Lib.itoa
 by_cases h : n < 0
 · rw [if_pos h]
   have e1 : accN (45 :: Lib.decDigits n.natAbs) = accN (Lib.decDigits n.natAbs) := by
    unfold accN
    rw [List.foldl_cons, if_neg (by decide)]
   have e2 : cntD (45 :: Lib.decDigits n.natAbs) = cntD (Lib.decDigits n.natAbs) := by
    unfold cntD
    rw [List.countP_cons_of_neg (by decide)]
   rw [List.head?_cons, if_pos rfl, e1, e2, accN_dig (n.natAbs + 1) _ (by omega), cntD_dig]
   exact ⟨by omega, rfl⟩
 · rw [if_neg h, if_neg dig_head, accN_dig (n.toNat + 1) _ (by omega), cntD_dig]
   exact ⟨by omega, by rw [show n.natAbs = n.toNat by omega]⟩
def parseI (l : List UInt8) : Int × Bool := if cntD l ≤ 9 ∧ l.length ≤ 10 ∧ itoS (sgnN l) = l then (sgnN l, true) else (0, false)
theorem parseI_of {l : List UInt8} {n : Int} (h : itoS n = l) : parseI l = if -999999999 ≤ n ∧ n ≤ 999999999 then (n, true) else (0, false) := by
 obtain ⟨h1, h2⟩ := sgn_itoS n
 rw [h] at h1 h2
 have h3 := dig_le 9 n.natAbs (by decide)
 unfold parseI
 rw [h1, h2]
 by_cases hb : -999999999 ≤ n ∧ n ≤ 999999999
 · have h4 : (Lib.decDigits n.natAbs).length ≤ 9 := h3.1 (by omega)
   have h5 : l.length ≤ 10 := by
    rw [← h]
    unfold itoS Lib.itoa
    split
    · rw [List.length_cons]; omega
    · rw [show n.toNat = n.natAbs by omega]; omega
   rw [if_pos ⟨h4, h5, h⟩, if_pos hb]
 · rw [if_neg (fun hh => hb (by have := h3.2 hh.1; omega)), if_neg hb]
theorem parseI_no {l : List UInt8} (h : ∀ n, itoS n ≠ l) : parseI l = (0, false) := by
 unfold parseI
 rw [if_neg (fun hh => h _ hh.2.2)]
def splitL (c : UInt8) : List UInt8 → List (List UInt8)
 | [] => [[]]
 | b :: l => if b = c then [] :: splitL c l else (b :: (splitL c l).headD []) :: (splitL c l).tail
theorem splitL_ne (c : UInt8) (l : List UInt8) : splitL c l ≠ [] := by
 cases l with
 | nil => simp [splitL]
 | cons b l => unfold splitL; split <;> simp
theorem splitL_no {c : UInt8} : ∀ {l : List UInt8}, c ∉ l → splitL c l = [l]
 | [], _ => rfl
 | b :: l, h => by
  unfold splitL
  rw [if_neg (fun e => h (by simp [e])), splitL_no fun hm => h (by simp [hm])]
  rfl
theorem splitL_hit {c : UInt8} {r : List UInt8} : ∀ {l : List UInt8}, c ∉ l → splitL c (l ++ c :: r) = l :: splitL c r
 | [], _ => by rw [List.nil_append, splitL, if_pos rfl]
 | b :: l, h => by
  rw [List.cons_append, splitL, if_neg (fun e => h (by simp [e])), splitL_hit fun hm => h (by simp [hm])]
  rfl
theorem splitL_len (c : UInt8) : ∀ l : List UInt8, (splitL c l).length = l.count c + 1
 | [] => rfl
 | b :: l => by
  unfold splitL
  have ih := splitL_len c l
  split
  · rename_i h; subst h; rw [List.length_cons, ih, List.count_cons_self]
  · rename_i h
    rw [List.length_cons, List.length_tail, ih, List.count_cons_of_ne (by simpa using h)]; omega
theorem splitL_mem {c : UInt8} : ∀ {l x : List UInt8}, x ∈ splitL c l → c ∉ x ∧ x.length ≤ l.length
 | [], x, h => by
  simp [splitL] at h
  subst h; simp
 | b :: l, x, h => by
  unfold splitL at h
  split at h
  · rcases List.mem_cons.1 h with rfl | h
    · simp
    · have := splitL_mem h
      exact ⟨this.1, by simp; omega⟩
  · rename_i hb
    obtain ⟨y, r, hx⟩ : ∃ x r, splitL c l = x :: r := by
     cases h' : splitL c l with
     | nil => exact absurd h' (splitL_ne c l)
     | cons x r => exact ⟨x, r, rfl⟩
    rw [hx] at h
    rcases List.mem_cons.1 h with rfl | h
    · have := splitL_mem (c := c) (l := l) (x := y) (by rw [hx]; simp)
      refine ⟨fun hm => ?_, by simp; exact this.2⟩
      rcases List.mem_cons.1 hm with e | hm
      · exact hb e.symm
      · exact this.1 hm
    · have := splitL_mem (c := c) (l := l) (x := x) (by rw [hx]; simp; exact .inr (by simpa using h))
      exact ⟨this.1, by simp; omega⟩
theorem cut_step {c b : UInt8} {l : List UInt8} {O : List (List UInt8)} {F i : Nat} (hb : l[i]? = some b) (hi : F ≤ i ∧ i ≤ l.length ∧ c ∉ (l.take i).drop F ∧ O.length ≤ i) (hbe : b = c) (he : splitL c l = O ++ splitL c (l.drop F)) :
 splitL c l = (O ++ [(l.take i).drop F]) ++ splitL c (l.drop (i + 1)) := by
 subst hbe
 have hl := (List.getElem?_eq_some_iff.1 hb).1
 have e : l.drop F = (l.take i).drop F ++ b :: l.drop (i + 1) := by
  conv => lhs; rw [← List.take_append_drop i l]
  rw [List.drop_append, List.length_take, show F - min i l.length = 0 by omega, List.drop_zero, List.drop_eq_getElem_cons hl, (List.getElem?_eq_some_iff.1 hb).2]
 rw [he, e, splitL_hit hi.2.2.1]
 simp
theorem cut_keep {c b : UInt8} {l : List UInt8} {O : List (List UInt8)} {F i : Nat} (hb : l[i]? = some b) (hi : F ≤ i ∧ i ≤ l.length ∧ c ∉ (l.take i).drop F ∧ O.length ≤ i) (hbe : b ≠ c) : c ∉ (l.take (i + 1)).drop F := by
 have hl := (List.getElem?_eq_some_iff.1 hb).1
 rw [List.take_add_one, hb, List.drop_append, List.length_take]
 intro h
 rcases List.mem_append.1 h with h | h
 · exact hi.2.2.1 h
 · rw [show F - min i l.length = 0 by omega] at h
   simp at h
   exact hbe h.symm
theorem split_eq (c : UInt8) : ∀ (k : Nat) (s : ByteArray), s.data.toList.count c = k → Lib.splitB (bs [c]) 0 k s = (splitL c s.data.toList).map bs := by
 intro k
 induction k with
 | zero =>
  intro s h
  rw [Lib.splitB_zero, splitL_no (List.count_eq_zero.1 h)]
  simp [bs]
 | succ k ih =>
  intro s h
  have hmem : c ∈ s.data.toList := List.count_pos_iff.1 (by omega)
  rcases Lib.indexB_cases s (bs [c]) with h1 | ⟨i, h1, h2⟩
  · exfalso
    have h3 : Lib.index s.data.toList [c] = -1 := by
     have e : Lib.indexB s (bs [c]) = Lib.index s.data.toList (bs [c]).data.toList := rfl
     rw [bs_list] at e; rw [← e]; exact h1
    rw [Lib.index_one] at h3
    obtain ⟨j, hj⟩ := List.getElem?_of_mem hmem
    exact Lib.indexByte_none h3 j hj
  · have h3 : Lib.index s.data.toList [c] = i := by
     have e : Lib.indexB s (bs [c]) = Lib.index s.data.toList (bs [c]).data.toList := rfl
     rw [bs_list] at e; rw [← e]; exact h1
    rw [Lib.index_one] at h3
    obtain ⟨h4, h5⟩ := Lib.indexByte_some h3
    have hi := (List.getElem?_eq_some_iff.1 h4).1
    have hsp : s.data.toList = s.data.toList.take i ++ c :: s.data.toList.drop (i + 1) := by
     conv => lhs; rw [← List.take_append_drop i s.data.toList]
     rw [List.drop_eq_getElem_cons hi, (List.getElem?_eq_some_iff.1 h4).2]
    have hno : c ∉ s.data.toList.take i := fun hm => by
     obtain ⟨j, hj⟩ := List.getElem?_of_mem hm
     have hj2 := (List.getElem?_eq_some_iff.1 hj).1
     rw [List.length_take] at hj2
     rw [List.getElem?_take_of_lt (by omega)] at hj
     exact h5 j (by omega) hj
    rw [Lib.splitB_hit _ _ _ _ _ h1, Nat.add_zero, bs_size, List.length_singleton]
    have e1 : s.extract 0 i = bs (s.data.toList.take i) := by
     apply ByteArray.ext
     rw [ByteArray.data_extract]
     apply Array.ext'
     simp [bs]
    have e2 : (s.extract (i + 1) s.size).data.toList = s.data.toList.drop (i + 1) := by
     rw [ByteArray.data_extract, Array.toList_extract, List.extract_eq_take_drop]
     rw [List.take_of_length_le (by rw [List.length_drop, Array.length_toList]; exact Nat.le_refl _)]
    have hc : (s.data.toList.drop (i + 1)).count c = k := by
     rw [hsp, List.count_append, List.count_cons_self, List.count_eq_zero.2 hno] at h
     omega
    rw [ih _ (by rw [e2]; exact hc), e2, e1]
    conv => rhs; rw [hsp, splitL_hit hno]
    rfl
theorem split_joinL {c : UInt8} : ∀ (xs : List (List UInt8)), xs ≠ [] → (∀ x ∈ xs, c ∉ x) → splitL c (joinL [c] xs) = xs := by
 intro xs
 induction xs with
 | nil => intro h _; exact absurd rfl h
 | cons x r ih =>
  intro _ h
  cases r with
  | nil => unfold joinL; rw [Lib.join_one]; exact splitL_no (h x (by simp))
  | cons y r =>
   have e : joinL [c] (x :: y :: r) = x ++ c :: joinL [c] (y :: r) := by
    unfold joinL
    rw [Lib.join_cons, Lib.join_cons]
    simp [Lib.joinTail]
   rw [e, splitL_hit (h x (by simp)), ih (by simp) fun z hz => h z (by simp [hz])]
def chkS (l : List UInt8) : Int := l.foldl (fun n b => (n * 257 + (b.toNat : Int) + 1) % 9973) 1
theorem chkS_snoc (l : List UInt8) (b : UInt8) : chkS (l ++ [b]) = (chkS l * 257 + (b.toNat : Int) + 1) % 9973 := by unfold chkS; rw [List.foldl_append]; rfl
theorem chkS_le (l : List UInt8) : 0 ≤ chkS l ∧ chkS l < 9973 := by
 rcases List.eq_nil_or_concat l with rfl | ⟨r, b, rfl⟩
 · decide
 · rw [List.concat_eq_append, chkS_snoc]; omega
theorem bs_get (l : List UInt8) (n : Nat) : (bs l)[n]? = l[n]? := by
 show (bs l).data[n]? = l[n]?
 simp [bs]
theorem bs_extract (l : List UInt8) (n m : Nat) : (bs l).extract n m = bs ((l.take m).drop n) := by
 apply ByteArray.ext
 rw [ByteArray.data_extract]
 apply Array.ext'
 rw [Array.toList_extract, List.extract_eq_take_drop, bs_list]
 simp only [bs]
 rw [List.drop_take]
theorem bs_of (s : ByteArray) : bs s.data.toList = s := by
 apply ByteArray.ext
 simp [bs]
end Go.Q
set_option maxHeartbeats 1000000
set_option maxRecDepth 100000
namespace Go.Q
open Go.D
def fmtEdge (e : TEdge) : List UInt8 := if edgeOk e 5 = true then numS e.ID ++ [58] ++ numS e.From ++ letS (2 * e.Label) ++ numS e.To else []
theorem edge_r {e : TEdge} (h : edgeOk e 5 = true) : (1 ≤ e.ID ∧ e.ID ≤ 99) ∧ (0 ≤ e.From ∧ e.From ≤ 4) ∧ (0 ≤ e.To ∧ e.To ≤ 4) ∧ 0 ≤ e.Label ∧ e.Label ≤ 2 := by
 unfold edgeOk at h
 simp only [inB, Bool.and_eq_true, decide_eq_true_eq] at h
 omega
theorem lab_abc {k : Int} (h0 : 0 ≤ k) (h2 : k ≤ 2) : (ByteArray.mk #[97, 98, 99]).extract k.toNat (k.toNat + 1) = bs (letS (2 * k)) := by
 have h3 : k = 0 ∨ k = 1 ∨ k = 2 := by omega
 rcases h3 with rfl | rfl | rfl <;> rfl
theorem fmtEdge_len {e : TEdge} : (fmtEdge e).length ≤ 8 := by
 unfold fmtEdge
 split
 · rename_i h
   have hr := edge_r h
   have h1 := numS_len (n := e.ID) (by omega)
   have h2 := numS_len (n := e.From) (by omega)
   have h3 := numS_len (n := e.To) (by omega)
   have h4 := letS_len (2 * e.Label)
   simp only [List.length_append, List.length_singleton]
   have h5 : (numS e.From).length ≤ 1 := by unfold numS; rw [dig_small (by omega)]; simp
   have h6 : (numS e.To).length ≤ 1 := by unfold numS; rw [dig_small (by omega)]; simp
   omega
 · simp
theorem fmtEdge_nil {e : TEdge} : fmtEdge e = [] ↔ edgeOk e 5 = false := by
 unfold fmtEdge
 by_cases h : edgeOk e 5 = true
 · rw [if_pos h, h]
   simp
 · rw [if_neg h]
   simpa using h
def fmtCh (c : TChange) : List UInt8 := (if c.Insert = true then [43] else [45]) ++ fmtEdge c.Edge
theorem fmtCh_len {c : TChange} : (fmtCh c).length ≤ 9 := by
 have := fmtEdge_len (e := c.Edge)
 unfold fmtCh
 rw [List.length_append]
 split <;> simp <;> omega
def batchOk (b : TBatch) : Bool := decide (b.Changes.length ≤ 6) && b.Changes.all fun c => edgeOk c.Edge 5
def fmtBatch (b : TBatch) : List UInt8 := if batchOk b = true then joinL [32] (b.Changes.map fmtCh) else []
theorem fmtBatch_len (b : TBatch) : (fmtBatch b).length ≤ 100 := by
 unfold fmtBatch
 split
 · rename_i h
   unfold batchOk at h
   simp only [Bool.and_eq_true, decide_eq_true_eq] at h
   have := joinL_len (sep := [32]) (b := 9) (f := fmtCh) (l := b.Changes) fun c _ => fmtCh_len
   simp at this; omega
 · simp
theorem batch_long {b : TBatch} (h : 6 < b.Changes.length) : fmtBatch b = [] := by
 unfold fmtBatch batchOk
 rw [if_neg (by simp; omega)]
theorem batch_bad {b : TBatch} {k : Nat} {c : TChange} (hc : b.Changes[k]? = some c) (h : fmtEdge c.Edge = []) : fmtBatch b = [] := by
 have h1 := fmtEdge_nil.1 h
 unfold fmtBatch batchOk
 rw [if_neg ?_]
 simp only [Bool.and_eq_true, List.all_eq_true, not_and]
 intro _ hh
 have := hh c (List.mem_of_getElem? hc)
 rw [h1] at this; cases this
theorem batch_all {b : TBatch} {k : Nat} (h6 : b.Changes.length ≤ 6) (hk : b.Changes.length ≤ k) (h : ∀ j c, j < k → b.Changes[j]? = some c → fmtEdge c.Edge ≠ []) : fmtBatch b = joinL [32] (b.Changes.map fmtCh) := by
 unfold fmtBatch batchOk
 rw [if_pos ?_]
 simp only [Bool.and_eq_true, decide_eq_true_eq, List.all_eq_true]
 refine ⟨h6, fun c hc => ?_⟩
 obtain ⟨j, hj⟩ := List.getElem?_of_mem hc
 have hl := (List.getElem?_eq_some_iff.1 hj).1
 have := h j c (by omega) hj
 rw [Ne, fmtEdge_nil] at this
 simpa using this
theorem batch_more {b : TBatch} {k : Nat} {x : TChange} (h : ∀ j c, j < k → b.Changes[j]? = some c → fmtEdge c.Edge ≠ []) (hx : b.Changes[k]? = some x) (hne : fmtEdge x.Edge ≠ []) : ∀ j c, j < k + 1 → b.Changes[j]? = some c → fmtEdge c.Edge ≠ [] := fun j c hj hc => by
 by_cases e : j = k
 · subst e; rw [hx] at hc; cases hc; exact hne
 · exact h j c (by omega) hc
theorem fmtCh_p {x : TChange} (h : x.Insert = true) : fmtCh x = [43] ++ fmtEdge x.Edge := by unfold fmtCh; rw [if_pos h]
theorem fmtCh_m {x : TChange} (h : x.Insert = false) : fmtCh x = [45] ++ fmtEdge x.Edge := by unfold fmtCh; rw [if_neg (by rw [h]; decide)]
theorem batch_txt {b : TBatch} {k : Nat} {x : TChange} {O : ByteArray} {s : List UInt8} (hx : b.Changes[k]? = some x) (he : O = bs (joinL [32] ((b.Changes.take k).map fmtCh))) (hk : k ≠ 0) (hs : fmtCh x = s ++ fmtEdge x.Edge) :
 ((O ++ bs [32]) ++ bs s) ++ bs (fmtEdge x.Edge) = bs (joinL [32] ((b.Changes.take (k + 1)).map fmtCh)) := by
 rw [joinL_at _ hx, if_neg hk, he, hs]
 simp [bs_append, List.append_assoc]
theorem batch_txt0 {b : TBatch} {k : Nat} {x : TChange} {O : ByteArray} {s : List UInt8} (hx : b.Changes[k]? = some x) (he : O = bs (joinL [32] ((b.Changes.take k).map fmtCh))) (hk : k = 0) (hs : fmtCh x = s ++ fmtEdge x.Edge) :
 (O ++ bs s) ++ bs (fmtEdge x.Edge) = bs (joinL [32] ((b.Changes.take (k + 1)).map fmtCh)) := by
 rw [joinL_at _ hx, if_pos hk, he, hs, hk]
 simp [bs_append, joinL_nil]
def recHead (v : Int) (b : TBatch) : List UInt8 := itoS v ++ [59] ++ fmtBatch b ++ [59]
def recOk (v : Int) (b : TBatch) : Bool := inB v 1 999 && !(decide (0 < b.Changes.length) && decide (fmtBatch b = []))
theorem rec_iff {v : Int} {b : TBatch} : recOk v b = true ↔ inB v 1 999 = true ∧ (bs (fmtBatch b) = bs [] → b.Changes = []) := by
 unfold recOk
 rw [Bool.and_eq_true]
 refine and_congr_right fun _ => ?_
 constructor
 · intro h e
   have e := bs_inj e
   simp only [e, decide_true, Bool.and_true, Bool.not_eq_true', decide_eq_false_iff_not] at h
   exact List.eq_nil_of_length_eq_zero (by omega)
 · intro h
   by_cases e : fmtBatch b = []
   · have := h (by rw [e])
     simp [this]
   · simp [e]
theorem rec_no {v : Int} {b : TBatch} (h : inB v 1 999 = false ∨ bs (fmtBatch b) = bs [] ∧ 0 < b.Changes.length) : ¬ recOk v b = true := fun hh => by
 obtain ⟨h1, h2⟩ := rec_iff.1 hh
 rcases h with h | ⟨h3, h4⟩
 · rw [h1] at h; cases h
 · rw [h2 h3] at h4; simp at h4
def encRec (v : Int) (b : TBatch) : List UInt8 := if recOk v b = true then recHead v b ++ itoS (chkS (recHead v b)) ++ [10] else []
theorem itoS_len {n : Int} (h0 : 0 ≤ n) (h : n < 1000000000) : (itoS n).length ≤ 9 := by
 unfold itoS Lib.itoa
 rw [if_neg (by omega)]
 exact (dig_le 9 n.toNat (by decide)).1 (by omega)
end Go.Q
