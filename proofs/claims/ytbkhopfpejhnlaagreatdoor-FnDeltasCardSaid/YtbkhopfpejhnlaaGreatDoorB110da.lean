import Derived.Test.YtbkhopfpejhnlaaGreatDoorB33da
import Derived.Test.YtbkhopfpejhnlaaGreatDoorB83da
set_option linter.unusedVariables false
set_option linter.unusedSimpArgs false
set_option maxHeartbeats 1000000
set_option maxRecDepth 100000
namespace Go.Q
open Go.D
theorem ap_lt {l : List TPair} (h : arePairs l = true) : ∀ (k d : Nat) (p q : TPair), l[k]? = some p → l[k + 1 + d]? = some q → pless p q = true
 | k, 0, p, q, hp, hq => by
  have hb := ap_mem h p (List.mem_of_getElem? hp)
  have hb2 := ap_mem h q (List.mem_of_getElem? hq)
  have := ap_step h hp hq
  unfold keyP at this
  unfold pless
  simp
  omega
 | k, d + 1, p, q, hp, hq => by
  have hl := (List.getElem?_eq_some_iff.1 hq).1
  have hm : l[k + 1 + d]? = some (l[k + 1 + d]'(by omega)) := List.getElem?_eq_getElem (by omega)
  exact pless_so.tra _ _ _ (ap_lt h k d p _ hp hm) (ap_lt h (k + 1 + d) 0 _ q hm (by rw [show k + 1 + d + 1 + 0 = k + 1 + (d + 1) by omega]; exact hq))
theorem ap_strict {l : List TPair} (h : arePairs l = true) : StrictS pless l := by
 unfold StrictS
 rw [List.pairwise_iff_getElem]
 intro i j hi hj hij
 exact ap_lt h i (j - i - 1) _ _ (List.getElem?_eq_getElem hi) (by rw [show i + 1 + (j - i - 1) = j by omega]; exact List.getElem?_eq_getElem hj)
theorem strict_ap {l : List TPair} (h : StrictS pless l) (hm : ∀ p ∈ l, okP p = true) : arePairs l = true := by
 unfold arePairs
 rw [List.all_eq_true]
 intro k hk
 have hl := List.mem_range.1 hk
 rw [apAt_eq (List.getElem?_eq_getElem hl), hm _ (List.getElem_mem hl), Bool.true_and]
 by_cases h0 : 0 < k
 · have := List.pairwise_iff_getElem.1 h (k - 1) k (by omega) hl (by omega)
   rw [List.getElem?_eq_getElem (by omega), Option.getD_some, this]
   simp
 · simp [h0]
theorem ap_ok {l : List TPair} (h : arePairs l = true) : ∀ p ∈ l, okP p = true := fun p hp => by
 have := ap_mem h p hp
 simp only [okP, inB, Bool.and_eq_true, decide_eq_true_eq]
 omega
theorem ap_set {l : List TPair} (h : ∀ p ∈ l, okP p = true) : arePairs (setG pless l) = true := strict_ap (setG_strict pless_so l) fun p hp => h p (mem_setG.1 hp)
theorem mem_psub {x : TPair} {a b : List TPair} : x ∈ psub a b ↔ x ∈ a ∧ x ∉ b := by
 unfold psub
 rw [mem_setG]
 simp
theorem mem_pmerge {x : TPair} {a b : List TPair} : x ∈ pmerge a b ↔ x ∈ a ∨ x ∈ b := by
 unfold pmerge
 rw [mem_setG]
 simp
theorem ap_psub {a b : List TPair} (h : arePairs a = true) : arePairs (psub a b) = true := ap_set fun p hp => ap_ok h p (List.mem_filter.1 hp).1
theorem ap_pmerge {a b : List TPair} (ha : arePairs a = true) (hb : arePairs b = true) : arePairs (pmerge a b) = true := ap_set fun p hp => (List.mem_append.1 hp).elim (ap_ok ha p) (ap_ok hb p)
theorem ap_ext {a b : List TPair} (ha : arePairs a = true) (hb : arePairs b = true) (h : ∀ x, x ∈ a ↔ x ∈ b) : a = b := strict_ext pless_so (ap_strict ha) (ap_strict hb) h
theorem commonP_false {a b : List TPair} : commonP a b = false ↔ ∀ x, x ∈ a → x ∉ b := by
 rw [← Bool.not_eq_true, commonP_true]
 exact ⟨fun h x h1 h2 => h ⟨x, h1, h2⟩, fun h ⟨x, h1, h2⟩ => h x h1 h2⟩
theorem withinP_true {a b : List TPair} : withinP a b = true ↔ ∀ x, x ∈ a → x ∈ b := by
 unfold withinP
 rw [List.all_eq_true]
 simp
theorem isDelta_iff {d : TDelta} : isDelta d = true ↔ arePairs d.Added = true ∧ arePairs d.Removed = true ∧ ∀ x, x ∈ d.Added → x ∉ d.Removed := by
 unfold isDelta
 rw [Bool.and_eq_true, Bool.and_eq_true, Bool.not_eq_true', commonP_false, and_assoc]
theorem applyOk_iff {l : List TPair} {d : TDelta} : applyOk l d = true ↔ isDelta d = true ∧ arePairs l = true ∧ (∀ x, x ∈ d.Added → x ∉ l) ∧ ∀ x, x ∈ d.Removed → x ∈ l := by
 unfold applyOk
 rw [Bool.and_eq_true, Bool.and_eq_true, Bool.and_eq_true, Bool.not_eq_true', commonP_false, withinP_true, and_assoc, and_assoc]
theorem delta_is {a b : List TPair} (ha : arePairs a = true) (hb : arePairs b = true) : isDelta (deltaB a b) = true := by
 rw [isDelta_iff]
 refine ⟨ap_psub hb, ap_psub ha, fun x h1 h2 => ?_⟩
 have h1 := mem_psub.1 h1
 have h2 := mem_psub.1 h2
 exact h2.2 h1.1
theorem delta_turns {a b : List TPair} (ha : arePairs a = true) (hb : arePairs b = true) : applyD a (deltaB a b) = (b, true) := by
 have hok : applyOk a (deltaB a b) = true := by
  rw [applyOk_iff]
  exact ⟨delta_is ha hb, ha, fun x h => (mem_psub.1 h).2, fun x h => (mem_psub.1 h).1⟩
 unfold applyD
 rw [if_pos hok]
 congr 1
 refine ap_ext (ap_pmerge (ap_psub ha) (ap_psub hb)) hb fun x => ?_
 rw [mem_pmerge, mem_psub]
 show (x ∈ a ∧ ¬ x ∈ psub a b) ∨ x ∈ psub b a ↔ _
 rw [mem_psub, mem_psub]
 by_cases h1 : x ∈ a <;> by_cases h2 : x ∈ b <;> simp [h1, h2]
theorem applyD_yes {l : List TPair} {d : TDelta} (h : (applyD l d).2 = true) : applyOk l d = true ∧ (applyD l d).1 = pmerge (psub l d.Removed) d.Added := by
 unfold applyD at *
 by_cases hc : applyOk l d = true
 · rw [if_pos hc]; exact ⟨hc, rfl⟩
 · rw [if_neg hc] at h; cases h
theorem compose_acts {l : List TPair} {e f : TDelta} (h1 : (applyD l e).2 = true) (h2 : (applyD (applyD l e).1 f).2 = true) : (composeD e f).2 = true ∧ applyD l (composeD e f).1 = ((applyD (applyD l e).1 f).1, true) := by
 obtain ⟨a1, x1⟩ := applyD_yes h1
 obtain ⟨a2, x2⟩ := applyD_yes h2
 rw [x2, x1]
 rw [x1] at a2
 rw [applyOk_iff] at a1 a2
 obtain ⟨d1, p1, q1, r1⟩ := a1
 obtain ⟨d2, p2, q2, r2⟩ := a2
 have d1' := d1
 have d2' := d2
 rw [isDelta_iff] at d1 d2
 have q2' : ∀ x, x ∈ f.Added → ¬ ((x ∈ l ∧ x ∉ e.Removed) ∨ x ∈ e.Added) := fun x h => by have := q2 x h; rwa [mem_pmerge, mem_psub] at this
 have r2' : ∀ x, x ∈ f.Removed → (x ∈ l ∧ x ∉ e.Removed) ∨ x ∈ e.Added := fun x h => by have := r2 x h; rwa [mem_pmerge, mem_psub] at this
 have hc : composeOk e f = true := by
  unfold composeOk
  rw [d1', d2', Bool.true_and, Bool.true_and, Bool.and_eq_true, Bool.not_eq_true', Bool.not_eq_true', commonP_false, commonP_false]
  refine ⟨fun x h h' => q2' x h (.inr h'), fun x h h' => ?_⟩
  rcases r2' x h with h3 | h3
  · exact h3.2 h'
  · exact d1.2.2 x h3 h'
 unfold composeD
 rw [if_pos hc]
 refine ⟨rfl, ?_⟩
 have hok : applyOk l ⟨pmerge (psub e.Added f.Removed) (psub f.Added e.Removed), pmerge (psub e.Removed f.Added) (psub f.Removed e.Added)⟩ = true := by
  rw [applyOk_iff, isDelta_iff]
  refine ⟨⟨ap_pmerge (ap_psub d1.1) (ap_psub d2.1), ap_pmerge (ap_psub d1.2.1) (ap_psub d2.2.1), fun x hx => ?_⟩, p1, fun x hx => ?_, fun x hx => ?_⟩
  · simp only [mem_pmerge, mem_psub] at hx ⊢
    have := d1.2.2 x; have := d2.2.2 x
    grind
  · simp only [mem_pmerge, mem_psub] at hx
    have := q1 x; have := q2' x
    grind
  · simp only [mem_pmerge, mem_psub] at hx
    have := r1 x; have := r2' x
    grind
 unfold applyD
 rw [if_pos hok]
 congr 1
 refine ap_ext (ap_pmerge (ap_psub p1) (ap_pmerge (ap_psub d1.1) (ap_psub d2.1))) (ap_pmerge (ap_psub (ap_pmerge (ap_psub p1) d1.1)) d2.1) fun x => ?_
 simp only [mem_pmerge, mem_psub]
 have := d1.2.2 x; have := d2.2.2 x; have := q1 x; have := r1 x; have := q2' x; have := r2' x
 grind
theorem numS_one {n : Int} (h : 0 ≤ n ∧ n < 5) : numS n = [UInt8.ofNat (48 + n.toNat)] := by unfold numS; exact dig_small (by omega)
theorem toP_fmt {p : TPair} (h : (0 ≤ p.From ∧ p.From < 5) ∧ 0 ≤ p.To ∧ p.To < 5) : toP (fmtPair p) = p ∧ (fmtPair p).length = 2 ∧ ∀ b ∈ fmtPair p, 48 ≤ b.toNat ∧ b.toNat < 53 := by
 have e : fmtPair p = [UInt8.ofNat (48 + p.From.toNat), UInt8.ofNat (48 + p.To.toNat)] := by unfold fmtPair; rw [numS_one h.1, numS_one h.2]; rfl
 have t1 : (UInt8.ofNat (48 + p.From.toNat)).toNat = 48 + p.From.toNat := by rw [UInt8.toNat_ofNat']; omega
 have t2 : (UInt8.ofNat (48 + p.To.toNat)).toNat = 48 + p.To.toNat := by rw [UInt8.toNat_ofNat']; omega
 rw [e]
 refine ⟨?_, rfl, fun b hb => ?_⟩
 · unfold toP
   simp only [List.getElem?_cons_zero, List.getElem?_cons_succ, Option.getD_some, t1, t2]
   cases p
   simp at h ⊢
   omega
 · simp only [List.mem_cons, List.not_mem_nil, or_false] at hb
   rcases hb with rfl | rfl
   · rw [t1]; omega
   · rw [t2]; omega
theorem joinL_mem' {sep : List UInt8} {b : UInt8} : ∀ (n : Nat) (xs : List (List UInt8)), xs.length = n → b ∈ joinL sep xs → b ∈ sep ∨ ∃ x ∈ xs, b ∈ x
 | 0, xs, hn, h => by
  rw [List.eq_nil_of_length_eq_zero hn, joinL_nil] at h
  cases h
 | n + 1, xs, hn, h => by
  rcases List.eq_nil_or_concat xs with rfl | ⟨ys, x, rfl⟩
  · cases hn
  · rw [List.concat_eq_append] at hn h ⊢
    rw [joinL_snoc] at h
    split at h
    · exact .inr ⟨x, by simp, h⟩
    · simp only [List.mem_append] at h
      rcases h with (h | h) | h
      · rcases joinL_mem' n ys (by simpa using hn) h with h | ⟨y, hy, hb⟩
        · exact .inl h
        · exact .inr ⟨y, by simp [hy], hb⟩
      · exact .inl h
      · exact .inr ⟨x, by simp, h⟩
theorem joinL_mem {sep : List UInt8} {b : UInt8} {xs : List (List UInt8)} (h : b ∈ joinL sep xs) : b ∈ sep ∨ ∃ x ∈ xs, b ∈ x := joinL_mem' _ xs rfl h
theorem fmtPairs_no45 {l : List TPair} (h : arePairs l = true) : (45 : UInt8) ∉ fmtPairs l := by
 unfold fmtPairs
 rw [if_pos h]
 split
 · decide
 · intro hm
   rcases joinL_mem hm with h1 | ⟨x, hx, hb⟩
   · simp at h1
   · obtain ⟨p, hp, rfl⟩ := List.mem_map.1 hx
     have := (toP_fmt (ap_mem h p hp)).2.2 _ hb
     simp at this
theorem parseP_back {l : List TPair} (h : arePairs l = true) : parseP (fmtPairs l) = (l, true) := by
 unfold fmtPairs
 rw [if_pos h]
 by_cases h0 : l = []
 · subst h0; rfl
 · rw [if_neg h0]
   have hsp : splitL 32 (joinL [32] (l.map fmtPair)) = l.map fmtPair := split_joinL _ (by simpa using h0) fun x hx hb => by
    obtain ⟨p, hp, rfl⟩ := List.mem_map.1 hx
    have := (toP_fmt (ap_mem h p hp)).2.2 _ hb
    simp at this
   have hback : (l.map fmtPair).map toP = l := by
    rw [List.map_map]
    conv => rhs; rw [← List.map_id l]
    exact List.map_congr_left fun p hp => (toP_fmt (ap_mem h p hp)).1
   have hne : joinL [32] (l.map fmtPair) ≠ noneS := by
    intro e
    rw [e] at hsp
    have : splitL 32 noneS = [noneS] := by decide
    rw [this] at hsp
    match l, h0 with
    | [p], _ =>
     have := (toP_fmt (ap_mem h p (by simp))).2.1
     simp at hsp
     rw [← hsp] at this
     simp [noneS] at this
    | p :: q :: r, _ => simp at hsp
   unfold parseP
   rw [if_neg hne, hsp, hback, h, Bool.and_true, if_pos]
   rw [List.all_eq_true]
   intro x hx
   obtain ⟨p, hp, rfl⟩ := List.mem_map.1 hx
   simpa using (toP_fmt (ap_mem h p hp)).2.1
theorem parseD_back {d : TDelta} : (parseD (fmtDelta d)).2 = isDelta d ∧ (isDelta d = true → parseD (fmtDelta d) = (d, true)) := by
 by_cases hd : isDelta d = true
 · have key : parseD (fmtDelta d) = (d, true) := by
    have hi := isDelta_iff.1 hd
    have n1 := fmtPairs_no45 hi.1
    have hl : fmtDelta d = (43 :: fmtPairs d.Added) ++ [32, 45] ++ fmtPairs d.Removed := by unfold fmtDelta; rw [if_pos hd]; rfl
    have n2 : (45 : UInt8) ∉ (43 :: fmtPairs d.Added) := by simp [n1]
    have hcut : Lib.cut (fmtDelta d) [32, 45] = (43 :: fmtPairs d.Added, fmtPairs d.Removed, true) := by
     have ho : Lib.occAt (fmtDelta d) [32, 45] (43 :: fmtPairs d.Added).length = true := by
      rw [occ2, hl]
      constructor
      · rw [List.append_assoc, List.getElem?_append_right (Nat.le_refl _), Nat.sub_self]; rfl
      · rw [List.append_assoc, List.getElem?_append_right (by omega), show (43 :: fmtPairs d.Added).length + 1 - (43 :: fmtPairs d.Added).length = 1 by omega]; rfl
     have hn : ∀ j, j < (43 :: fmtPairs d.Added).length → Lib.occAt (fmtDelta d) [32, 45] j = false := fun j hj => by
      rw [← Bool.not_eq_true]
      intro hc
      obtain ⟨c1, c2⟩ := occ2.1 hc
      rw [hl, List.append_assoc] at c1 c2
      rw [List.getElem?_append_left hj] at c1
      by_cases hj2 : j + 1 < (43 :: fmtPairs d.Added).length
      · rw [List.getElem?_append_left hj2] at c2
        exact n2 (List.mem_of_getElem? c2)
      · have e : j + 1 = (43 :: fmtPairs d.Added).length := by omega
        rw [e, List.getElem?_append_right (Nat.le_refl _), Nat.sub_self] at c2
        cases c2
     rw [(cut_at ho hn).1, hl]
     refine Prod.ext ?_ (Prod.ext ?_ rfl)
     · show List.take _ _ = _
       rw [List.append_assoc, List.take_left' rfl]
     · show List.drop _ _ = _
       rw [List.drop_left']
       simp
    unfold parseD
    rw [hcut]
    have hp1 : parseP ((43 :: fmtPairs d.Added).drop 1) = (d.Added, true) := parseP_back hi.1
    have hp2 : parseP (fmtPairs d.Removed) = (d.Removed, true) := parseP_back hi.2.1
    have hpre : Lib.hasPrefix (43 :: fmtPairs d.Added) [43] = true := by unfold Lib.hasPrefix; simp [List.isPrefixOf]
    simp only [hp1, hp2, hpre]
    rw [show isDelta ⟨d.Added, d.Removed⟩ = true from hd]
    rfl
   rw [key]
   exact ⟨hd.symm, fun _ => rfl⟩
 · have hl : fmtDelta d = [] := by unfold fmtDelta; rw [if_neg hd]
   have hc : Lib.cut ([] : List UInt8) [32, 45] = ([], [], false) := cut_no fun j hj => by
    rw [← Bool.not_eq_true]
    intro hc
    have := (occ2.1 hc).1
    simp at this
   refine ⟨?_, fun h => absurd h hd⟩
   rw [hl]
   unfold parseD
   rw [hc]
   simp [hd]
end Go.Q
