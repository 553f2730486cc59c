import Derived.Test.YtbkhopfpejhnlaaGreatDoorB82da
import Derived.Test.YtbkhopfpejhnlaaGreatDoorB74da
import Derived.Lib.IndexMore
set_option linter.unusedVariables false
set_option linter.unusedSimpArgs false
set_option maxHeartbeats 1000000
set_option maxRecDepth 100000
namespace Go.Q
open Go.D
def toP (x : List UInt8) : TPair := ⟨((x[0]?.getD 0).toNat : Int) - 48, ((x[1]?.getD 0).toNat : Int) - 48⟩
def noneS : List UInt8 := [110, 111, 110, 101]
def parseP (l : List UInt8) : List TPair × Bool :=
 if l = noneS then ([], true) else if ((splitL 32 l).all fun x => decide (x.length = 2)) && arePairs ((splitL 32 l).map toP) then ((splitL 32 l).map toP, true) else ([], false)
theorem digit_txt {b : UInt8} (h : 0 ≤ ((b.toNat : Int) - 48) ∧ ((b.toNat : Int) - 48) < 5) : numS ((b.toNat : Int) - 48) = [b] := by
 unfold numS
 rw [dig_small (by omega)]
 have e : 48 + ((b.toNat : Int) - 48).toNat = b.toNat := by omega
 rw [e]
 simp
theorem fmt_toP {x : List UInt8} (h : x.length = 2) (hp : (0 ≤ (toP x).From ∧ (toP x).From < 5) ∧ 0 ≤ (toP x).To ∧ (toP x).To < 5) : fmtPair (toP x) = x := by
 match x, h with
 | [a, b], _ =>
  unfold fmtPair
  show numS ((a.toNat : Int) - 48) ++ numS ((b.toNat : Int) - 48) = [a, b]
  rw [digit_txt (b := a) hp.1, digit_txt (b := b) hp.2]; rfl
theorem read_back {l : List UInt8} (h2 : ((splitL 32 l).all fun x => decide (x.length = 2)) = true) (ha : arePairs ((splitL 32 l).map toP) = true) : fmtPairs ((splitL 32 l).map toP) = l := by
 unfold fmtPairs
 rw [if_pos ha, if_neg (fun e => splitL_ne 32 l (List.map_eq_nil_iff.1 e))]
 have e : ((splitL 32 l).map toP).map fmtPair = splitL 32 l := by
  rw [List.map_map]
  conv => rhs; rw [← List.map_id (splitL 32 l)]
  refine List.map_congr_left fun x hx => ?_
  have h3 := List.all_eq_true.1 h2 x hx
  exact fmt_toP (by simpa using h3) (ap_mem ha _ (List.mem_map_of_mem hx))
 rw [e, splitL_join]
theorem read_not {l : List UInt8} (h2 : ((splitL 32 l).all fun x => decide (x.length = 2)) = true) (ha : arePairs ((splitL 32 l).map toP) = false) : fmtPairs ((splitL 32 l).map toP) ≠ l := by
 unfold fmtPairs
 rw [if_neg (by rw [ha]; decide)]
 intro e
 subst e
 simp [splitL] at h2
theorem parseP_fmt {l : List UInt8} (h : (parseP l).2 = true) : fmtPairs (parseP l).1 = l := by
 unfold parseP at h ⊢
 split
 · rename_i e; subst e; rfl
 · rename_i e
   rw [if_neg e] at h
   split
   · rename_i hc
     simp only [Bool.and_eq_true] at hc
     exact read_back hc.1 hc.2
   · rename_i hc; rw [if_neg hc] at h; cases h
def keyP (p : TPair) : Int := p.From * 5 + p.To
theorem ap_step {l : List TPair} (h : arePairs l = true) {k : Nat} {p q : TPair} (hp : l[k]? = some p) (hq : l[k + 1]? = some q) : keyP p + 1 ≤ keyP q := by
 have hb := ap_mem h p (List.mem_of_getElem? hp)
 have hb2 := ap_mem h q (List.mem_of_getElem? hq)
 have hl := (List.getElem?_eq_some_iff.1 hq).1
 unfold arePairs at h
 have h1 := List.all_eq_true.1 h (k + 1) (List.mem_range.2 hl)
 unfold apAt at h1
 rw [hq] at h1
 simp only [Nat.add_sub_cancel, hp, Option.getD_some, Bool.and_eq_true, Bool.not_eq_true', Bool.and_eq_false_iff, Bool.not_eq_false', decide_eq_false_iff_not] at h1
 have h2 : pless p q = true := by
  rcases h1.2 with h3 | h3
  · omega
  · simpa using h3
 unfold pless at h2
 unfold keyP
 simp at h2
 omega
theorem ap_key {l : List TPair} (h : arePairs l = true) : ∀ (k : Nat) (p : TPair), l[k]? = some p → (k : Int) ≤ keyP p
 | 0, p, hp => by
  have hb := ap_mem h p (List.mem_of_getElem? hp)
  unfold keyP; omega
 | k + 1, q, hq => by
  have hl := (List.getElem?_eq_some_iff.1 hq).1
  have hp : l[k]? = some (l[k]'(by omega)) := List.getElem?_eq_getElem (by omega)
  have h1 := ap_step h hp hq
  have h2 := ap_key h k _ hp
  omega
theorem ap_few {l : List TPair} (h : arePairs l = true) : l.length ≤ 25 := by
 rcases Nat.lt_or_ge 25 l.length with hl | hl
 · exfalso
   have hp : l[25]? = some (l[25]'hl) := List.getElem?_eq_getElem hl
   have h1 := ap_key h 25 _ hp
   have hb := ap_mem h _ (List.mem_of_getElem? hp)
   unfold keyP at h1; omega
 · exact hl
def parseD (l : List UInt8) : TDelta × Bool :=
 if (Lib.cut l [32, 45]).2.2 && Lib.hasPrefix (Lib.cut l [32, 45]).1 [43] && (parseP ((Lib.cut l [32, 45]).1.drop 1)).2 && (parseP (Lib.cut l [32, 45]).2.1).2 && isDelta ⟨(parseP ((Lib.cut l [32, 45]).1.drop 1)).1, (parseP (Lib.cut l [32, 45]).2.1).1⟩
 then (⟨(parseP ((Lib.cut l [32, 45]).1.drop 1)).1, (parseP (Lib.cut l [32, 45]).2.1).1⟩, true) else (⟨[], []⟩, false)
theorem occ2 {l : List UInt8} {i : Nat} {a b : UInt8} : Lib.occAt l [a, b] i = true ↔ l[i]? = some a ∧ l[i + 1]? = some b := by
 unfold Lib.occAt
 have e1 : l[i]? = (l.drop i)[0]? := by simp
 have e2 : l[i + 1]? = (l.drop i)[1]? := by simp
 rw [e1, e2]
 match l.drop i with
 | [] => simp
 | [x] => simp [List.isPrefixOf]
 | x :: y :: r =>
  simp [List.isPrefixOf]
  exact ⟨fun ⟨h1, h2⟩ => ⟨h1.symm, h2.symm⟩, fun ⟨h1, h2⟩ => ⟨h1.symm, h2.symm⟩⟩
theorem cut_at {l : List UInt8} {i : Nat} (h : Lib.occAt l [32, 45] i = true) (hn : ∀ j, j < i → Lib.occAt l [32, 45] j = false) : Lib.cut l [32, 45] = (l.take i, l.drop (i + 2), true) ∧ l = l.take i ++ [32, 45] ++ l.drop (i + 2) := by
 obtain ⟨h1, h2⟩ := occ2.1 h
 have hl := (List.getElem?_eq_some_iff.1 h2).1
 have hi : Lib.index l [32, 45] = i := Lib.index_first (by omega) h hn
 refine ⟨?_, ?_⟩
 · unfold Lib.cut
   rw [hi, if_pos (by omega)]
   rfl
 · conv => lhs; rw [← List.take_append_drop i l]
   rw [List.drop_eq_getElem_cons (by omega), (List.getElem?_eq_some_iff.1 h1).2, List.drop_eq_getElem_cons hl, (List.getElem?_eq_some_iff.1 h2).2]
   simp
theorem cut_no {l : List UInt8} (h : ∀ j, j ≤ l.length → Lib.occAt l [32, 45] j = false) : Lib.cut l [32, 45] = (l, [], false) := by
 unfold Lib.cut
 rw [Lib.index_none h, if_neg (by decide)]
theorem cut_cases (l : List UInt8) : Lib.cut l [32, 45] = (l, [], false) ∨ ∃ i, Lib.cut l [32, 45] = (l.take i, l.drop (i + 2), true) ∧ l = l.take i ++ [32, 45] ++ l.drop (i + 2) := by
 rcases Lib.index_spec l [32, 45] with ⟨_, h⟩ | ⟨i, _, _, h3, h4⟩
 · exact .inl (cut_no h)
 · exact .inr ⟨i, cut_at h3 h4⟩
theorem delta_text {l : List UInt8} (hf : (Lib.cut l [32, 45]).2.2 = true) (hp : Lib.hasPrefix (Lib.cut l [32, 45]).1 [43] = true) (h1 : (parseP ((Lib.cut l [32, 45]).1.drop 1)).2 = true) (h2 : (parseP (Lib.cut l [32, 45]).2.1).2 = true) :
 decide (fmtDelta ⟨(parseP ((Lib.cut l [32, 45]).1.drop 1)).1, (parseP (Lib.cut l [32, 45]).2.1).1⟩ = l) = isDelta ⟨(parseP ((Lib.cut l [32, 45]).1.drop 1)).1, (parseP (Lib.cut l [32, 45]).2.1).1⟩ := by
 have e1 := parseP_fmt h1
 have e2 := parseP_fmt h2
 rcases cut_cases l with h | ⟨i, h, hl⟩
 · rw [h] at hf; cases hf
 · unfold fmtDelta
   by_cases hd : isDelta ⟨(parseP ((Lib.cut l [32, 45]).1.drop 1)).1, (parseP (Lib.cut l [32, 45]).2.1).1⟩ = true
   · rw [if_pos hd, hd]
     simp only [e1, e2]
     rw [decide_eq_true_eq]
     rw [h] at hp ⊢
     simp only at hp ⊢
     conv => rhs; rw [hl]
     generalize l.take i = x at hp ⊢
     match x, hp with
     | y :: r, hp =>
      have : y = 43 := by
       simp [Lib.hasPrefix, List.isPrefixOf] at hp
       exact hp.symm
      subst this; rfl
   · rw [if_neg hd, Bool.eq_false_iff.2 hd, decide_eq_false_iff_not]
     intro e
     rw [← e] at hl
     simp at hl
end Go.Q
