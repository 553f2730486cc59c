/- Edges, batches, records and logs read again: the plain law. -/
import Derived.Test.YtoealglkenhphaaDoorB85xb
import Derived.Test.YtoealglkenhphaaDoorB90xb
import Derived.Lib.IndexMore
set_option linter.unusedVariables false
set_option linter.unusedSimpArgs false
set_option maxHeartbeats 1000000
set_option maxRecDepth 100000
namespace Go.Q
open Go.D
/-! ### Numbers -/
theorem parseI_numS {n : Int} (h : 0 ≤ n ∧ n ≤ 999999999) : parseI (numS n) = (n, true) := by
  rw [← itoS_num h.1, parseI_of rfl, if_pos (by omega)]
theorem numS_dg (n : Int) : (numS n).all isDg = true := dig_all (n.toNat + 1) n.toNat (by omega)
theorem numS_no {n : Int} {c : UInt8} (h : isDg c = false) : c ∉ numS n := fun hm => by
  have := List.all_eq_true.1 (numS_dg n) c hm
  rw [h] at this; cases this
theorem numS_one {n : Int} (h : 0 ≤ n ∧ n ≤ 9) : numS n = [UInt8.ofNat (48 + n.toNat)] := by unfold numS; exact dig_small (by omega)
/-! ### Cut at one byte -/
theorem occ1 {l : List UInt8} {i : Nat} {a : UInt8} : Lib.occAt l [a] i = true ↔ l[i]? = some a := by
  unfold Lib.occAt
  have e1 : l[i]? = (l.drop i)[0]? := by simp
  rw [e1]
  match l.drop i with
  | [] => simp
  | x :: r => simp [List.isPrefixOf]; exact ⟨fun h => h.symm, fun h => h.symm⟩
theorem cut1_at {c : UInt8} {x y : List UInt8} (h : c ∉ x) : Lib.cut (x ++ c :: y) [c] = (x, y, true) := by
  have hi : Lib.index (x ++ c :: y) [c] = (x.length : Nat) := by
    refine Lib.index_first (by simp) (occ1.2 (by simp)) fun j hj => Bool.eq_false_iff.2 fun hh => ?_
    have := occ1.1 hh
    rw [List.getElem?_append_left hj] at this
    exact h (List.mem_of_getElem? this)
  unfold Lib.cut
  rw [hi, if_pos (by omega)]
  simp
theorem cut1_nil (c : UInt8) : (Lib.cut [] [c]).2.1 = [] := by
  unfold Lib.cut
  split <;> simp
/-! ### Edges -/
def threeE (e : TEdge) : List UInt8 := [UInt8.ofNat (48 + e.From.toNat), UInt8.ofNat (97 + e.Label.toNat), UInt8.ofNat (48 + e.To.toNat)]
theorem ofN {k : Nat} (h : k < 256) : (UInt8.ofNat k).toNat = k := by rw [UInt8.toNat_ofNat']; omega
theorem edge_txt {e : TEdge} (h : edgeOk e 5 = true) : fmtEdge e = numS e.ID ++ 58 :: threeE e := by
  obtain ⟨h1, h2, h3, h4⟩ := edge_r h
  unfold fmtEdge threeE
  rw [if_pos h, numS_one (n := e.From) (by omega), numS_one (n := e.To) (by omega)]
  have hl : letS (2 * e.Label) = [UInt8.ofNat (97 + e.Label.toNat)] := by
    have : e.Label = 0 ∨ e.Label = 1 ∨ e.Label = 2 := by omega
    rcases this with g | g | g <;> rw [g] <;> rfl
  rw [hl]; simp
theorem three_no {e : TEdge} (h : edgeOk e 5 = true) : (58 : UInt8) ∉ threeE e := by
  obtain ⟨h1, h2, h3, h4⟩ := edge_r h
  unfold threeE
  simp only [List.mem_cons, List.not_mem_nil, or_false, not_or]
  refine ⟨fun g => ?_, fun g => ?_, fun g => ?_⟩ <;> have g := congrArg UInt8.toNat g <;> rw [ofN (by omega)] at g <;> change 58 = _ at g <;> omega
def edgeRd (a b : List UInt8) : TEdge := ⟨(parseI a).1, ((b[0]?.getD 0).toNat : Int) - 48, ((b[2]?.getD 0).toNat : Int) - 48, ((b[1]?.getD 0).toNat : Int) - 97⟩
theorem edgeRd_fmt {e : TEdge} (h : edgeOk e 5 = true) : edgeRd (numS e.ID) (threeE e) = e := by
  obtain ⟨h1, h2, h3, h4⟩ := edge_r h
  unfold edgeRd threeE
  rw [parseI_numS (by omega)]
  simp only [List.getElem?_cons_zero, List.getElem?_cons_succ, Option.getD_some]
  rw [ofN (by omega), ofN (by omega), ofN (by omega)]
  obtain ⟨a, b, c, d⟩ := e
  simp only at h1 h2 h3 h4
  simp only [TEdge.mk.injEq, true_and]
  refine ⟨?_, ?_, ?_⟩ <;> omega
def noE : TEdge := ⟨0, 0, 0, 0⟩
def parseE (l : List UInt8) : TEdge × Bool :=
  if (Lib.cut l [58]).2.1.length = 3 ∧ fmtEdge (edgeRd (Lib.cut l [58]).1 (Lib.cut l [58]).2.1) = l then (edgeRd (Lib.cut l [58]).1 (Lib.cut l [58]).2.1, true) else (noE, false)
theorem parseE_fmt {e : TEdge} (h : edgeOk e 5 = true) : parseE (fmtEdge e) = (e, true) := by
  have hc : Lib.cut (fmtEdge e) [58] = (numS e.ID, threeE e, true) := by rw [edge_txt h]; exact cut1_at (numS_no (by decide))
  unfold parseE
  rw [hc]
  simp only [edgeRd_fmt h]
  rw [if_pos ⟨rfl, trivial⟩]
theorem fmtEdge_ok {e : TEdge} (h : fmtEdge e ≠ []) : edgeOk e 5 = true := by
  unfold fmtEdge at h
  split at h
  · assumption
  · exact absurd rfl h
theorem parseE_get {l : List UInt8} (h : (parseE l).2 = true) : edgeOk (parseE l).1 5 = true ∧ fmtEdge (parseE l).1 = l := by
  unfold parseE at h ⊢
  split
  · rename_i hc
    refine ⟨fmtEdge_ok fun e => ?_, hc.2⟩
    have h1 := hc.1
    have h2 := hc.2
    rw [e] at h2
    rw [← h2, cut1_nil] at h1; cases h1
  · rename_i hc; rw [if_neg hc] at h; cases h
theorem parseE_no {l : List UInt8} (h : ∀ e, edgeOk e 5 = true → fmtEdge e ≠ l) : parseE l = (noE, false) := by
  by_cases g : (parseE l).2 = true
  · obtain ⟨h1, h2⟩ := parseE_get g
    exact absurd h2 (h _ h1)
  · unfold parseE at g ⊢
    split
    · rename_i hc; rw [if_pos hc] at g; exact absurd rfl g
    · rfl
/-- What spec reads of a letter. -/
def letP (s : List UInt8) : Int × Bool := match (List.range 9).find? (fun k => decide (letS (k : Nat) = s)) with
  | some k => ((k : Int), true)
  | none => (0, false)
theorem letP_at {s : List UInt8} {k : Nat} (hk : k < 9) (h : letS (k : Nat) = s) (hn : ∀ j, j < k → letS (j : Nat) ≠ s) : letP s = ((k : Int), true) := by
  have : (List.range 9).find? (fun k => decide (letS (k : Nat) = s)) = some k := by
    rw [List.find?_range_eq_some]
    exact ⟨decide_eq_true h, List.mem_range.2 hk, fun j hj => by simpa using hn j hj⟩
  unfold letP
  rw [this]
theorem letP_no {s : List UInt8} (hn : ∀ j, j < 9 → letS (j : Nat) ≠ s) : letP s = (0, false) := by
  have : (List.range 9).find? (fun k => decide (letS (k : Nat) = s)) = none := by
    rw [List.find?_eq_none]
    intro x hx
    simpa using hn x (List.mem_range.1 hx)
  unfold letP
  rw [this]
theorem letP_le (s : List UInt8) : 0 ≤ (letP s).1 ∧ (letP s).1 ≤ 8 := by
  unfold letP
  split
  · rename_i k hk
    have := List.mem_range.1 (List.mem_of_find?_eq_some hk)
    simp only; omega
  · simp
def edgeSp (a b : List UInt8) : TEdge := ⟨(parseI a).1, ((b[0]?.getD 0).toNat : Int) - 48, ((b[2]?.getD 0).toNat : Int) - 48, (letP [b[1]?.getD 0]).1 / 2⟩
theorem edgeSp_fmt {e : TEdge} (h : edgeOk e 5 = true) : edgeSp (numS e.ID) (threeE e) = e := by
  have h0 := edgeRd_fmt h
  obtain ⟨h1, h2, h3, h4⟩ := edge_r h
  have hl : (letP [UInt8.ofNat (97 + e.Label.toNat)]).1 / 2 = e.Label := by
    have : e.Label = 0 ∨ e.Label = 1 ∨ e.Label = 2 := by omega
    rcases this with g | g | g <;> rw [g] <;> decide
  unfold edgeRd at h0
  unfold edgeSp
  have e1 : [(threeE e)[1]?.getD 0] = [UInt8.ofNat (97 + e.Label.toNat)] := rfl
  rw [e1, hl]
  have := congrArg TEdge.From h0
  have := congrArg TEdge.To h0
  have := congrArg TEdge.ID h0
  cases e
  simp_all
theorem split_fmt {e : TEdge} (h : edgeOk e 5 = true) : splitL 58 (fmtEdge e) = [numS e.ID, threeE e] := by
  rw [edge_txt h, splitL_hit (numS_no (by decide)), splitL_no (three_no h)]
theorem spec_edge {l a b : List UInt8} (hs : splitL 58 l = [a, b]) : parseE l = if fmtEdge (edgeSp a b) = l then (edgeSp a b, true) else (noE, false) := by
  split
  · rename_i h
    have hne : fmtEdge (edgeSp a b) ≠ [] := by
      intro e; rw [e] at h; subst h; cases hs
    have := parseE_fmt (fmtEdge_ok hne)
    rwa [h] at this
  · rename_i h
    refine parseE_no fun e he hl => h ?_
    rw [← hl, split_fmt he] at hs
    cases hs
    rw [edgeSp_fmt he]; exact hl
theorem spec_edge_no {l : List UInt8} (hs : ∀ a b, splitL 58 l = [a, b] → b.length ≠ 3) : parseE l = (noE, false) :=
  parseE_no fun e he hl => hs _ _ (by rw [← hl, split_fmt he]) rfl
/-! ### Batches -/
def chOf (p : List UInt8) : TChange := ⟨decide (p[0]?.getD 0 = 43), (parseE (p.drop 1)).1⟩
def chGood (p : List UInt8) : Bool := decide (1 ≤ p.length) && (parseE (p.drop 1)).2
def parseB (l : List UInt8) : TBatch × Bool := if l = [] then (⟨[]⟩, true) else if (splitL 32 l).all chGood = true ∧ fmtBatch ⟨(splitL 32 l).map chOf⟩ = l then (⟨(splitL 32 l).map chOf⟩, true) else (⟨[]⟩, false)
theorem parseB_bad {l p : List UInt8} {k : Nat} (h0 : l ≠ []) (hp : (splitL 32 l)[k]? = some p) (h : chGood p = false) : parseB l = (⟨[]⟩, false) := by
  unfold parseB
  rw [if_neg h0, if_neg fun hh => ?_]
  have := List.all_eq_true.1 hh.1 p (List.mem_of_getElem? hp)
  rw [h] at this; cases this
theorem parseB_all {l : List UInt8} {k : Nat} (h0 : l ≠ []) (hk : (splitL 32 l).length ≤ k) (h : ∀ j p, j < k → (splitL 32 l)[j]? = some p → chGood p = true) : parseB l = if fmtBatch ⟨(splitL 32 l).map chOf⟩ = l then (⟨(splitL 32 l).map chOf⟩, true) else (⟨[]⟩, false) := by
  unfold parseB
  rw [if_neg h0]
  have : (splitL 32 l).all chGood = true := List.all_eq_true.2 fun p hp => by
    obtain ⟨j, hj⟩ := List.getElem?_of_mem hp
    exact h j p (Nat.lt_of_lt_of_le (List.getElem?_eq_some_iff.1 hj).1 hk) hj
  simp [this]
/-- Spec stops behind the seventh part. -/
theorem parseB_seven {l : List UInt8} {k : Nat} (h0 : l ≠ []) (hk : (splitL 32 l).length ≤ k ∨ 7 ≤ k) (h : ∀ j p, j < k → (splitL 32 l)[j]? = some p → chGood p = true) : parseB l = if fmtBatch ⟨((splitL 32 l).take k).map chOf⟩ = l then (⟨((splitL 32 l).take k).map chOf⟩, true) else (⟨[]⟩, false) := by
  by_cases h1 : (splitL 32 l).length ≤ k
  · rw [List.take_of_length_le h1]; exact parseB_all h0 h1 h
  · have h2 : fmtBatch ⟨((splitL 32 l).take k).map chOf⟩ = [] := batch_long (by simp; omega)
    have h3 : fmtBatch ⟨(splitL 32 l).map chOf⟩ = [] := batch_long (by simp; omega)
    rw [h2, if_neg (Ne.symm h0)]
    unfold parseB
    rw [if_neg h0, if_neg fun hh => ?_]
    rw [h3] at hh
    exact h0 hh.2.symm
theorem parts_more {l : List (List UInt8)} {k : Nat} {x : List UInt8} {g : List UInt8 → Bool} (h : ∀ j p, j < k → l[j]? = some p → g p = true) (hx : l[k]? = some x) (h2 : g x = true) : ∀ j p, j < k + 1 → l[j]? = some p → g p = true := fun j p hj hp => by
  by_cases e : j = k
  · subst e; rw [hx] at hp; cases hp; exact h2
  · exact h j p (by omega) hp
theorem parseB_few (l : List UInt8) : (parseB l).1.Changes.length ≤ 6 := by
  unfold parseB
  split
  · simp
  · rename_i h0
    split
    · rename_i hc
      simp only
      rcases Nat.lt_or_ge 6 ((splitL 32 l).map chOf).length with h | h
      · have := batch_long (b := ⟨(splitL 32 l).map chOf⟩) h
        rw [this] at hc
        exact absurd hc.2.symm h0
      · exact h
    · simp
/-! ### Records -/
def recG (l : List UInt8) : Bool := decide ((splitL 59 l).length = 3) && (parseI ((splitL 59 l)[0]?.getD [])).2 && (parseB ((splitL 59 l)[1]?.getD [])).2 && decide (encRec (parseI ((splitL 59 l)[0]?.getD [])).1 (parseB ((splitL 59 l)[1]?.getD [])).1 = l)
def recV (l : List UInt8) : Int := if recG l = true then (parseI ((splitL 59 l)[0]?.getD [])).1 else 0
def recB (l : List UInt8) : TBatch := if recG l = true then (parseB ((splitL 59 l)[1]?.getD [])).1 else ⟨[]⟩
theorem rec_yes {l a b c : List UInt8} (hs : splitL 59 l = [a, b, c]) (h1 : (parseI a).2 = true) (h2 : (parseB b).2 = true) (h3 : encRec (parseI a).1 (parseB b).1 = l) : recG l = true ∧ recV l = (parseI a).1 ∧ recB l = (parseB b).1 := by
  have hg : recG l = true := by
    unfold recG
    rw [hs]
    simp [h1, h2, h3]
  refine ⟨hg, ?_, ?_⟩
  · unfold recV; rw [if_pos hg, hs]; rfl
  · unfold recB; rw [if_pos hg, hs]; rfl
theorem rec_none {l : List UInt8} (h : recG l = false) : recV l = 0 ∧ recB l = ⟨[]⟩ := by
  unfold recV recB
  rw [if_neg (by rw [h]; decide), if_neg (by rw [h]; decide)]
  exact ⟨rfl, rfl⟩
theorem rec_not3 {l : List UInt8} (hs : (splitL 59 l).length ≠ 3) : recG l = false := by
  unfold recG
  simp [hs]
theorem rec_bad {l a b c : List UInt8} (hs : splitL 59 l = [a, b, c]) (h : (parseI a).2 = false ∨ (parseB b).2 = false ∨ encRec (parseI a).1 (parseB b).1 ≠ l) : recG l = false := by
  unfold recG
  rw [hs]
  rcases h with h | h | h <;> simp [h]
theorem recG_get {l : List UInt8} (h : recG l = true) : encRec (recV l) (recB l) = l ∧ (1 ≤ recV l ∧ recV l ≤ 999) ∧ (recB l).Changes.length ≤ 6 := by
  have hg := h
  unfold recG at h
  simp only [Bool.and_eq_true, decide_eq_true_eq] at h
  have he : encRec (recV l) (recB l) = l := by
    unfold recV recB
    rw [if_pos hg, if_pos hg]; exact h.2
  refine ⟨he, ?_, ?_⟩
  · unfold encRec at he
    split at he
    · rename_i hr
      unfold recOk inB at hr
      simp at hr; omega
    · rw [← he] at h
      simp [splitL] at h
  · unfold recB
    rw [if_pos hg]; exact parseB_few _
theorem recB_few (l : List UInt8) : (recB l).Changes.length ≤ 6 := by
  by_cases h : recG l = true
  · exact (recG_get h).2.2
  · rw [(rec_none (Bool.eq_false_iff.2 h)).2]; simp
/-! ### Logs -/
/-- The place of the first line's end at or behind a place. -/
def nlAt (l : List UInt8) (i : Nat) : Option Nat := (l.drop i).findIdx? fun b => decide (b = 10)
def scanF : Nat → List UInt8 → List Int → List TBatch → Nat → List Int × List TBatch × Nat
  | 0, _, vs, bt, i => (vs, bt, i)
  | f + 1, l, vs, bt, i => match nlAt l i with
    | none => (vs, bt, i)
    | some n => if recG ((l.drop i).take (n + 1)) = true ∧ (vs = [] ∨ recV ((l.drop i).take (n + 1)) = vs.getLast?.getD 0 + 1) then
        scanF f l (vs ++ [recV ((l.drop i).take (n + 1))]) (bt ++ [recB ((l.drop i).take (n + 1))]) (i + n + 1) else (vs, bt, i)
def scanL (l : List UInt8) : List Int × List TBatch × Nat := if l.length ≤ 4000 then scanF (l.length + 1) l [] [] 0 else ([], [], 0)
theorem nlAt_some {l : List UInt8} {i n : Nat} (h : nlAt l i = some n) : l[i + n]? = some 10 ∧ ∀ k, k < n → l[i + k]? ≠ some 10 := by
  unfold nlAt at h
  rw [List.findIdx?_eq_some_iff_getElem] at h
  obtain ⟨h1, h2, h3⟩ := h
  rw [List.length_drop] at h1
  refine ⟨?_, fun k hk hh => ?_⟩
  · rw [List.getElem?_eq_getElem (by omega)]
    simpa using h2
  · have h4 := h3 k hk
    rw [List.getElem?_eq_getElem (by omega)] at hh
    simp only [List.getElem_drop, decide_eq_true_eq] at h4
    exact h4 (by simpa using hh)
theorem nlAt_intro {l : List UInt8} {i n : Nat} (h1 : l[i + n]? = some 10) (h2 : ∀ k, k < n → l[i + k]? ≠ some 10) : nlAt l i = some n := by
  have hl := (List.getElem?_eq_some_iff.1 h1).1
  unfold nlAt
  rw [List.findIdx?_eq_some_iff_getElem]
  refine ⟨by rw [List.length_drop]; omega, ?_, fun j hj => ?_⟩
  · rw [List.getElem?_eq_getElem hl] at h1
    simpa using h1
  · have := h2 j hj
    rw [List.getElem?_eq_getElem (by omega)] at this
    simpa using this
theorem nlAt_none {l : List UInt8} {i : Nat} (h : ∀ k, i ≤ k → l[k]? ≠ some 10) : nlAt l i = none := by
  unfold nlAt
  rw [List.findIdx?_eq_none_iff]
  intro x hx
  obtain ⟨j, hj⟩ := List.getElem?_of_mem hx
  rw [List.getElem?_drop] at hj
  have := h (i + j) (by omega)
  rw [hj] at this
  simpa using this
theorem nlAt_index (l : List UInt8) (i : Nat) : Lib.indexByte (l.drop i) 10 = match nlAt l i with | some n => (n : Int) | none => -1 := by
  have h := Lib.indexByte_none (l := l.drop i) (c := 10)
  rcases Lib.index_spec (l.drop i) [10] with ⟨h1, h2⟩ | ⟨n, h1, h2, h3, h4⟩
  · rw [Lib.index_one] at h1
    rw [nlAt_none, h1]
    intro k hk hh
    have := h h1 (k - i)
    rw [List.getElem?_drop, show i + (k - i) = k by omega] at this
    exact this hh
  · have hx := Lib.index_first h2 h3 h4
    rw [Lib.index_one] at hx
    obtain ⟨g1, g2⟩ := Lib.indexByte_some hx
    rw [List.getElem?_drop] at g1
    rw [nlAt_intro g1 fun k hk => by have := g2 k hk; rwa [List.getElem?_drop] at this, hx]
theorem scan_none {f : Nat} {l : List UInt8} {vs : List Int} {bt : List TBatch} {i : Nat} (h : nlAt l i = none) : scanF f l vs bt i = (vs, bt, i) := by
  cases f with
  | zero => rfl
  | succ f => unfold scanF; rw [h]
theorem scan_stop {f : Nat} {l : List UInt8} {vs : List Int} {bt : List TBatch} {i n : Nat} (h : nlAt l i = some n) (hb : recG ((l.drop i).take (n + 1)) = false ∨ vs ≠ [] ∧ recV ((l.drop i).take (n + 1)) ≠ vs.getLast?.getD 0 + 1) : scanF f l vs bt i = (vs, bt, i) := by
  cases f with
  | zero => rfl
  | succ f =>
    unfold scanF; rw [h]
    simp only
    rw [if_neg]
    rintro ⟨h1, h2⟩
    rcases hb with hb | ⟨h3, h4⟩
    · rw [h1] at hb; cases hb
    · rcases h2 with h2 | h2
      · exact h3 h2
      · exact h4 h2
theorem scan_more {f : Nat} {l : List UInt8} {vs : List Int} {bt : List TBatch} {i n : Nat} (h : nlAt l i = some n) (h1 : recG ((l.drop i).take (n + 1)) = true) (h2 : vs = [] ∨ recV ((l.drop i).take (n + 1)) = vs.getLast?.getD 0 + 1) :
    scanF (f + 1) l vs bt i = scanF f l (vs ++ [recV ((l.drop i).take (n + 1))]) (bt ++ [recB ((l.drop i).take (n + 1))]) (i + n + 1) := by
  conv => lhs; unfold scanF
  rw [h]
  simp only
  rw [if_pos ⟨h1, h2⟩]
/-- What is scanned is bounded. -/
theorem scanF_few : ∀ (f : Nat) (l : List UInt8) (vs : List Int) (bt : List TBatch) (i : Nat), vs.length ≤ i → bt.length = vs.length → i ≤ l.length → (∀ b ∈ bt, b.Changes.length ≤ 6) →
    (scanF f l vs bt i).1.length ≤ l.length ∧ (scanF f l vs bt i).2.1.length = (scanF f l vs bt i).1.length ∧ ∀ b ∈ (scanF f l vs bt i).2.1, b.Changes.length ≤ 6
  | 0, l, vs, bt, i, h1, h2, h3, h4 => ⟨by simp only [scanF]; omega, h2, h4⟩
  | f + 1, l, vs, bt, i, h1, h2, h3, h4 => by
    cases hn : nlAt l i with
    | none => rw [scan_none hn]; exact ⟨by simp only; omega, h2, h4⟩
    | some n =>
      by_cases hc : recG ((l.drop i).take (n + 1)) = true ∧ (vs = [] ∨ recV ((l.drop i).take (n + 1)) = vs.getLast?.getD 0 + 1)
      · have hl := (List.getElem?_eq_some_iff.1 (nlAt_some hn).1).1
        rw [scan_more hn hc.1 hc.2]
        refine scanF_few f l _ _ _ (by simp; omega) (by simp [h2]) (by omega) fun b hb => ?_
        rcases List.mem_append.1 hb with hb | hb
        · exact h4 b hb
        · rw [List.mem_singleton] at hb; subst hb; exact recB_few _
      · rw [scan_stop hn]
        · exact ⟨by simp only; omega, h2, h4⟩
        · rcases Classical.em (recG ((l.drop i).take (n + 1)) = true) with g | g
          · exact .inr ⟨fun e => hc ⟨g, .inl e⟩, fun e => hc ⟨g, .inr e⟩⟩
          · exact .inl (Bool.eq_false_iff.2 g)
end Go.Q
