import Derived.Test.YtbkhopfpejhnlaaGreatDoorB85ta
import Derived.Test.YtbkhopfpejhnlaaGreatDoorB82ta
import Derived.Lib.IndexMore
set_option linter.unusedVariables false
set_option linter.unusedSimpArgs false
set_option maxHeartbeats 1000000
set_option maxRecDepth 100000
namespace Go.Q
open Go.D
theorem parseI_numS {n : Int} (h : 0 ≤ n ∧ n ≤ 999999999) : parseI (numS n) = (n, true) := by
 rw [← itoS_num h.1, parseI_of rfl, if_pos (by omega)]
theorem numS_dg (n : Int) : (numS n).all isDg = true := dig_all (n.toNat + 1) n.toNat (by omega)
theorem numS_no {n : Int} {c : UInt8} (h : isDg c = false) : c ∉ numS n := fun hm => by
 have := List.all_eq_true.1 (numS_dg n) c hm
 rw [h] at this; cases this
theorem numS_one {n : Int} (h : 0 ≤ n ∧ n ≤ 9) : numS n = [UInt8.ofNat (48 + n.toNat)] := by unfold numS; exact dig_small (by omega)
theorem occ1 {l : List UInt8} {i : Nat} {a : UInt8} : Lib.occAt l [a] i = true ↔ l[i]? = some a := by
 unfold Lib.occAt
 have e1 : l[i]? = (l.drop i)[0]? := by simp
 rw [e1]
 match l.drop i with
 | [] => simp
 | x :: r => simp [List.isPrefixOf]; exact ⟨fun h => h.symm, fun h => h.symm⟩
theorem cut1_at {c : UInt8} {x y : List UInt8} (h : c ∉ x) : Lib.cut (x ++ c :: y) [c] = (x, y, true) := by
 have hi : Lib.index (x ++ c :: y) [c] = (x.length : Nat) := by
  refine Lib.index_first (by simp) (occ1.2 (by simp)) fun j hj => Bool.eq_false_iff.2 fun hh => ?_
  have := occ1.1 hh
  rw [List.getElem?_append_left hj] at this
  exact h (List.mem_of_getElem? this)
 unfold Lib.cut
 rw [hi, if_pos (by omega)]
 simp
theorem cut1_nil (c : UInt8) : (Lib.cut [] [c]).2.1 = [] := by
 unfold Lib.cut
 split <;> simp
def threeE (e : TEdge) : List UInt8 := [UInt8.ofNat (48 + e.From.toNat), UInt8.ofNat (97 + e.Label.toNat), UInt8.ofNat (48 + e.To.toNat)]
theorem ofN {k : Nat} (h : k < 256) : (UInt8.ofNat k).toNat = k := by rw [UInt8.toNat_ofNat']; omega
theorem edge_txt {e : TEdge} (h : edgeOk e 5 = true) : fmtEdge e = numS e.ID ++ 58 :: threeE e := by
 obtain ⟨h1, h2, h3, h4⟩ := edge_r h
 unfold fmtEdge threeE
 rw [if_pos h, numS_one (n := e.From) (by omega), numS_one (n := e.To) (by omega)]
 have hl : letS (2 * e.Label) = [UInt8.ofNat (97 + e.Label.toNat)] := by
  have : e.Label = 0 ∨ e.Label = 1 ∨ e.Label = 2 := by omega
  rcases this with g | g | g <;> rw [g] <;> rfl
 rw [hl]; simp
theorem three_no {e : TEdge} (h : edgeOk e 5 = true) : (58 : UInt8) ∉ threeE e := by
 obtain ⟨h1, h2, h3, h4⟩ := edge_r h
 unfold threeE
 simp only [List.mem_cons, List.not_mem_nil, or_false, not_or]
 refine ⟨fun g => ?_, fun g => ?_, fun g => ?_⟩ <;> have g := congrArg UInt8.toNat g <;> rw [ofN (by omega)] at g <;> change 58 = _ at g <;> omega
def edgeRd (a b : List UInt8) : TEdge := ⟨(parseI a).1, ((b[0]?.getD 0).toNat : Int) - 48, ((b[2]?.getD 0).toNat : Int) - 48, ((b[1]?.getD 0).toNat : Int) - 97⟩
theorem edgeRd_fmt {e : TEdge} (h : edgeOk e 5 = true) : edgeRd (numS e.ID) (threeE e) = e := by
 obtain ⟨h1, h2, h3, h4⟩ := edge_r h
 unfold edgeRd threeE
 rw [parseI_numS (by omega)]
 simp only [List.getElem?_cons_zero, List.getElem?_cons_succ, Option.getD_some]
 rw [ofN (by omega), ofN (by omega), ofN (by omega)]
 obtain ⟨a, b, c, d⟩ := e
 simp only at h1 h2 h3 h4
 simp only [TEdge.mk.injEq, true_and]
 refine ⟨?_, ?_, ?_⟩ <;> omega
def noE : TEdge := ⟨0, 0, 0, 0⟩
def parseE (l : List UInt8) : TEdge × Bool :=
 if (Lib.cut l [58]).2.1.length = 3 ∧ fmtEdge (edgeRd (Lib.cut l [58]).1 (Lib.cut l [58]).2.1) = l then (edgeRd (Lib.cut l [58]).1 (Lib.cut l [58]).2.1, true) else (noE, false)
theorem parseE_fmt {e : TEdge} (h : edgeOk e 5 = true) : parseE (fmtEdge e) = (e, true) := by
 have hc : Lib.cut (fmtEdge e) [58] = (numS e.ID, threeE e, true) := by rw [edge_txt h]; exact cut1_at (numS_no (by decide))
 unfold parseE
 rw [hc]
 simp only [edgeRd_fmt h]
 rw [if_pos ⟨rfl, trivial⟩]
theorem fmtEdge_ok {e : TEdge} (h : fmtEdge e ≠ []) : edgeOk e 5 = true := by
 unfold fmtEdge at h
 split at h
 · assumption
 · exact absurd rfl h
theorem parseE_get {l : List UInt8} (h : (parseE l).2 = true) : edgeOk (parseE l).1 5 = true ∧ fmtEdge (parseE l).1 = l := by
 unfold parseE at h ⊢
 split
 · rename_i hc
   refine ⟨fmtEdge_ok fun e => ?_, hc.2⟩
   have h1 := hc.1
   have h2 := hc.2
   rw [e] at h2
   rw [← h2, cut1_nil] at h1; cases h1
 · rename_i hc; rw [if_neg hc] at h; cases h
theorem parseE_no {l : List UInt8} (h : ∀ e, edgeOk e 5 = true → fmtEdge e ≠ l) : parseE l = (noE, false) := by
 by_cases g : (parseE l).2 = true
 · obtain ⟨h1, h2⟩ := parseE_get g
   exact absurd h2 (h _ h1)
 · unfold parseE at g ⊢
   split
   · rename_i hc; rw [if_pos hc] at g; exact absurd rfl g
   · rfl
def letP (s : List UInt8) : Int × Bool := match (List.range 9).find? (fun k => decide (letS (k : Nat) = s)) with
 | some k => ((k : Int), true)
 | none => (0, false)
theorem letP_at {s : List UInt8} {k : Nat} (hk : k < 9) (h : letS (k : Nat) = s) (hn : ∀ j, j < k → letS (j : Nat) ≠ s) : letP s = ((k : Int), true) := by
 have : (List.range 9).find? (fun k => decide (letS (k : Nat) = s)) = some k := by
  rw [List.find?_range_eq_some]
  exact ⟨decide_eq_true h, List.mem_range.2 hk, fun j hj => by simpa using hn j hj⟩
 unfold letP
 rw [this]
theorem letP_no {s : List UInt8} (hn : ∀ j, j < 9 → letS (j : Nat) ≠ s) : letP s = (0, false) := by
 have : (List.range 9).find? (fun k => decide (letS (k : Nat) = s)) = none := by
  rw [List.find?_eq_none]
  intro x hx
  simpa using hn x (List.mem_range.1 hx)
 unfold letP
 rw [this]
theorem letP_le (s : List UInt8) : 0 ≤ (letP s).1 ∧ (letP s).1 ≤ 8 := by
 unfold letP
 split
 · rename_i k hk
   have := List.mem_range.1 (List.mem_of_find?_eq_some hk)
   simp only; omega
 · simp
def edgeSp (a b : List UInt8) : TEdge := ⟨(parseI a).1, ((b[0]?.getD 0).toNat : Int) - 48, ((b[2]?.getD 0).toNat : Int) - 48, (letP [b[1]?.getD 0]).1 / 2⟩
theorem edgeSp_fmt {e : TEdge} (h : edgeOk e 5 = true) : edgeSp (numS e.ID) (threeE e) = e := by
 have h0 := edgeRd_fmt h
 obtain ⟨h1, h2, h3, h4⟩ := edge_r h
 have hl : (letP [UInt8.ofNat (97 + e.Label.toNat)]).1 / 2 = e.Label := by
  have : e.Label = 0 ∨ e.Label = 1 ∨ e.Label = 2 := by omega
  rcases this with g | g | g <;> rw [g] <;> decide
 unfold edgeRd at h0
 unfold edgeSp
 have e1 : [(threeE e)[1]?.getD 0] = [UInt8.ofNat (97 + e.Label.toNat)] := rfl
 rw [e1, hl]
 have := congrArg TEdge.From h0
 have := congrArg TEdge.To h0
 have := congrArg TEdge.ID h0
 cases e
 simp_all
theorem split_fmt {e : TEdge} (h : edgeOk e 5 = true) : splitL 58 (fmtEdge e) = [numS e.ID, threeE e] := by
 rw [edge_txt h, splitL_hit (numS_no (by decide)), splitL_no (three_no h)]
theorem spec_edge {l a b : List UInt8} (hs : splitL 58 l = [a, b]) : parseE l = if fmtEdge (edgeSp a b) = l then (edgeSp a b, true) else (noE, false) := by
 split
 · rename_i h
   have hne : fmtEdge (edgeSp a b) ≠ [] := by
    intro e; rw [e] at h; subst h; cases hs
   have := parseE_fmt (fmtEdge_ok hne)
   rwa [h] at this
 · rename_i h
   refine parseE_no fun e he hl => h ?_
   rw [← hl, split_fmt he] at hs
   cases hs
   rw [edgeSp_fmt he]; exact hl
theorem spec_edge_no {l : List UInt8} (hs : ∀ a b, splitL 58 l = [a, b] → b.length ≠ 3) : parseE l = (noE, false) :=
 parseE_no fun e he hl => hs _ _ (by rw [← hl, split_fmt he]) rfl
def chOf (p : List UInt8) : TChange := ⟨decide (p[0]?.getD 0 = 43), (parseE (p.drop 1)).1⟩
def chGood (p : List UInt8) : Bool := decide (1 ≤ p.length) && (parseE (p.drop 1)).2
def parseB (l : List UInt8) : TBatch × Bool := if l = [] then (⟨[]⟩, true) else if (splitL 32 l).all chGood = true ∧ fmtBatch ⟨(splitL 32 l).map chOf⟩ = l then (⟨(splitL 32 l).map chOf⟩, true) else (⟨[]⟩, false)
theorem parseB_bad {l p : List UInt8} {k : Nat} (h0 : l ≠ []) (hp : (splitL 32 l)[k]? = some p) (h : chGood p = false) : parseB l = (⟨[]⟩, false) := by
 unfold parseB
 rw [if_neg h0, if_neg fun hh => ?_]
 have := List.all_eq_true.1 hh.1 p (List.mem_of_getElem? hp)
 rw [h] at this; cases this
theorem parseB_all {l : List UInt8} {k : Nat} (h0 : l ≠ []) (hk : (splitL 32 l).length ≤ k) (h : ∀ j p, j < k → (splitL 32 l)[j]? = some p → chGood p = true) : parseB l = if fmtBatch ⟨(splitL 32 l).map chOf⟩ = l then (⟨(splitL 32 l).map chOf⟩, true) else (⟨[]⟩, false) := by
 unfold parseB
 rw [if_neg h0]
 have : (splitL 32 l).all chGood = true := List.all_eq_true.2 fun p hp => by
  obtain ⟨j, hj⟩ := List.getElem?_of_mem hp
  exact h j p (Nat.lt_of_lt_of_le (List.getElem?_eq_some_iff.1 hj).1 hk) hj
 simp [this]
theorem parseB_seven {l : List UInt8} {k : Nat} (h0 : l ≠ []) (hk : (splitL 32 l).length ≤ k ∨ 7 ≤ k) (h : ∀ j p, j < k → (splitL 32 l)[j]? = some p → chGood p = true) : parseB l = if fmtBatch ⟨((splitL 32 l).take k).map chOf⟩ = l then (⟨((splitL 32 l).take k).map chOf⟩, true) else (⟨[]⟩, false) := by
 by_cases h1 : (splitL 32 l).length ≤ k
 · rw [List.take_of_length_le h1]; exact parseB_all h0 h1 h
 · have h2 : fmtBatch ⟨((splitL 32 l).take k).map chOf⟩ = [] := batch_long (by simp; omega)
   have h3 : fmtBatch ⟨(splitL 32 l).map chOf⟩ = [] := batch_long (by simp; omega)
   rw [h2, if_neg (Ne.symm h0)]
   unfold parseB
   rw [if_neg h0, if_neg fun hh => ?_]
   rw [h3] at hh
   exact h0 hh.2.symm
theorem parts_more {l : List (List UInt8)} {k : Nat} {x : List UInt8} {g : List UInt8 → Bool} (h : ∀ j p, j < k → l[j]? = some p → g p = true) (hx : l[k]? = some x) (h2 : g x = true) : ∀ j p, j < k + 1 → l[j]? = some p → g p = true := fun j p hj hp => by
 by_cases e : j = k
 · subst e; rw [hx] at hp; cases hp; exact h2
 · exact h j p (by omega) hp
theorem parseB_few (l : List UInt8) : (parseB l).1.Changes.length ≤ 6 := by
 unfold parseB
 split
 · simp
 · rename_i h0
   split
   · rename_i hc
     simp only
     rcases Nat.lt_or_ge 6 ((splitL 32 l).map chOf).length with h | h
     · have := batch_long (b := ⟨(splitL 32 l).map chOf⟩) h
       rw [this] at hc
       exact absurd hc.2.symm h0
     · exact h
   · simp
def recG (l : List UInt8) : Bool := decide ((splitL 59 l).length = 3) && (parseI ((splitL 59 l)[0]?.getD [])).2 && (parseB ((splitL 59 l)[1]?.getD [])).2 && decide (encRec (parseI ((splitL 59 l)[0]?.getD [])).1 (parseB ((splitL 59 l)[1]?.getD [])).1 = l)
def recV (l : List UInt8) : Int := if recG l = true then (parseI ((splitL 59 l)[0]?.getD [])).1 else 0
def recB (l : List UInt8) : TBatch := if recG l = true then (parseB ((splitL 59 l)[1]?.getD [])).1 else ⟨[]⟩
theorem rec_yes {l a b c : List UInt8} (hs : splitL 59 l = [a, b, c]) (h1 : (parseI a).2 = true) (h2 : (parseB b).2 = true) (h3 : encRec (parseI a).1 (parseB b).1 = l) : recG l = true ∧ recV l = (parseI a).1 ∧ recB l = (parseB b).1 := by
 have hg : recG l = true := by
  unfold recG
  rw [hs]
  simp [h1, h2, h3]
 refine ⟨hg, ?_, ?_⟩
 · unfold recV; rw [if_pos hg, hs]; rfl
 · unfold recB; rw [if_pos hg, hs]; rfl
theorem rec_none {l : List UInt8} (h : recG l = false) : recV l = 0 ∧ recB l = ⟨[]⟩ := by
 unfold recV recB
 rw [if_neg (by rw [h]; decide), if_neg (by rw [h]; decide)]
 exact ⟨rfl, rfl⟩
theorem rec_not3 {l : List UInt8} (hs : (splitL 59 l).length ≠ 3) : recG l = false := by
 unfold recG
 simp [hs]
theorem rec_bad {l a b c : List UInt8} (hs : splitL 59 l = [a, b, c]) (h : (parseI a).2 = false ∨ (parseB b).2 = false ∨ encRec (parseI a).1 (parseB b).1 ≠ l) : recG l = false := by
 unfold recG
 rw [hs]
 rcases h with h | h | h <;> simp [h]
theorem recG_get {l : List UInt8} (h : recG l = true) : encRec (recV l) (recB l) = l ∧ (1 ≤ recV l ∧ recV l ≤ 999) ∧ (recB l).Changes.length ≤ 6 := by
 have hg := h
 unfold recG at h
 simp only [Bool.and_eq_true, decide_eq_true_eq] at h
 have he : encRec (recV l) (recB l) = l := by
  unfold recV recB
  rw [if_pos hg, if_pos hg]; exact h.2
 refine ⟨he, ?_, ?_⟩
 · unfold encRec at he
   split at he
   · rename_i hr
     unfold recOk inB at hr
     simp at hr; omega
   · rw [← he] at h
     simp [splitL] at h
 · unfold recB
   rw [if_pos hg]; exact parseB_few _
def nlAt (l : List UInt8) (i : Nat) : Option Nat := (l.drop i).findIdx? fun b => decide (b = 10)
def scanF : Nat → List UInt8 → List Int → List TBatch → Nat → List Int × List TBatch × Nat
 | 0, _, vs, bt, i => (vs, bt, i)
 | f + 1, l, vs, bt, i => match nlAt l i with
  | none => (vs, bt, i)
  | some n => if recG ((l.drop i).take (n + 1)) = true ∧ (vs = [] ∨ recV ((l.drop i).take (n + 1)) = vs.getLast?.getD 0 + 1) then
   scanF f l (vs ++ [recV ((l.drop i).take (n + 1))]) (bt ++ [recB ((l.drop i).take (n + 1))]) (i + n + 1) else (vs, bt, i)
def scanL (l : List UInt8) : List Int × List TBatch × Nat := if l.length ≤ 4000 then scanF (l.length + 1) l [] [] 0 else ([], [], 0)
theorem nlAt_some {l : List UInt8} {i n : Nat} (h : nlAt l i = some n) : l[i + n]? = some 10 ∧ ∀ k, k < n → l[i + k]? ≠ some 10 := by
 unfold nlAt at h
 rw [List.findIdx?_eq_some_iff_getElem] at h
 obtain ⟨h1, h2, h3⟩ := h
 rw [List.length_drop] at h1
 refine ⟨?_, fun k hk hh => ?_⟩
 · rw [List.getElem?_eq_getElem (by omega)]
   simpa using h2
 · have h4 := h3 k hk
   rw [List.getElem?_eq_getElem (by omega)] at hh
   simp only [List.getElem_drop, decide_eq_true_eq] at h4
   exact h4 (by simpa using hh)
theorem nlAt_intro {l : List UInt8} {i n : Nat} (h1 : l[i + n]? = some 10) (h2 : ∀ k, k < n → l[i + k]? ≠ some 10) : nlAt l i = some n := by
 have hl := (List.getElem?_eq_some_iff.1 h1).1
 unfold nlAt
 rw [List.findIdx?_eq_some_iff_getElem]
 refine ⟨by rw [List.length_drop]; omega, ?_, fun j hj => ?_⟩
 · rw [List.getElem?_eq_getElem hl] at h1
   simpa using h1
 · have := h2 j hj
   rw [List.getElem?_eq_getElem (by omega)] at this
   simpa using this
theorem nlAt_none {l : List UInt8} {i : Nat} (h : ∀ k, i ≤ k → l[k]? ≠ some 10) : nlAt l i = none := by
 unfold nlAt
 rw [List.findIdx?_eq_none_iff]
 intro x hx
 obtain ⟨j, hj⟩ := List.getElem?_of_mem hx
 rw [List.getElem?_drop] at hj
 have := h (i + j) (by omega)
 rw [hj] at this
 simpa using this
theorem nlAt_index (l : List UInt8) (i : Nat) : Lib.indexByte (l.drop i) 10 = match nlAt l i with | some n => (n : Int) | none => -1 := by
 have h := Lib.indexByte_none (l := l.drop i) (c := 10)
 rcases Lib.index_spec (l.drop i) [10] with ⟨h1, h2⟩ | ⟨n, h1, h2, h3, h4⟩
 · rw [Lib.index_one] at h1
   rw [nlAt_none, h1]
   intro k hk hh
   have := h h1 (k - i)
   rw [List.getElem?_drop, show i + (k - i) = k by omega] at this
   exact this hh
 · have hx := Lib.index_first h2 h3 h4
   rw [Lib.index_one] at hx
   obtain ⟨g1, g2⟩ := Lib.indexByte_some hx
   rw [List.getElem?_drop] at g1
   rw [nlAt_intro g1 fun k hk => by have := g2 k hk; rwa [List.getElem?_drop] at this, hx]
theorem scan_none {f : Nat} {l : List UInt8} {vs : List Int} {bt : List TBatch} {i : Nat} (h : nlAt l i = none) : scanF f l vs bt i = (vs, bt, i) := by
 cases f with
 | zero => rfl
 | succ f => unfold scanF; rw [h]
theorem scan_stop {f : Nat} {l : List UInt8} {vs : List Int} {bt : List TBatch} {i n : Nat} (h : nlAt l i = some n) (hb : recG ((l.drop i).take (n + 1)) = false ∨ vs ≠ [] ∧ recV ((l.drop i).take (n + 1)) ≠ vs.getLast?.getD 0 + 1) : scanF f l vs bt i = (vs, bt, i) := by
 cases f with
 | zero => rfl
 | succ f =>
  unfold scanF; rw [h]
  simp only
  rw [if_neg]
  rintro ⟨h1, h2⟩
  rcases hb with hb | ⟨h3, h4⟩
  · rw [h1] at hb; cases hb
  · rcases h2 with h2 | h2
    · exact h3 h2
    · exact h4 h2
theorem scan_more {f : Nat} {l : List UInt8} {vs : List Int} {bt : List TBatch} {i n : Nat} (h : nlAt l i = some n) (h1 : recG ((l.drop i).take (n + 1)) = true) (h2 : vs = [] ∨ recV ((l.drop i).take (n + 1)) = vs.getLast?.getD 0 + 1) :
 scanF (f + 1) l vs bt i = scanF f l (vs ++ [recV ((l.drop i).take (n + 1))]) (bt ++ [recB ((l.drop i).take (n + 1))]) (i + n + 1) := by
 conv => lhs; unfold scanF
 rw [h]
 simp only
 rw [if_pos ⟨h1, h2⟩]
end Go.Q
set_option maxHeartbeats 1000000
set_option maxRecDepth 100000
namespace Go.Q
open Go.RowKit Go.D
theorem mem_joinL {c : UInt8} {sep : List UInt8} : ∀ {xs : List (List UInt8)}, c ∈ joinL sep xs → c ∈ sep ∨ ∃ x ∈ xs, c ∈ x := by
 intro xs
 generalize hn : xs.length = n
 induction n generalizing xs with
 | zero => intro h; rw [List.eq_nil_of_length_eq_zero hn, joinL_nil] at h; cases h
 | succ n ih =>
  intro h
  rcases List.eq_nil_or_concat xs with rfl | ⟨ys, y, rfl⟩
  · rw [joinL_nil] at h; cases h
  · rw [List.concat_eq_append] at h hn ⊢
    rw [joinL_snoc] at h
    split at h
    · exact .inr ⟨y, by simp, h⟩
    · rw [List.mem_append, List.mem_append] at h
      rcases h with (h | h) | h
      · rcases ih (by simp at hn; omega) h with h | ⟨x, hx, hc⟩
        · exact .inl h
        · exact .inr ⟨x, by simp [hx], hc⟩
      · exact .inl h
      · exact .inr ⟨y, by simp, h⟩
theorem edge_no {e : TEdge} (h : edgeOk e 5 = true) {c : UInt8} (h1 : isDg c = false) (h2 : c ≠ 58) (h3 : c ≠ 97 ∧ c ≠ 98 ∧ c ≠ 99) : c ∉ fmtEdge e := by
 rw [edge_txt h]
 obtain ⟨_, hf, ht, hl0, hl2⟩ := edge_r h
 intro hm
 rcases List.mem_append.1 hm with hm | hm
 · exact numS_no h1 hm
 · rcases List.mem_cons.1 hm with hm | hm
   · exact h2 hm
   · unfold threeE at hm
     simp only [List.mem_cons, List.not_mem_nil, or_false] at hm
     rcases hm with hm | hm | hm
     · rw [hm] at h1; rw [(dg_of (by omega)).1] at h1; cases h1
     · have hk : e.Label.toNat = 0 ∨ e.Label.toNat = 1 ∨ e.Label.toNat = 2 := by omega
       rcases hk with hk | hk | hk <;> rw [hk] at hm
       · exact h3.1 hm
       · exact h3.2.1 hm
       · exact h3.2.2 hm
     · rw [hm] at h1; rw [(dg_of (by omega)).1] at h1; cases h1
theorem ch_no {c : TChange} (h : edgeOk c.Edge 5 = true) {x : UInt8} (h1 : isDg x = false) (h2 : x ≠ 58) (h3 : x ≠ 97 ∧ x ≠ 98 ∧ x ≠ 99) (h4 : x ≠ 43 ∧ x ≠ 45) : x ∉ fmtCh c := by
 unfold fmtCh
 intro hm
 rcases List.mem_append.1 hm with hm | hm
 · split at hm
   · exact h4.1 (List.mem_singleton.1 hm)
   · exact h4.2 (List.mem_singleton.1 hm)
 · exact edge_no h h1 h2 h3 hm
theorem ch_back {c : TChange} (h : edgeOk c.Edge 5 = true) : chGood (fmtCh c) = true ∧ chOf (fmtCh c) = c := by
 have hd : (fmtCh c).drop 1 = fmtEdge c.Edge := by unfold fmtCh; split <;> rfl
 constructor
 · unfold chGood
   rw [hd, parseE_fmt h]
   unfold fmtCh; split <;> simp
 · unfold chOf
   rw [hd, parseE_fmt h]
   obtain ⟨i, e⟩ := c
   unfold fmtCh
   cases i <;> simp
theorem parseB_fmt {b : TBatch} (h : batchOk b = true) : parseB (fmtBatch b) = (b, true) := by
 have hok := h
 unfold batchOk at h
 simp only [Bool.and_eq_true, List.all_eq_true] at h
 have hj : fmtBatch b = joinL [32] (b.Changes.map fmtCh) := by unfold fmtBatch; rw [if_pos hok]
 obtain ⟨l⟩ := b
 cases hl : l with
 | nil => subst hl; rw [hj]; rfl
 | cons c r =>
  have hs : splitL 32 (fmtBatch ⟨l⟩) = l.map fmtCh := by
   rw [hj]
   refine split_joinL _ (by simp [hl]) fun x hx => ?_
   obtain ⟨c, hc, rfl⟩ := List.mem_map.1 hx
   exact ch_no (h.2 c hc) (by decide) (by decide) (by decide) (by decide)
  have hm : (l.map fmtCh).map chOf = l := by
   rw [List.map_map]
   conv => rhs; rw [← List.map_id l]
   exact List.map_congr_left fun c hc => (ch_back (h.2 c hc)).2
  rw [← hl]
  unfold parseB
  rw [if_neg, hs, hm, if_pos ⟨List.all_eq_true.2 fun x hx => by
   obtain ⟨c, hc, rfl⟩ := List.mem_map.1 hx
   exact (ch_back (h.2 c hc)).1, rfl⟩]
  intro he
  rw [he, hl] at hs
  simp only [splitL, List.map_cons, List.cons.injEq] at hs
  have := hs.1
  unfold fmtCh at this
  split at this <;> simp at this
theorem rec_batch {v : Int} {b : TBatch} (h : recOk v b = true) : batchOk b = true := by
 by_cases hb : batchOk b = true
 · exact hb
 · have h0 := (rec_iff.1 h).2 (by unfold fmtBatch; rw [if_neg hb])
   unfold batchOk
   rw [h0]; rfl
theorem rec_back {v : Int} {b : TBatch} (h : recOk v b = true) : recG (encRec v b) = true ∧ recV (encRec v b) = v ∧ recB (encRec v b) = b := by
 have hb := rec_batch h
 have hv : 1 ≤ v ∧ v ≤ 999 := by have := (rec_iff.1 h).1; unfold inB at this; simp at this; omega
 have he : encRec v b = itoS v ++ 59 :: (fmtBatch b ++ 59 :: (itoS (chkS (recHead v b)) ++ [10])) := by
  unfold encRec; rw [if_pos h]
  generalize itoS (chkS (recHead v b)) = z
  unfold recHead
  simp
 have hn59 : ∀ n : Int, 0 ≤ n → (59 : UInt8) ∉ itoS n := fun n hn => by rw [itoS_num hn]; exact numS_no (by decide)
 have hf59 : (59 : UInt8) ∉ fmtBatch b := fun hm => by
  unfold batchOk at hb
  simp only [Bool.and_eq_true, List.all_eq_true] at hb
  unfold fmtBatch at hm
  split at hm
  · rcases mem_joinL hm with hm | ⟨x, hx, hm⟩
    · exact absurd (List.mem_singleton.1 hm) (by decide)
    · obtain ⟨c, hc, rfl⟩ := List.mem_map.1 hx
      exact ch_no (hb.2 c hc) (by decide) (by decide) (by decide) (by decide) hm
  · cases hm
 have hs : splitL 59 (encRec v b) = [itoS v, fmtBatch b, itoS (chkS (recHead v b)) ++ [10]] := by
  rw [he, splitL_hit (hn59 v (by omega)), splitL_hit hf59, splitL_no]
  intro hm
  rcases List.mem_append.1 hm with hm | hm
  · exact hn59 _ (chkS_le _).1 hm
  · exact absurd (List.mem_singleton.1 hm) (by decide)
 have hi : parseI (itoS v) = (v, true) := by rw [parseI_of rfl, if_pos (by omega)]
 have hp := parseB_fmt hb
 have := rec_yes hs (by rw [hi]) (by rw [hp]) (by rw [hi, hp])
 rw [hi, hp] at this
 exact this
theorem rec_nil : recG [] = false := rec_not3 (by simp [splitL])
theorem enc_no {v : Int} {b : TBatch} (h : recOk v b = false) : encRec v b = [] := by unfold encRec; rw [if_neg (by rw [h]; decide)]
theorem enc_ne {v : Int} {b : TBatch} (h : recOk v b = true) : encRec v b ≠ [] := by unfold encRec; rw [if_pos h]; simp
theorem enc_is (v : Int) (b : TBatch) : recG (encRec v b) = !decide (bs (encRec v b) = bs []) := by
 cases h : recOk v b with
 | true =>
  rw [(rec_back h).1]
  have : bs (encRec v b) ≠ bs [] := fun e => enc_ne h (bs_inj e)
  simp [this]
 | false => rw [enc_no h, rec_nil]; simp
theorem enc_get {v : Int} {b : TBatch} (h : recG (encRec v b) = true) : recV (encRec v b) = v ∧ recB (encRec v b) = b := by
 cases h2 : recOk v b with
 | true => exact (rec_back h2).2
 | false => rw [enc_no h2, rec_nil] at h; cases h
theorem enc_len (v : Int) (b : TBatch) : (encRec v b).length ≤ 130 := by
 cases h : recOk v b with
 | false => rw [enc_no h]; simp
 | true =>
  have hv : 1 ≤ v ∧ v ≤ 999 := by have := (rec_iff.1 h).1; unfold inB at this; simp at this; omega
  have h1 := itoS_len (n := v) (by omega) (by omega)
  have h2 := itoS_len (n := chkS (recHead v b)) (chkS_le _).1 (by have := (chkS_le (recHead v b)).2; omega)
  have h3 := fmtBatch_len b
  unfold encRec; rw [if_pos h]
  unfold recHead at *
  simp only [List.length_append, List.length_singleton] at *
  omega
theorem scanF_mono : ∀ (f : Nat) (l : List UInt8) (vs : List Int) (bt : List TBatch) (i : Nat), vs <+: (scanF f l vs bt i).1 ∧ i ≤ (scanF f l vs bt i).2.2
 | 0, l, vs, bt, i => ⟨List.prefix_refl _, Nat.le_refl _⟩
 | f + 1, l, vs, bt, i => by
  unfold scanF
  split
  · exact ⟨List.prefix_refl _, Nat.le_refl _⟩
  · rename_i n _
    split
    · have ih := scanF_mono f l (vs ++ [recV ((l.drop i).take (n + 1))]) (bt ++ [recB ((l.drop i).take (n + 1))]) (i + n + 1)
      exact ⟨(List.prefix_append _ _).trans ih.1, by omega⟩
    · exact ⟨List.prefix_refl _, Nat.le_refl _⟩
theorem nlAt_take {l : List UInt8} {c i n : Nat} (h : nlAt (l.take c) i = some n) : nlAt l i = some n ∧ i + n + 1 ≤ c := by
 obtain ⟨h1, h2⟩ := nlAt_some h
 have hc : i + n < c := by
  have := (List.getElem?_eq_some_iff.1 h1).1
  rw [List.length_take] at this; omega
 refine ⟨nlAt_intro ?_ fun k hk => ?_, hc⟩
 · rwa [List.getElem?_take, if_pos hc] at h1
 · have := h2 k hk
   rwa [List.getElem?_take, if_pos (by omega)] at this
theorem scan_pre : ∀ (f f' : Nat) (l : List UInt8) (c : Nat) (vs : List Int) (bt : List TBatch) (i : Nat), f ≤ f' → i ≤ c →
 (scanF f (l.take c) vs bt i).1 <+: (scanF f' l vs bt i).1 ∧ (scanF f (l.take c) vs bt i).2.2 ≤ (scanF f' l vs bt i).2.2 ∧ (scanF f (l.take c) vs bt i).2.2 ≤ c
 | 0, f', l, c, vs, bt, i, _, hc => ⟨(scanF_mono f' l vs bt i).1, (scanF_mono f' l vs bt i).2, hc⟩
 | f + 1, 0, l, c, vs, bt, i, h, hc => by omega
 | f + 1, f' + 1, l, c, vs, bt, i, h, hc => by
  cases hn : nlAt (l.take c) i with
  | none => rw [scan_none hn]; exact ⟨(scanF_mono _ l vs bt i).1, (scanF_mono _ l vs bt i).2, hc⟩
  | some n =>
   obtain ⟨hn2, hc2⟩ := nlAt_take hn
   have hl : ((l.take c).drop i).take (n + 1) = (l.drop i).take (n + 1) := by
    rw [List.drop_take, List.take_take, show min (n + 1) (c - i) = n + 1 by omega]
   by_cases hg : recG ((l.drop i).take (n + 1)) = true ∧ (vs = [] ∨ recV ((l.drop i).take (n + 1)) = vs.getLast?.getD 0 + 1)
   · rw [scan_more hn (by rw [hl]; exact hg.1) (by rw [hl]; exact hg.2), scan_more hn2 hg.1 hg.2, hl]
     exact scan_pre f f' l c _ _ _ (by omega) hc2
   · have hst : ∀ {m : List UInt8}, nlAt m i = some n → (m.drop i).take (n + 1) = (l.drop i).take (n + 1) → ∀ k, scanF k m vs bt i = (vs, bt, i) := fun {m} hm he k => by
      refine scan_stop hm ?_
      rw [he]
      cases hr : recG ((l.drop i).take (n + 1)) with
      | false => exact .inl rfl
      | true => exact .inr ⟨fun h0 => hg ⟨hr, .inl h0⟩, fun h0 => hg ⟨hr, .inr h0⟩⟩
     rw [hst hn hl, hst hn2 rfl]
     exact ⟨List.prefix_refl _, Nat.le_refl _, hc⟩
theorem scanL_pre {l : List UInt8} {c : Nat} (hl : l.length ≤ 4000) : (scanL (l.take c)).1 <+: (scanL l).1 ∧ (scanL (l.take c)).2.2 ≤ (scanL l).2.2 ∧ (scanL (l.take c)).2.2 ≤ c := by
 have h2 : (l.take c).length ≤ l.length := by rw [List.length_take]; omega
 unfold scanL
 rw [if_pos hl, if_pos (by omega)]
 exact scan_pre _ _ l c [] [] 0 (by omega) (Nat.zero_le _)
end Go.Q
