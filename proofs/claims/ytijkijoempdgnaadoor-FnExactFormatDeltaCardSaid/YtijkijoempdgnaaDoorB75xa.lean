/- Pairs, deltas, tokens, expressions, conjunctions written out: the plain law. -/
import Derived.Test.YtijkijoempdgnaaDoorB73xa
import Derived.Test.YtijkijoempdgnaaDoorB28xa
import Derived.Test.YtijkijoempdgnaaDoorB26xa
set_option linter.unusedVariables false
set_option linter.unusedSimpArgs false
set_option maxHeartbeats 1000000
set_option maxRecDepth 100000
namespace Go.Q
open Go.D
/-! ### Pairs and deltas -/
theorem ap_mem {l : List TPair} (h : arePairs l = true) : ∀ p ∈ l, (0 ≤ p.From ∧ p.From < 5) ∧ 0 ≤ p.To ∧ p.To < 5 := by
  intro p hp
  obtain ⟨k, hk⟩ := List.getElem?_of_mem hp
  have hl := (List.getElem?_eq_some_iff.1 hk).1
  unfold arePairs at h
  have h1 := List.all_eq_true.1 h k (List.mem_range.2 hl)
  unfold apAt at h1
  rw [hk] at h1
  simp only [okP, inB, Bool.and_eq_true, decide_eq_true_eq] at h1
  omega
def fmtPair (p : TPair) : List UInt8 := numS p.From ++ numS p.To
def fmtPairs (l : List TPair) : List UInt8 := if arePairs l = true then (if l = [] then [110, 111, 110, 101] else joinL [32] (l.map fmtPair)) else []
theorem fmtPair_len {p : TPair} (h : (0 ≤ p.From ∧ p.From < 5) ∧ 0 ≤ p.To ∧ p.To < 5) : (fmtPair p).length ≤ 4 := by
  have h1 := numS_len (n := p.From) (by omega)
  have h2 := numS_len (n := p.To) (by omega)
  unfold fmtPair
  rw [List.length_append]; omega
theorem fmtPairs_len (l : List TPair) : (fmtPairs l).length ≤ 5 * l.length + 4 := by
  unfold fmtPairs
  split
  · rename_i h
    split
    · simp
    · have := joinL_len (sep := [32]) (b := 4) (f := fmtPair) (l := l) fun p hp => fmtPair_len (ap_mem h p hp)
      simp at this; omega
  · simp
def fmtDelta (d : TDelta) : List UInt8 := if isDelta d = true then [43] ++ fmtPairs d.Added ++ [32, 45] ++ fmtPairs d.Removed else []
/-! ### Tokens and expressions -/
def letNames : List (List UInt8) := [[97], [97, 45], [98], [98, 45], [99], [99, 45], [48], [49], [50]]
def letS (k : Int) : List UInt8 := letNames[k.toNat]?.getD []
def tokS (t : TToken) : List UInt8 :=
  if t.Kind = 1 then [33] else if t.Kind = 2 then [40, 41] else if t.Kind = 3 then letS t.Letter else if t.Kind = 4 then [46] else if t.Kind = 5 then [124] else if t.Kind = 6 then [42]
  else [123] ++ numS t.Low ++ [44] ++ numS t.High ++ [125]
theorem depth_ar : ∀ {l : List TToken} {d : Int}, depthGo d l = true → ∀ t ∈ l, 0 ≤ arity t
  | [], _, _ => fun t ht => by cases ht
  | x :: r, d, h => by
    rw [depthGo] at h
    split at h
    · cases h
    · rename_i hc
      intro t ht
      rcases List.mem_cons.1 ht with rfl | ht
      · omega
      · exact depth_ar h t ht
theorem valid_toks {e : TExpr} (h : isValidExpr e = true) : e.Tokens.length ≤ 24 ∧ ∀ t ∈ e.Tokens, 0 ≤ arity t := by
  unfold isValidExpr isExpr at h
  simp only [Bool.and_eq_true, decide_eq_true_eq] at h
  exact ⟨h.1, depth_ar h.2⟩
theorem letS_len (k : Int) : (letS k).length ≤ 2 := by
  unfold letS
  by_cases h : k.toNat < 9
  · have h9 : k.toNat = 0 ∨ k.toNat = 1 ∨ k.toNat = 2 ∨ k.toNat = 3 ∨ k.toNat = 4 ∨ k.toNat = 5 ∨ k.toNat = 6 ∨ k.toNat = 7 ∨ k.toNat = 8 := by omega
    rcases h9 with e | e | e | e | e | e | e | e | e <;> rw [e] <;> decide
  · rw [List.getElem?_eq_none (by simp [letNames]; omega)]; simp
theorem tok_rep {t : TToken} (h : 0 ≤ arity t) (h1 : t.Kind ≠ 1) (h2 : t.Kind ≠ 2) (h3 : t.Kind ≠ 3) (h4 : t.Kind ≠ 4) (h5 : t.Kind ≠ 5) (h6 : t.Kind ≠ 6) : (0 ≤ t.Low ∧ t.Low ≤ 3) ∧ 0 ≤ t.High ∧ t.High ≤ 3 := by
  unfold arity at h
  rw [if_neg (by omega), if_neg h3, if_neg (by omega), if_neg h6] at h
  split at h
  · split at h
    · rename_i hc
      simp only [inB, Bool.and_eq_true, decide_eq_true_eq] at hc
      omega
    · omega
  · omega
theorem tok_let {t : TToken} (h : 0 ≤ arity t) (h3 : t.Kind = 3) : 0 ≤ t.Letter ∧ t.Letter ≤ 8 := by
  unfold arity at h
  rw [if_neg (by omega), if_pos h3] at h
  split at h
  · rename_i hc
    simp only [inB, Bool.and_eq_true, decide_eq_true_eq] at hc
    omega
  · omega
theorem tokS_len {t : TToken} (h : 0 ≤ arity t) : (tokS t).length ≤ 8 := by
  unfold tokS
  split
  · simp
  split
  · simp
  split
  · have := letS_len t.Letter; omega
  split
  · simp
  split
  · simp
  split
  · simp
  · have hr := tok_rep h (by assumption) (by assumption) (by assumption) (by assumption) (by assumption) (by assumption)
    have a1 := numS_len (n := t.Low) (by omega)
    have a2 := numS_len (n := t.High) (by omega)
    simp only [List.length_append, List.length_cons, List.length_nil]
    omega
def fmtExpr (e : TExpr) : List UInt8 := if isValidExpr e = true then joinL [32] (e.Tokens.map tokS) else []
theorem fmtExpr_len (e : TExpr) : (fmtExpr e).length ≤ 216 := by
  unfold fmtExpr
  split
  · rename_i h
    have hv := valid_toks h
    have := joinL_len (sep := [32]) (b := 8) (f := tokS) (l := e.Tokens) fun t ht => tokS_len (hv.2 t ht)
    simp at this; omega
  · simp
/-! ### Conjunctions -/
def fmtAtom (x : TPathAtom) : List UInt8 := numS x.From ++ [58] ++ numS x.To ++ [32] ++ fmtExpr x.Expr
def fmtConj (q : TConjunction) : List UInt8 := if validConj q = true then joinL [59] (q.Atoms.map fmtAtom) else []
theorem conj_mem {q : TConjunction} (h : validConj q = true) : q.Atoms.length ≤ 4 ∧ (1 ≤ q.VariableCount ∧ q.VariableCount ≤ 4) ∧ ∀ x ∈ q.Atoms, ((0 ≤ x.From ∧ x.From < q.VariableCount) ∧ 0 ≤ x.To ∧ x.To < q.VariableCount) ∧ isValidExpr x.Expr = true := by
  unfold validConj inB at h
  simp only [Bool.and_eq_true, decide_eq_true_eq] at h
  refine ⟨by omega, by omega, fun x hx => ?_⟩
  have h1 := List.all_eq_true.1 h.1.2 x hx
  refine ⟨atomOk_r h1, ?_⟩
  unfold atomOk at h1
  simp only [Bool.and_eq_true] at h1
  exact h1.2
theorem fmtAtom_len {x : TPathAtom} (h1 : x.From < 100) (h2 : x.To < 100) : (fmtAtom x).length ≤ 222 := by
  have a1 := numS_len h1
  have a2 := numS_len h2
  have a3 := fmtExpr_len x.Expr
  unfold fmtAtom
  simp only [List.length_append, List.length_cons, List.length_nil]
  omega
/-! ### Bindings that hold -/
end Go.Q
