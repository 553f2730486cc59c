/- Merged texts. -/
import Derived.Test.YtoealglkenhphaaGreatDoorAbsTyxa
import Derived.Test.YtoealglkenhphaaGreatDoorB02xa
import Derived.Test.YtoealglkenhphaaGreatDoorAbsLxa
import Derived.Test.YtoealglkenhphaaGreatDoorB74xa
import Derived.Test.YtoealglkenhphaaGreatDoorB26xa
set_option linter.unusedVariables false
set_option linter.unusedSimpArgs false
namespace Go.D
open Go.Q
def cntInt (_ : Int) : Int := 1
/-- All of it is marked. -/
def mkToken (x : TToken) (k : Int) : TToken := ⟨k, k + 1, k + 1 + 1, k + 1 + 1 + 1⟩
def cntToken (x : TToken) : Int := 1 + 1 + 1 + 1
theorem cntToken_nn (x : TToken) : 0 ≤ cntToken x := by
  unfold cntToken; omega
def mkTokenS (x : (List TToken)) (k : Int) : (List TToken) := mkL mkToken cntToken x k
def cntTokenS (x : (List TToken)) : Int := cntL cntToken x
theorem cntTokenS_nn (x : (List TToken)) : 0 ≤ cntTokenS x := cntL_nonneg cntToken_nn x
def cntExpr (x : TExpr) : Int := cntTokenS x.Tokens
/-- All of it is marked. -/
def mkPathAtom (x : TPathAtom) (k : Int) : TPathAtom := ⟨k, k + 1, ⟨mkTokenS x.Expr.Tokens (k + 1 + 1)⟩⟩
def cntPathAtom (x : TPathAtom) : Int := 1 + 1 + cntTokenS x.Expr.Tokens
theorem cntPathAtom_nn (x : TPathAtom) : 0 ≤ cntPathAtom x := by
  have := cntTokenS_nn x.Expr.Tokens
  unfold cntPathAtom; omega
def mkPathAtomS (x : (List TPathAtom)) (k : Int) : (List TPathAtom) := mkL mkPathAtom cntPathAtom x k
def cntPathAtomS (x : (List TPathAtom)) : Int := cntL cntPathAtom x
theorem cntPathAtomS_nn (x : (List TPathAtom)) : 0 ≤ cntPathAtomS x := cntL_nonneg cntPathAtom_nn x
/-- What it holds in slices is marked. -/
def mpConjunction (x : TConjunction) (k : Int) : TConjunction := ⟨x.VariableCount, mkPathAtomS x.Atoms (k)⟩
def cpConjunction (x : TConjunction) : Int := 0 + cntPathAtomS x.Atoms
theorem cpConjunction_nn (x : TConjunction) : 0 ≤ cpConjunction x := by
  have := cntPathAtomS_nn x.Atoms
  unfold cpConjunction; omega
theorem cntL_bound {α : Type} {c : α → Int} {b : Int} (hb : 0 ≤ b) : ∀ {l : List α}, (∀ y ∈ l, c y ≤ b) → cntL c l ≤ l.length * b
  | [], _ => by simp [cntL]
  | x :: l, h => by
    have h1 := h x (by simp)
    have h2 := cntL_bound (l := l) hb fun y hy => h y (by simp [hy])
    rw [cntL, List.length_cons, Int.natCast_add, Int.add_mul]
    omega
theorem cntL_ok {α : Type} {c : α → Int} {b : Int} {l : List α} (hb : 0 ≤ b) (hl : l.length ≤ 1048576) (h : ∀ y ∈ l, c y ≤ b) : cntL c l ≤ 1048576 * b :=
  Int.le_trans (cntL_bound hb h) (Int.mul_le_mul_of_nonneg_right (by omega) hb)
theorem cntTokenS_ok {x : (List TToken)} (h : okTokenS x) : cntTokenS x ≤ 4194304 := Int.le_trans (cntL_ok (b := 4) (by omega) h fun y _ => by simp [cntToken]) (by omega)
theorem cntExpr_ok {x : TExpr} (h : okExpr x) : cntExpr x ≤ 4194304 := by
  have := cntTokenS_ok h.1
  unfold cntExpr; (try simp only [cntInt] at *); omega
theorem cntPathAtom_ok {x : TPathAtom} (h : okPathAtom x) : cntPathAtom x ≤ 4194306 := by
  have := cntExpr_ok h.1
  unfold cntPathAtom; (try simp only [cntInt, cntExpr] at *); omega
theorem cntPathAtomS_ok {x : (List TPathAtom)} (h : okPathAtomS x) : cntPathAtomS x ≤ 4398048608256 := Int.le_trans (cntL_ok (b := 4194306) (by omega) h.1 fun y hy => cntPathAtom_ok (h.2 y hy)) (by omega)
theorem cpConjunction_ok {x : TConjunction} (h : okConjunction x) : cpConjunction x ≤ 4398048608256 := by
  have := cntPathAtomS_ok h.1
  unfold cpConjunction; (try simp only [cntInt] at *); omega
end Go.D
set_option linter.unusedVariables false
set_option linter.unusedSimpArgs false
set_option maxHeartbeats 1000000
set_option maxRecDepth 100000
namespace Go.Q
open Go.D
/-! ### Sets as sorted lists -/
structure SO {α : Type} (lt : α → α → Bool) : Prop where
  irr : ∀ x, lt x x = false
  tra : ∀ x y z, lt x y = true → lt y z = true → lt x z = true
  tri : ∀ x y, lt x y = true ∨ x = y ∨ lt y x = true
section
variable {α : Type} {lt : α → α → Bool}
end
section
variable {α : Type} [DecidableEq α] {lt : α → α → Bool}
end
/-! ### Pairs -/
instance : Inhabited TPair := ⟨⟨0, 0⟩⟩
end Go.Q
namespace Go.Q
open Go.D
end Go.Q
namespace Go.Proofs.YtoealglkenhphaaGreatDoor
open Go.RowKit Go.Q Go.D
end Go.Proofs.YtoealglkenhphaaGreatDoor
set_option linter.unusedVariables false
set_option linter.unusedSimpArgs false
set_option maxHeartbeats 1000000
set_option maxRecDepth 100000
namespace Go.Q
open Go.D
end Go.Q
namespace Go.Proofs.YtoealglkenhphaaGreatDoor
open Go.RowKit Go.Q Go.D
end Go.Proofs.YtoealglkenhphaaGreatDoor
set_option linter.unusedVariables false
set_option linter.unusedSimpArgs false
set_option maxHeartbeats 1000000
set_option maxRecDepth 100000
namespace Go.Q
open Go.D
end Go.Q
namespace Go.Proofs.YtoealglkenhphaaGreatDoor
open Go.RowKit Go.Q Go.D
end Go.Proofs.YtoealglkenhphaaGreatDoor
set_option linter.unusedVariables false
set_option linter.unusedSimpArgs false
set_option maxHeartbeats 1000000
set_option maxRecDepth 100000
namespace Go.Q
open Go.D
end Go.Q
namespace Go.Proofs.YtoealglkenhphaaGreatDoor
open Go.RowKit Go.Q Go.D
end Go.Proofs.YtoealglkenhphaaGreatDoor
set_option linter.unusedVariables false
set_option linter.unusedSimpArgs false
set_option maxHeartbeats 1000000
set_option maxRecDepth 100000
namespace Go.Q
open Go.D
/-! ### Letters -/
def letNames : List (List UInt8) := [[97], [97, 45], [98], [98, 45], [99], [99, 45], [48], [49], [50]]
def letS (k : Int) : List UInt8 := letNames[k.toNat]?.getD []
theorem letS_len (k : Int) : (letS k).length ≤ 2 := by
  unfold letS
  by_cases h : k.toNat < 9
  · have h9 : k.toNat = 0 ∨ k.toNat = 1 ∨ k.toNat = 2 ∨ k.toNat = 3 ∨ k.toNat = 4 ∨ k.toNat = 5 ∨ k.toNat = 6 ∨ k.toNat = 7 ∨ k.toNat = 8 := by omega
    rcases h9 with e | e | e | e | e | e | e | e | e <;> rw [e] <;> decide
  · rw [List.getElem?_eq_none (by simp [letNames]; omega)]; simp
theorem letS_get {k : Int} (h0 : 0 ≤ k) (h8 : k ≤ 8) : (letNames.map cStr)[k.toNat]? = some (cStr (letS k)) := by
  have hk : k.toNat < letNames.length := by simp [letNames]; omega
  rw [List.getElem?_map, List.getElem?_eq_getElem hk]
  unfold letS
  rw [List.getElem?_eq_getElem hk]; rfl
end Go.Q
set_option linter.unusedVariables false
set_option linter.unusedSimpArgs false
set_option maxHeartbeats 1000000
set_option maxRecDepth 100000
namespace Go.Q
open Go.D
/-! ### Tokens and expressions -/
def tokS (t : TToken) : List UInt8 :=
  if t.Kind = 1 then [33] else if t.Kind = 2 then [40, 41] else if t.Kind = 3 then letS t.Letter else if t.Kind = 4 then [46] else if t.Kind = 5 then [124] else if t.Kind = 6 then [42]
  else [123] ++ numS t.Low ++ [44] ++ numS t.High ++ [125]
theorem depth_ar : ∀ {l : List TToken} {d : Int}, depthGo d l = true → ∀ t ∈ l, 0 ≤ arity t
  | [], _, _ => fun t ht => by cases ht
  | x :: r, d, h => by
    rw [depthGo] at h
    split at h
    · cases h
    · rename_i hc
      intro t ht
      rcases List.mem_cons.1 ht with rfl | ht
      · omega
      · exact depth_ar h t ht
theorem valid_toks {e : TExpr} (h : isValidExpr e = true) : e.Tokens.length ≤ 24 ∧ ∀ t ∈ e.Tokens, 0 ≤ arity t := by
  unfold isValidExpr isExpr at h
  simp only [Bool.and_eq_true, decide_eq_true_eq] at h
  exact ⟨h.1, depth_ar h.2⟩
theorem tok_rep {t : TToken} (h : 0 ≤ arity t) (h1 : t.Kind ≠ 1) (h2 : t.Kind ≠ 2) (h3 : t.Kind ≠ 3) (h4 : t.Kind ≠ 4) (h5 : t.Kind ≠ 5) (h6 : t.Kind ≠ 6) : (0 ≤ t.Low ∧ t.Low ≤ 3) ∧ 0 ≤ t.High ∧ t.High ≤ 3 := by
  unfold arity at h
  rw [if_neg (by omega), if_neg h3, if_neg (by omega), if_neg h6] at h
  split at h
  · split at h
    · rename_i hc
      simp only [inB, Bool.and_eq_true, decide_eq_true_eq] at hc
      omega
    · omega
  · omega
theorem tok_let {t : TToken} (h : 0 ≤ arity t) (h3 : t.Kind = 3) : 0 ≤ t.Letter ∧ t.Letter ≤ 8 := by
  unfold arity at h
  rw [if_neg (by omega), if_pos h3] at h
  split at h
  · rename_i hc
    simp only [inB, Bool.and_eq_true, decide_eq_true_eq] at hc
    omega
  · omega
theorem tokS_len {t : TToken} (h : 0 ≤ arity t) : (tokS t).length ≤ 8 := by
  unfold tokS
  split
  · simp
  split
  · simp
  split
  · have := letS_len t.Letter; omega
  split
  · simp
  split
  · simp
  split
  · simp
  · have hr := tok_rep h (by assumption) (by assumption) (by assumption) (by assumption) (by assumption) (by assumption)
    have a1 := numS_len (n := t.Low) (by omega)
    have a2 := numS_len (n := t.High) (by omega)
    simp only [List.length_append, List.length_cons, List.length_nil]
    omega
def fmtExpr (e : TExpr) : List UInt8 := if isValidExpr e = true then joinL [32] (e.Tokens.map tokS) else []
theorem fmtExpr_len (e : TExpr) : (fmtExpr e).length ≤ 216 := by
  unfold fmtExpr
  split
  · rename_i h
    have hv := valid_toks h
    have := joinL_len (sep := [32]) (b := 8) (f := tokS) (l := e.Tokens) fun t ht => tokS_len (hv.2 t ht)
    simp at this; omega
  · simp
/-! ### Conjunctions -/
def fmtAtom (x : TPathAtom) : List UInt8 := numS x.From ++ [58] ++ numS x.To ++ [32] ++ fmtExpr x.Expr
def fmtConj (q : TConjunction) : List UInt8 := if validConj q = true then joinL [59] (q.Atoms.map fmtAtom) else []
theorem conj_mem {q : TConjunction} (h : validConj q = true) : q.Atoms.length ≤ 4 ∧ (1 ≤ q.VariableCount ∧ q.VariableCount ≤ 4) ∧ ∀ x ∈ q.Atoms, ((0 ≤ x.From ∧ x.From < q.VariableCount) ∧ 0 ≤ x.To ∧ x.To < q.VariableCount) ∧ isValidExpr x.Expr = true := by
  unfold validConj inB at h
  simp only [Bool.and_eq_true, decide_eq_true_eq] at h
  refine ⟨by omega, by omega, fun x hx => ?_⟩
  have h1 := List.all_eq_true.1 h.1.2 x hx
  refine ⟨atomOk_r h1, ?_⟩
  unfold atomOk at h1
  simp only [Bool.and_eq_true] at h1
  exact h1.2
theorem fmtAtom_len {x : TPathAtom} (h1 : x.From < 100) (h2 : x.To < 100) : (fmtAtom x).length ≤ 222 := by
  have a1 := numS_len h1
  have a2 := numS_len h2
  have a3 := fmtExpr_len x.Expr
  unfold fmtAtom
  simp only [List.length_append, List.length_cons, List.length_nil]
  omega
/-! ### Bindings that hold -/
end Go.Q
