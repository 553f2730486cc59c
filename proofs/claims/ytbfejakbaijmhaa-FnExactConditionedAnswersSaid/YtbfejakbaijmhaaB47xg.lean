/- Merged texts. -/
import Derived.Test.YtbfejakbaijmhaaTrxg
import Derived.Test.YtbfejakbaijmhaaAbsIxg
import Derived.Test.YtbfejakbaijmhaaB15xg
import Derived.Test.YtbfejakbaijmhaaB14xg
set_option linter.unusedVariables false
set_option linter.unusedSimpArgs false
set_option maxHeartbeats 1000000
set_option maxRecDepth 100000
namespace Go.Q
open Go.RowKit Go.D
theorem arity_nk {t : TToken} (h : tokOk t = true) : arity t = nk t.Kind := by
  unfold tokOk at h
  unfold arity at h ⊢
  unfold nk
  have h := of_decide_eq_true h
  repeat' split
  all_goals first | rfl | omega | skip
  all_goals simp_all
theorem nk_cases (k : Int) : nk k = 0 ∨ nk k = 1 ∨ nk k = 2 := by
  unfold nk
  split
  · exact .inr (.inr rfl)
  · split
    · exact .inr (.inl rfl)
    · exact .inl rfl
theorem stepTr_some {ts : List Tr} {t : TToken} (h : tokOk t = true) (hn : nk t.Kind ≤ ts.length) : ∃ ts', stepTr ts t = some ts' ∧ ts'.length = ts.length - nk t.Kind + 1 := by
  unfold stepTr
  rw [if_neg (by simp [h]; omega)]
  have hl : (ts.drop (ts.length - nk t.Kind)).length = nk t.Kind := by rw [List.length_drop]; omega
  generalize ts.drop (ts.length - nk t.Kind) = r at hl
  have h3 := nk_cases t.Kind
  generalize nk t.Kind = n at *
  match n, r, hl with
  | 0, _, _ => exact ⟨_, rfl, by simp⟩
  | 1, [x], _ => exact ⟨_, rfl, by simp⟩
  | 2, [x, y], _ => exact ⟨_, rfl, by simp⟩
  | n + 3, _, _ => omega
theorem depth_run (l : List TToken) : ∀ ts : List Tr, depthGo ts.length l = match runTr ts l with | some [_] => true | _ => false := by
  induction l with
  | nil =>
    intro ts
    match ts with
    | [] => rfl
    | [_] => rfl
    | _ :: _ :: _ => simp [depthGo, runTr]; omega
  | cons t r ih =>
    intro ts
    rw [depthGo, runTr]
    by_cases h : tokOk t = true
    · have ha := arity_nk h
      by_cases hn : nk t.Kind ≤ ts.length
      · obtain ⟨ts', h1, h2⟩ := stepTr_some h hn
        rw [if_neg (by omega), h1]
        have e : (ts.length : Int) - arity t + 1 = ts'.length := by omega
        rw [e]
        exact ih ts'
      · have : stepTr ts t = none := by unfold stepTr; rw [if_pos (.inr (by omega))]
        rw [if_pos (.inr (by omega)), this]
    · have : stepTr ts t = none := by unfold stepTr; rw [if_pos (.inl (by simpa using h))]
      have ha : arity t < 0 := by simpa [tokOk] using h
      rw [if_pos (.inl ha), this]
theorem isExpr_tree (l : List TToken) : isExpr l = (treeM l).isSome := by
  have h := depth_run l []
  unfold isExpr treeM
  have e : depthGo 0 l = depthGo ([] : List Tr).length l := rfl
  rw [e, h]
  cases runTr [] l with
  | none => rfl
  | some v => match v with
    | [] => rfl
    | [_] => rfl
    | _ :: _ :: _ => rfl
/-- Whether the pointer is nil. -/
inductive NilB : T → Bool → Prop where
  | ad {cs : List T} : NilB (.ad cs) false
  | nil : NilB (.v (.pointer none)) true
theorem NilB.tree (l : List TToken) : NilB (treeV l) (!isExpr l) := by
  rw [isExpr_tree]
  unfold treeV
  cases treeM l with
  | none => exact .nil
  | some x => exact .ad
section
variable {P : Program} {ops : Array Oper} {o : Oper} {σ : St} {q : Bool}
theorem NilB.val {I : Ip} {w : World} {x : T} {b : Bool} (h : NilB x b) {v : Value} (hv : VE I w (.t x) v) : ∃ p, v = .pointer p ∧ p.isNone = b := by
  obtain ⟨G, h1, _⟩ := hv
  cases h with
  | ad => simp only [C] at h1; obtain ⟨b, off, G', rfl, _⟩ := h1; exact ⟨_, rfl, rfl⟩
  | nil => simp only [C] at h1; exact ⟨_, h1.1, rfl⟩
end
end Go.Q
namespace Go.Proofs.Ytbfejakbaijmhaa
open Go.RowKit Go.Q Go.D
end Go.Proofs.Ytbfejakbaijmhaa
set_option linter.unusedVariables false
set_option linter.unusedSimpArgs false
set_option maxHeartbeats 1000000
set_option maxRecDepth 100000
namespace Go.Q
open Go.D
theorem drop_more {α : Type} {l r : List α} {m m' : Nat} (h : r.drop m = l.drop m) (hm : m ≤ m') : r.drop m' = l.drop m' := by
  have : m' = m + (m' - m) := by omega
  rw [this, ← List.drop_drop, ← List.drop_drop, h]
theorem cut_rows {α : Type} {c : α → List T} {R l : List α} {k : Nat} {z : List (List T)} (h : R.take k = l) (hk : k ≤ R.length) : ((R.map c).take k ++ z).take k = l.map c := by
  rw [List.take_append_of_le_length (by simp; omega), List.take_take, Nat.min_self, ← List.map_take, h]
theorem drop_get {α : Type} {l r : List α} {m i : Nat} (h : r.drop m = l.drop m) (hi : m ≤ i) : r[i]? = l[i]? := by
  have e1 : r[i]? = (r.drop m)[i - m]? := by rw [List.getElem?_drop]; congr 1; omega
  have e2 : l[i]? = (l.drop m)[i - m]? := by rw [List.getElem?_drop]; congr 1; omega
  rw [e1, e2, h]
theorem set_take {α : Type} {r : List α} {k : Nat} {x : α} (h : k < r.length) : (r.set k x).take (k + 1) = r.take k ++ [x] := by
  rw [take_at (l := r.set k x) (i := k) (x := x) (by rw [List.getElem?_set_self h]), List.take_set_of_le (Nat.le_refl _)]
theorem set_drop {α : Type} {r : List α} {k m : Nat} {x : α} (h : k < m) : (r.set k x).drop m = r.drop m := by
  rw [List.drop_set, if_pos h]
theorem filter_take {α : Type} {p : α → Bool} {l : List α} {k : Nat} {x : α} (h : l[k]? = some x) : (l.take (k + 1)).filter p = (l.take k).filter p ++ if p x then [x] else [] := by
  rw [take_at h, List.filter_append]
  cases hp : p x <;> simp [hp]
theorem findI_spec {α : Type} (p : α → Bool) : ∀ (l : List α) (m : Nat), (findI p l m = -1 ∧ ∀ x ∈ l, p x = false) ∨ ∃ (k : Nat) (x : α), l[k]? = some x ∧ p x = true ∧ findI p l m = ((m + k : Nat) : Int) ∧ ∀ y ∈ l.take k, p y = false
  | [], m => .inl ⟨rfl, by simp⟩
  | z :: l, m => by
    rw [findI]
    cases hz : p z with
    | true => exact .inr ⟨0, z, rfl, hz, by simp, by simp⟩
    | false =>
      rw [if_neg (by simp)]
      rcases findI_spec p l (m + 1) with ⟨h1, h2⟩ | ⟨k, x, h1, h2, h3, h4⟩
      · refine .inl ⟨h1, fun x hx => ?_⟩
        rcases List.mem_cons.1 hx with rfl | hx
        · exact hz
        · exact h2 x hx
      · refine .inr ⟨k + 1, x, by simpa using h1, h2, by rw [h3]; omega, fun y hy => ?_⟩
        rw [List.take_succ_cons] at hy
        rcases List.mem_cons.1 hy with rfl | hy
        · exact hz
        · exact h4 y hy
theorem filter_none {α : Type} {p : α → Bool} {l : List α} (h : ∀ x ∈ l, p x = false) : (l.filter fun x => !p x) = l := List.filter_eq_self.2 fun x hx => by rw [h x hx]; rfl
end Go.Q
namespace Go.Proofs.Ytbfejakbaijmhaa
open Go.RowKit Go.Q Go.D
end Go.Proofs.Ytbfejakbaijmhaa
set_option linter.unusedVariables false
set_option linter.unusedSimpArgs false
set_option maxHeartbeats 1000000
set_option maxRecDepth 100000
namespace Go.Q
open Go.D
theorem nodup_le {α : Type} [DecidableEq α] : ∀ {l r : List α}, l.Nodup → (∀ x ∈ l, x ∈ r) → l.length ≤ r.length
  | [], _, _, _ => Nat.zero_le _
  | a :: l, r, h, hs => by
    have h2 := List.nodup_cons.1 h
    have ha := hs a (by simp)
    have := nodup_le (l := l) (r := r.erase a) h2.2 fun x hx => (List.mem_erase_of_ne (fun e => h2.1 (by rw [← e]; exact hx))).2 (hs x (by simp [hx]))
    rw [List.length_erase_of_mem ha] at this
    have hp := List.length_pos_of_mem ha
    simp only [List.length_cons]; omega
end Go.Q
