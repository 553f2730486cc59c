/- Merged texts. -/
import Derived.Test.YtibjbmjgmfiecaaDoorAbsNxb
import Derived.Laws.Cover3
import Derived.Test.YtibjbmjgmfiecaaDoorAbsTxb
import Derived.Test.YtibjbmjgmfiecaaDoorB02xb
import Derived.Lib.Join
import Derived.Lib.ItoaNum
import Derived.Test.YtibjbmjgmfiecaaDoorB28xb
set_option linter.unusedVariables false
set_option linter.unusedSimpArgs false
namespace Go.Q
open Go.RowKit
section
variable {P : Program} {ops : Array Oper} {o : Oper} {σ : St} {q : Bool}
/-- A number turned into another kind. -/
theorem R_conv {t t' : TypeId} {x : Operand} {k0 k : IntKind} {n m : Int} (ho : o.op = .convert t t' x) (hg : Grd ops o σ q) (hd : o.dst.all (fun d => Nat.blt d σ.n) = true) (hx : Get σ q x (.one (.t (.v (.int k0 n))))) (hu0 : (P.underlying t).isSome = true) (hu : P.underlying t' = some (.int k)) (hm : q = true → k.wrap n = m) :
    Op1 P ops o σ (σ.put o.dst (q, .a (.one (.t (.v (.int k m)))))) :=
  .val hg hd fun I w0 a w hr hq => by
    have hv := hx.int hr hq
    obtain ⟨u0, hu0⟩ := Option.isSome_iff_exists.1 hu0
    exact ⟨_, by simp [execOp, ho, hv, Go.convert, run_underlying hu0, run_underlying hu, Conv.intToInt, hm hq], VS_v _⟩
end
end Go.Q
set_option linter.unusedVariables false
set_option linter.unusedSimpArgs false
namespace Go.Q
open Go.RowKit
section
variable {P : Program} {ops : Array Oper} {o : Oper} {σ : St}
end
end Go.Q
set_option linter.unusedVariables false
set_option linter.unusedSimpArgs false
namespace Go.Q
open Go.RowKit
section
variable {P : Program} {ops : Array Oper} {o : Oper} {σ : St} {q : Bool}
end
end Go.Q
set_option linter.unusedVariables false
set_option linter.unusedSimpArgs false
set_option maxHeartbeats 1000000
set_option maxRecDepth 100000
namespace Go.Q
open Go.D
def bs (l : List UInt8) : ByteArray := ⟨l.toArray⟩
theorem bs_append (l m : List UInt8) : bs l ++ bs m = bs (l ++ m) := by
  apply ByteArray.ext
  rw [ByteArray.data_append]
  simp [bs]
theorem bs_size (l : List UInt8) : (bs l).size = l.length := by simp [bs, ByteArray.size]
theorem bs_list (l : List UInt8) : (bs l).data.toList = l := by simp [bs]
theorem bs_inj {l m : List UInt8} (h : bs l = bs m) : l = m := by rw [← bs_list l, ← bs_list m, h]
def numS (n : Int) : List UInt8 := Lib.decDigits n.toNat
theorem dig_small {n : Nat} (h : n < 10) : Lib.decDigits n = [UInt8.ofNat (48 + n)] := by rw [Lib.decDigits, dif_pos h]
theorem dig_more {n : Nat} (h : 10 ≤ n) : Lib.decDigits n = Lib.decDigits (n / 10) ++ [UInt8.ofNat (48 + n % 10)] := by rw [Lib.decDigits, dif_neg (by omega)]
theorem dig_len {n : Nat} (h : n < 100) : 1 ≤ (Lib.decDigits n).length ∧ (Lib.decDigits n).length ≤ 2 := by
  by_cases h1 : n < 10
  · rw [dig_small h1]; simp
  · rw [dig_more (by omega), dig_small (by omega)]; simp
theorem numS_len {n : Int} (h : n < 100) : 1 ≤ (numS n).length ∧ (numS n).length ≤ 2 := dig_len (by omega)
/-- Parts with a separator between them, as they are added one by one. -/
def joinL (sep : List UInt8) (xs : List (List UInt8)) : List UInt8 := Lib.join xs sep
theorem joinL_nil (sep : List UInt8) : joinL sep [] = [] := rfl
theorem joinL_len {sep : List UInt8} {b : Nat} {α : Type} {f : α → List UInt8} : ∀ {l : List α}, (∀ x ∈ l, (f x).length ≤ b) → (joinL sep (l.map f)).length ≤ l.length * (b + sep.length)
  | [], _ => by simp [joinL_nil]
  | x :: l, h => by
    have h1 := h x (by simp)
    have h2 : ∀ (r : List α), (∀ x ∈ r, (f x).length ≤ b) → (Lib.joinTail sep (r.map f)).length ≤ r.length * (b + sep.length) := by
      intro r
      induction r with
      | nil => intro _; simp [Lib.joinTail]
      | cons y r ih =>
        intro hr
        have h3 := hr y (by simp)
        have h4 := ih fun z hz => hr z (by simp [hz])
        simp only [Lib.joinTail, List.map_cons, List.flatten_cons, List.length_append, List.length_cons] at h4 ⊢
        rw [Nat.succ_mul]; omega
    have h5 := h2 l fun z hz => h z (by simp [hz])
    unfold joinL
    rw [List.map_cons, Lib.join_cons, List.length_append, List.length_cons, Nat.succ_mul]
    omega
def cStr (s : List UInt8) : List T := [.v (.string (bs s))]
end Go.Q
set_option linter.unusedVariables false
set_option linter.unusedSimpArgs false
set_option maxHeartbeats 1000000
set_option maxRecDepth 100000
namespace Go.Q
open Go.D
/-! ### Pairs and deltas -/
theorem ap_mem {l : List TPair} (h : arePairs l = true) : ∀ p ∈ l, (0 ≤ p.From ∧ p.From < 5) ∧ 0 ≤ p.To ∧ p.To < 5 := by
  intro p hp
  obtain ⟨k, hk⟩ := List.getElem?_of_mem hp
  have hl := (List.getElem?_eq_some_iff.1 hk).1
  unfold arePairs at h
  have h1 := List.all_eq_true.1 h k (List.mem_range.2 hl)
  unfold apAt at h1
  rw [hk] at h1
  simp only [okP, inB, Bool.and_eq_true, decide_eq_true_eq] at h1
  omega
def fmtPair (p : TPair) : List UInt8 := numS p.From ++ numS p.To
def fmtPairs (l : List TPair) : List UInt8 := if arePairs l = true then (if l = [] then [110, 111, 110, 101] else joinL [32] (l.map fmtPair)) else []
theorem fmtPair_len {p : TPair} (h : (0 ≤ p.From ∧ p.From < 5) ∧ 0 ≤ p.To ∧ p.To < 5) : (fmtPair p).length ≤ 4 := by
  have h1 := numS_len (n := p.From) (by omega)
  have h2 := numS_len (n := p.To) (by omega)
  unfold fmtPair
  rw [List.length_append]; omega
theorem fmtPairs_len (l : List TPair) : (fmtPairs l).length ≤ 5 * l.length + 4 := by
  unfold fmtPairs
  split
  · rename_i h
    split
    · simp
    · have := joinL_len (sep := [32]) (b := 4) (f := fmtPair) (l := l) fun p hp => fmtPair_len (ap_mem h p hp)
      simp at this; omega
  · simp
def fmtDelta (d : TDelta) : List UInt8 := if isDelta d = true then [43] ++ fmtPairs d.Added ++ [32, 45] ++ fmtPairs d.Removed else []
end Go.Q
