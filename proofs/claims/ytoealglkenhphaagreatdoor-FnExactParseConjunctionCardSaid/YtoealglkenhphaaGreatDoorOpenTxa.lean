/- Merged texts. -/
import Derived.Test.YtoealglkenhphaaGreatDoorAbs15xa
import Derived.Deep.Slices
set_option linter.unusedVariables false
set_option linter.unusedSimpArgs false
namespace Go.D
open Go.Q
def cInt (x : Int) : List T := [.v (.int .i64 x)]
def cBool (x : Bool) : List T := [.v (.bool x)]
def cIntS (x : List Int) : List T := [.sl 1 (x.map cInt)]
structure TPair where
  From : Int
  To : Int
  deriving DecidableEq
def cPair (x : TPair) : List T := [.v (.int .i64 x.From), .v (.int .i64 x.To)]
structure TToken where
  Kind : Int
  Letter : Int
  Low : Int
  High : Int
  deriving DecidableEq
def cToken (x : TToken) : List T := [.v (.int .i64 x.Kind), .v (.int .i64 x.Letter), .v (.int .i64 x.Low), .v (.int .i64 x.High)]
structure TExpr where
  Tokens : (List TToken)
  deriving DecidableEq
def cExpr (x : TExpr) : List T := [.sl 4 (x.Tokens.map cToken)]
structure TEdge where
  ID : Int
  From : Int
  To : Int
  Label : Int
  deriving DecidableEq
def cEdge (x : TEdge) : List T := [.v (.int .i64 x.ID), .v (.int .i64 x.From), .v (.int .i64 x.To), .v (.int .i64 x.Label)]
structure TGraph where
  Values : (List Int)
  Edges : (List TEdge)
  deriving DecidableEq
def cGraph (x : TGraph) : List T := [.sl 1 (x.Values.map cInt), .sl 4 (x.Edges.map cEdge)]
structure TStep where
  Edge : Int
  Inverse : Bool
  deriving DecidableEq
def cStep (x : TStep) : List T := [.v (.int .i64 x.Edge), .v (.bool x.Inverse)]
structure TWalk where
  Start : Int
  Steps : (List TStep)
  deriving DecidableEq
def cWalk (x : TWalk) : List T := [.v (.int .i64 x.Start), .sl 2 (x.Steps.map cStep)]
structure TChange where
  Insert : Bool
  Edge : TEdge
  deriving DecidableEq
def cChange (x : TChange) : List T := [.v (.bool x.Insert), .v (.int .i64 x.Edge.ID), .v (.int .i64 x.Edge.From), .v (.int .i64 x.Edge.To), .v (.int .i64 x.Edge.Label)]
structure TBatch where
  Changes : (List TChange)
  deriving DecidableEq
def cBatch (x : TBatch) : List T := [.sl 5 (x.Changes.map cChange)]
structure THistory where
  First : Int
  Graphs : (List TGraph)
  deriving DecidableEq
def cHistory (x : THistory) : List T := [.v (.int .i64 x.First), .sl 2 (x.Graphs.map cGraph)]
structure TPositions where
  Letters : (List Int)
  First : Int
  Last : Int
  Follow : (List Int)
  Nullable : Bool
  deriving DecidableEq
def cPositions (x : TPositions) : List T := [.sl 1 (x.Letters.map cInt), .v (.int .i64 x.First), .v (.int .i64 x.Last), .sl 1 (x.Follow.map cInt), .v (.bool x.Nullable)]
structure TAutomaton where
  Start : Int
  Accept : (List Bool)
  Next : (List (List Int))
  deriving DecidableEq
def cAutomaton (x : TAutomaton) : List T := [.v (.int .i64 x.Start), .sl 1 (x.Accept.map cBool), .sl 1 (x.Next.map cIntS)]
structure TProductStep where
  Step : TStep
  Node : Int
  State : Int
  deriving DecidableEq
def cProductStep (x : TProductStep) : List T := [.v (.int .i64 x.Step.Edge), .v (.bool x.Step.Inverse), .v (.int .i64 x.Node), .v (.int .i64 x.State)]
structure TPathAtom where
  From : Int
  To : Int
  Expr : TExpr
  deriving DecidableEq
def cPathAtom (x : TPathAtom) : List T := [.v (.int .i64 x.From), .v (.int .i64 x.To), .sl 4 (x.Expr.Tokens.map cToken)]
structure TConjunction where
  VariableCount : Int
  Atoms : (List TPathAtom)
  deriving DecidableEq
def cConjunction (x : TConjunction) : List T := [.v (.int .i64 x.VariableCount), .sl 3 (x.Atoms.map cPathAtom)]
structure TView where
  Automaton : TAutomaton
  Source : Int
  Ranks : (List Int)
  Supports : (List Int)
  deriving DecidableEq
def cView (x : TView) : List T := [.v (.int .i64 x.Automaton.Start), .sl 1 (x.Automaton.Accept.map cBool), .sl 1 (x.Automaton.Next.map cIntS), .v (.int .i64 x.Source), .sl 1 (x.Ranks.map cInt), .sl 1 (x.Supports.map cInt)]
structure TDelta where
  Added : (List TPair)
  Removed : (List TPair)
  deriving DecidableEq
def cDelta (x : TDelta) : List T := [.sl 2 (x.Added.map cPair), .sl 2 (x.Removed.map cPair)]
structure TRegistered where
  ID : Int
  Expr : TExpr
  Shared : Int
  deriving DecidableEq
def cRegistered (x : TRegistered) : List T := [.v (.int .i64 x.ID), .sl 4 (x.Expr.Tokens.map cToken), .v (.int .i64 x.Shared)]
structure TRegistry where
  Automata : (List TAutomaton)
  Queries : (List TRegistered)
  deriving DecidableEq
def cRegistry (x : TRegistry) : List T := [.sl 3 (x.Automata.map cAutomaton), .sl 3 (x.Queries.map cRegistered)]
def okTokenS (x : (List TToken)) : Prop := x.length ≤ 1048576
def okExpr (x : TExpr) : Prop := okTokenS x.Tokens ∧ True
def okPathAtom (x : TPathAtom) : Prop := okExpr x.Expr ∧ True
def okPathAtomS (x : (List TPathAtom)) : Prop := x.length ≤ 1048576 ∧ ∀ y ∈ x, okPathAtom y
def okConjunction (x : TConjunction) : Prop := okPathAtomS x.Atoms ∧ True
end Go.D
namespace Go.Q
def inB (x a b : Int) : Bool := decide (a ≤ x) && decide (x ≤ b)
theorem each_succ {α : Type} {p : α → Bool} {l : List α} {k : Nat} {x : α} (h : ∀ j y, j < k → l[j]? = some y → p y = true) (hx : l[k]? = some x) (hp : p x = true) : ∀ j y, j < k + 1 → l[j]? = some y → p y = true := fun j y hj hy => by
  rcases Nat.lt_or_eq_of_le (Nat.le_of_lt_succ hj) with h1 | rfl
  · exact h j y h1 hy
  · rw [hx] at hy; cases hy; exact hp
theorem each_all {α : Type} {p : α → Bool} {l : List α} {k : Nat} (h : ∀ j y, j < k → l[j]? = some y → p y = true) (hk : l.length ≤ k) : l.all p = true := by
  rw [List.all_eq_true]
  intro x hx
  obtain ⟨j, hj, rfl⟩ := List.getElem_of_mem hx
  exact h j _ (by omega) (List.getElem?_eq_getElem hj)
theorem not_all {α : Type} {p : α → Bool} {l : List α} {k : Nat} {x : α} (hx : l[k]? = some x) (hp : p x = false) : l.all p = false := by
  rw [List.all_eq_false]
  exact ⟨x, List.mem_of_getElem? hx, by rw [hp]; simp⟩
def findI {α : Type} (p : α → Bool) : List α → Nat → Int
  | [], _ => -1
  | x :: r, k => if p x then (k : Int) else findI p r (k + 1)
theorem findI_at {α : Type} {p : α → Bool} : ∀ {l : List α} {m k : Nat} {x : α}, (∀ j y, j < k → l[j]? = some y → (!p y) = true) → l[k]? = some x → p x = true → findI p l m = ((m + k : Nat) : Int)
  | [], _, _, _, _, h, _ => by simp at h
  | y :: l, m, 0, x, _, h, hp => by simp at h; subst h; simp [findI, hp]
  | y :: l, m, k + 1, x, hn, h, hp => by
    have h0 := hn 0 y (by omega) rfl
    have h0' : p y = false := by simpa using h0
    rw [findI, h0', if_neg (by simp), findI_at (k := k) (fun j z hj hz => hn (j + 1) z (by omega) (by simpa using hz)) (by simpa using h) hp]
    omega
theorem findI_none {α : Type} {p : α → Bool} : ∀ {l : List α} {m k : Nat}, (∀ j y, j < k → l[j]? = some y → (!p y) = true) → l.length ≤ k → findI p l m = -1
  | [], _, _, _, _ => rfl
  | y :: l, m, 0, _, h => by simp at h
  | y :: l, m, k + 1, hn, h => by
    have h0 := hn 0 y (by omega) rfl
    have h0' : p y = false := by simpa using h0
    rw [findI, h0', if_neg (by simp)]
    exact findI_none (k := k) (fun j z hj hz => hn (j + 1) z (by omega) (by simpa using hz)) (by simpa using h)
theorem getD_at {α : Type} {d : α} {l : List α} {k : Nat} (h : k < l.length) : l[k]? = some (l[k]?.getD d) := by rw [List.getElem?_eq_getElem h]; rfl
section
open Go.RowKit
variable {P : Program} {ops : Array Oper} {o : Oper} {σ : St} {q : Bool}
theorem R_lenm {α : Type} {f : α → List T} {l : List α} {x : Operand} {t : TypeId} {A0 : A} {k : Nat} (ho : o.op = .call { callee := .builtin .len, args := #[x], argTypes := #[t] }) (hg : Grd ops o σ q) (hd : o.dst.all (fun d => Nat.blt d σ.n) = true)
    (hx : Get σ q x A0) (hs : Sq σ A0 k (l.map f)) {e : TypeId} (hu : P.underlying t = some (.slice e)) : Op1 P ops o σ (σ.put o.dst (q, .a (.one (.t (.v (.int .i64 l.length)))))) := by
  have := R_len ho hg hd hx hs hu
  rwa [List.length_map] at this
end
end Go.Q
set_option linter.unusedVariables false
set_option linter.unusedSimpArgs false
namespace Go.Q
open Go.RowKit Go.ChangeShapes Go.WideShapes Go.Deep Go.D
/-- Whatever the form reads at the type t reads as the cells of a datum. -/
def OpensT {α : Type} (c : α → List T) (P : Program) (t : TypeId) : Prop :=
  ∀ {H : Type} {enc : TypeId × Value → H} {w : World} {base : Nat} {spare : Nat → Bool} {held : Bool} {fuel : Nat} {cs : List Value} {x : DataW H × List MemPlace},
    DataW.trod enc P w base spare held fuel t cs = some x → ∃ (a : α) (F : List Nat), Cs false w (c a) cs F
/-- An argument's value. -/
theorem OpensT.vl {α : Type} {c : α → List T} {P : Program} {t : TypeId} {v : Value} {H : Type} {enc : TypeId × Value → H} {w : World} {base : Nat} {spare : Nat → Bool} {held : Bool} {d : DataW H} {p : List MemPlace} (h : OpensT c P t)
    (hv : DataW.Trod enc P w base spare held t v d p) : ∃ (a : α) (F : List Nat), Cs false w (c a) v.cells.toList F := by
  obtain ⟨fuel, hf⟩ := hv
  exact h hf
end Go.Q
