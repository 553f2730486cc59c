/- The data that the program speaks of, and their cells. -/
import Derived.Test.YtibjbmjgmfiecaaDoorAbs15xa
set_option linter.unusedVariables false
set_option linter.unusedSimpArgs false
namespace Go.D
open Go.Q
/-! ### Sizes, as the laws count them -/
def szL (n : Nat) (a : Int) : Int := if a - n < 0 then -1 else a - n
def szSeq : List (Int → Int) → Int → Int
  | [], a => a
  | f :: r, a => if f a < 0 then -1 else szSeq r (f a)
def SzOk {α : Type} (f : α → Int → Int) (ok : α → Prop) : Prop := ∀ x a, 0 ≤ a → a ≤ 1048576 → (-1 ≤ f x a ∧ f x a ≤ a) ∧ (0 ≤ f x a → ok x)
theorem szL_ok {α : Type} : SzOk (fun (l : List α) a => szL l.length a) (fun l => l.length ≤ 1048576) := fun l a h0 h1 => by
  dsimp only
  unfold szL
  split <;> refine ⟨⟨?_, ?_⟩, fun h => ?_⟩ <;> omega
def SqOk (fs : List (Int → Int)) (p : Prop) : Prop := ∀ a, 0 ≤ a → a ≤ 1048576 → (-1 ≤ szSeq fs a ∧ szSeq fs a ≤ a) ∧ (0 ≤ szSeq fs a → p)
theorem szSeq_nil : SqOk [] True := fun a h0 _ => ⟨⟨by simp only [szSeq]; omega, by simp only [szSeq]; omega⟩, fun _ => trivial⟩
theorem szSeq_cons {α : Type} {f : α → Int → Int} {ok : α → Prop} {x : α} {fs : List (Int → Int)} {p : Prop} (h : SzOk f ok) (hr : SqOk fs p) : SqOk (f x :: fs) (ok x ∧ p) := fun a h0 h1 => by
  obtain ⟨⟨g0, g1⟩, g2⟩ := h x a h0 h1
  rw [szSeq]
  split
  · exact ⟨⟨by omega, by omega⟩, fun h => by omega⟩
  · obtain ⟨⟨k0, k1⟩, k2⟩ := hr (f x a) (by omega) (by omega)
    exact ⟨⟨by omega, by omega⟩, fun h => ⟨g2 (by omega), k2 h⟩⟩
/-! ### Rows made cell by cell -/
theorem made_at {α β : Type} {l : List α} {c : α → β} {z : β} {k : Nat} (h : k < l.length) : ((l.take k).map c ++ List.replicate (l.length - k) z)[k]? = some z := by
  have e : ((l.take k).map c).length = k := by simp; omega
  rw [List.getElem?_append_right (by omega), e, Nat.sub_self, List.getElem?_replicate, if_pos (by omega)]
theorem set_made {α β : Type} {l : List α} {c : α → β} {z : β} {k : Nat} {x : α} (h : l[k]? = some x) : ((l.take k).map c ++ List.replicate (l.length - k) z).set k (c x) = (l.take (k + 1)).map c ++ List.replicate (l.length - (k + 1)) z := by
  obtain ⟨hk, rfl⟩ := List.getElem?_eq_some_iff.1 h
  rw [List.set_append_right _ _ (by simp; omega)]
  have e : k - ((l.take k).map c).length = 0 := by simp; omega
  rw [e, show l.length - k = (l.length - (k + 1)) + 1 by omega, List.replicate_succ, List.set_cons_zero, List.take_succ_eq_append_getElem hk, List.map_append, List.append_assoc]
  rfl
theorem made_end {α β : Type} {l : List α} {c : α → β} {z : β} {k : Nat} (h : l.length ≤ k) : (l.take k).map c ++ List.replicate (l.length - k) z = l.map c := by
  rw [List.take_of_length_le h, show l.length - k = 0 by omega]
  simp

def cInt (x : Int) : List T := [.v (.int .i64 x)]
def cBool (x : Bool) : List T := [.v (.bool x)]
def cIntS (x : List Int) : List T := [.sl 1 (x.map cInt)]
structure TPair where
  From : Int
  To : Int
  deriving DecidableEq
def cPair (x : TPair) : List T := [.v (.int .i64 x.From), .v (.int .i64 x.To)]
structure TToken where
  Kind : Int
  Letter : Int
  Low : Int
  High : Int
  deriving DecidableEq
def cToken (x : TToken) : List T := [.v (.int .i64 x.Kind), .v (.int .i64 x.Letter), .v (.int .i64 x.Low), .v (.int .i64 x.High)]
structure TExpr where
  Tokens : (List TToken)
  deriving DecidableEq
def cExpr (x : TExpr) : List T := [.sl 4 (x.Tokens.map cToken)]
structure TEdge where
  ID : Int
  From : Int
  To : Int
  Label : Int
  deriving DecidableEq
def cEdge (x : TEdge) : List T := [.v (.int .i64 x.ID), .v (.int .i64 x.From), .v (.int .i64 x.To), .v (.int .i64 x.Label)]
structure TGraph where
  Values : (List Int)
  Edges : (List TEdge)
  deriving DecidableEq
def cGraph (x : TGraph) : List T := [.sl 1 (x.Values.map cInt), .sl 4 (x.Edges.map cEdge)]
structure TStep where
  Edge : Int
  Inverse : Bool
  deriving DecidableEq
def cStep (x : TStep) : List T := [.v (.int .i64 x.Edge), .v (.bool x.Inverse)]
structure TWalk where
  Start : Int
  Steps : (List TStep)
  deriving DecidableEq
def cWalk (x : TWalk) : List T := [.v (.int .i64 x.Start), .sl 2 (x.Steps.map cStep)]
structure TChange where
  Insert : Bool
  Edge : TEdge
  deriving DecidableEq
def cChange (x : TChange) : List T := [.v (.bool x.Insert), .v (.int .i64 x.Edge.ID), .v (.int .i64 x.Edge.From), .v (.int .i64 x.Edge.To), .v (.int .i64 x.Edge.Label)]
def cChangeS (x : List TChange) : List T := [.sl 5 (x.map cChange)]
structure TBatch where
  Changes : (List TChange)
  deriving DecidableEq
def cBatch (x : TBatch) : List T := [.sl 5 (x.Changes.map cChange)]
structure THistory where
  First : Int
  Graphs : (List TGraph)
  deriving DecidableEq
def cHistory (x : THistory) : List T := [.v (.int .i64 x.First), .sl 2 (x.Graphs.map cGraph)]
structure TPositions where
  Letters : (List Int)
  First : Int
  Last : Int
  Follow : (List Int)
  Nullable : Bool
  deriving DecidableEq
def cPositions (x : TPositions) : List T := [.sl 1 (x.Letters.map cInt), .v (.int .i64 x.First), .v (.int .i64 x.Last), .sl 1 (x.Follow.map cInt), .v (.bool x.Nullable)]
structure TAutomaton where
  Start : Int
  Accept : (List Bool)
  Next : (List (List Int))
  deriving DecidableEq
def cAutomaton (x : TAutomaton) : List T := [.v (.int .i64 x.Start), .sl 1 (x.Accept.map cBool), .sl 1 (x.Next.map cIntS)]
structure TProductStep where
  Step : TStep
  Node : Int
  State : Int
  deriving DecidableEq
def cProductStep (x : TProductStep) : List T := [.v (.int .i64 x.Step.Edge), .v (.bool x.Step.Inverse), .v (.int .i64 x.Node), .v (.int .i64 x.State)]
structure TPathAtom where
  From : Int
  To : Int
  Expr : TExpr
  deriving DecidableEq
def cPathAtom (x : TPathAtom) : List T := [.v (.int .i64 x.From), .v (.int .i64 x.To), .sl 4 (x.Expr.Tokens.map cToken)]
structure TConjunction where
  VariableCount : Int
  Atoms : (List TPathAtom)
  deriving DecidableEq
def cConjunction (x : TConjunction) : List T := [.v (.int .i64 x.VariableCount), .sl 3 (x.Atoms.map cPathAtom)]
structure TView where
  Automaton : TAutomaton
  Source : Int
  Ranks : (List Int)
  Supports : (List Int)
  deriving DecidableEq
def cView (x : TView) : List T := [.v (.int .i64 x.Automaton.Start), .sl 1 (x.Automaton.Accept.map cBool), .sl 1 (x.Automaton.Next.map cIntS), .v (.int .i64 x.Source), .sl 1 (x.Ranks.map cInt), .sl 1 (x.Supports.map cInt)]
structure TDelta where
  Added : (List TPair)
  Removed : (List TPair)
  deriving DecidableEq
def cDelta (x : TDelta) : List T := [.sl 2 (x.Added.map cPair), .sl 2 (x.Removed.map cPair)]
structure TRegistered where
  ID : Int
  Expr : TExpr
  Shared : Int
  deriving DecidableEq
def cRegistered (x : TRegistered) : List T := [.v (.int .i64 x.ID), .sl 4 (x.Expr.Tokens.map cToken), .v (.int .i64 x.Shared)]
structure TRegistry where
  Automata : (List TAutomaton)
  Queries : (List TRegistered)
  deriving DecidableEq
def cRegistry (x : TRegistry) : List T := [.sl 3 (x.Automata.map cAutomaton), .sl 3 (x.Queries.map cRegistered)]
def okChangeS (x : (List TChange)) : Prop := x.length ≤ 1048576
def szChangeS (x : (List TChange)) (a : Int) : Int := szL x.length a
theorem szChangeS_ok : SzOk szChangeS okChangeS := szL_ok
def okBatch (x : TBatch) : Prop := okChangeS x.Changes ∧ True
def szBatch (x : TBatch) (a : Int) : Int := szSeq [szChangeS x.Changes] a
theorem szBatch_ok : SzOk szBatch okBatch := fun _ a => (szSeq_cons szChangeS_ok szSeq_nil) a
end Go.D
namespace Go.Q
def inB (x a b : Int) : Bool := decide (a ≤ x) && decide (x ≤ b)
section
open Go.RowKit
variable {P : Program} {ops : Array Oper} {o : Oper} {σ : St} {q : Bool}
theorem R_lenm {α : Type} {f : α → List T} {l : List α} {x : Operand} {t : TypeId} {A0 : A} {k : Nat} (ho : o.op = .call { callee := .builtin .len, args := #[x], argTypes := #[t] }) (hg : Grd ops o σ q) (hd : o.dst.all (fun d => Nat.blt d σ.n) = true)
    (hx : Get σ q x A0) (hs : Sq σ A0 k (l.map f)) {e : TypeId} (hu : P.underlying t = some (.slice e)) : Op1 P ops o σ (σ.put o.dst (q, .a (.one (.t (.v (.int .i64 l.length)))))) := by
  have := R_len ho hg hd hx hs hu
  rwa [List.length_map] at this
end
end Go.Q
