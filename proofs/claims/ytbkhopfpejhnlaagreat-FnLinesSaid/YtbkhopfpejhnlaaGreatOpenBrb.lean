import Derived.Test.YtbkhopfpejhnlaaGreatAbs15rb
import Derived.Test.YtbkhopfpejhnlaaGreatProg
import Derived.Deep.Slices
set_option linter.unusedVariables false
set_option linter.unusedSimpArgs false
namespace Go.D
open Go.Q
def cInt (x : Int) : List T := [.v (.int .i64 x)]
def cBool (x : Bool) : List T := [.v (.bool x)]
def cIntS (x : List Int) : List T := [.sl 1 (x.map cInt)]
def cBoolS (x : List Bool) : List T := [.sl 1 (x.map cBool)]
structure TPair where
 From : Int
 To : Int
 deriving DecidableEq
def cPair (x : TPair) : List T := [.v (.int .i64 x.From), .v (.int .i64 x.To)]
theorem TPair.ext_iff' {x y : TPair} : x = y ↔ x.From = y.From ∧ x.To = y.To := by
 cases x; cases y; simp
structure TToken where
 Kind : Int
 Letter : Int
 Low : Int
 High : Int
 deriving DecidableEq
def cToken (x : TToken) : List T := [.v (.int .i64 x.Kind), .v (.int .i64 x.Letter), .v (.int .i64 x.Low), .v (.int .i64 x.High)]
theorem TToken.ext_iff' {x y : TToken} : x = y ↔ x.Kind = y.Kind ∧ x.Letter = y.Letter ∧ x.Low = y.Low ∧ x.High = y.High := by
 cases x; cases y; simp
structure TExpr where
 Tokens : (List TToken)
 deriving DecidableEq
def cExpr (x : TExpr) : List T := [.sl 4 (x.Tokens.map cToken)]
theorem TExpr.ext_iff' {x y : TExpr} : x = y ↔ x.Tokens = y.Tokens := by
 cases x; cases y; simp
structure TEdge where
 ID : Int
 From : Int
 To : Int
 Label : Int
 deriving DecidableEq
def cEdge (x : TEdge) : List T := [.v (.int .i64 x.ID), .v (.int .i64 x.From), .v (.int .i64 x.To), .v (.int .i64 x.Label)]
theorem TEdge.ext_iff' {x y : TEdge} : x = y ↔ x.ID = y.ID ∧ x.From = y.From ∧ x.To = y.To ∧ x.Label = y.Label := by
 cases x; cases y; simp
structure TGraph where
 Values : (List Int)
 Edges : (List TEdge)
 deriving DecidableEq
def cGraph (x : TGraph) : List T := [.sl 1 (x.Values.map cInt), .sl 4 (x.Edges.map cEdge)]
theorem TGraph.ext_iff' {x y : TGraph} : x = y ↔ x.Values = y.Values ∧ x.Edges = y.Edges := by
 cases x; cases y; simp
structure TStep where
 Edge : Int
 Inverse : Bool
 deriving DecidableEq
def cStep (x : TStep) : List T := [.v (.int .i64 x.Edge), .v (.bool x.Inverse)]
theorem TStep.ext_iff' {x y : TStep} : x = y ↔ x.Edge = y.Edge ∧ x.Inverse = y.Inverse := by
 cases x; cases y; simp
structure TWalk where
 Start : Int
 Steps : (List TStep)
 deriving DecidableEq
def cWalk (x : TWalk) : List T := [.v (.int .i64 x.Start), .sl 2 (x.Steps.map cStep)]
theorem TWalk.ext_iff' {x y : TWalk} : x = y ↔ x.Start = y.Start ∧ x.Steps = y.Steps := by
 cases x; cases y; simp
structure TChange where
 Insert : Bool
 Edge : TEdge
 deriving DecidableEq
def cChange (x : TChange) : List T := [.v (.bool x.Insert), .v (.int .i64 x.Edge.ID), .v (.int .i64 x.Edge.From), .v (.int .i64 x.Edge.To), .v (.int .i64 x.Edge.Label)]
theorem TChange.ext_iff' {x y : TChange} : x = y ↔ x.Insert = y.Insert ∧ x.Edge = y.Edge := by
 cases x; cases y; simp
structure TBatch where
 Changes : (List TChange)
 deriving DecidableEq
def cBatch (x : TBatch) : List T := [.sl 5 (x.Changes.map cChange)]
theorem TBatch.ext_iff' {x y : TBatch} : x = y ↔ x.Changes = y.Changes := by
 cases x; cases y; simp
structure THistory where
 First : Int
 Graphs : (List TGraph)
 deriving DecidableEq
def cHistory (x : THistory) : List T := [.v (.int .i64 x.First), .sl 2 (x.Graphs.map cGraph)]
theorem THistory.ext_iff' {x y : THistory} : x = y ↔ x.First = y.First ∧ x.Graphs = y.Graphs := by
 cases x; cases y; simp
structure TPositions where
 Letters : (List Int)
 First : Int
 Last : Int
 Follow : (List Int)
 Nullable : Bool
 deriving DecidableEq
def cPositions (x : TPositions) : List T := [.sl 1 (x.Letters.map cInt), .v (.int .i64 x.First), .v (.int .i64 x.Last), .sl 1 (x.Follow.map cInt), .v (.bool x.Nullable)]
theorem TPositions.ext_iff' {x y : TPositions} : x = y ↔ x.Letters = y.Letters ∧ x.First = y.First ∧ x.Last = y.Last ∧ x.Follow = y.Follow ∧ x.Nullable = y.Nullable := by
 cases x; cases y; simp
structure TAutomaton where
 Start : Int
 Accept : (List Bool)
 Next : (List (List Int))
 deriving DecidableEq
def cAutomaton (x : TAutomaton) : List T := [.v (.int .i64 x.Start), .sl 1 (x.Accept.map cBool), .sl 1 (x.Next.map cIntS)]
theorem TAutomaton.ext_iff' {x y : TAutomaton} : x = y ↔ x.Start = y.Start ∧ x.Accept = y.Accept ∧ x.Next = y.Next := by
 cases x; cases y; simp
structure TProductStep where
 Step : TStep
 Node : Int
 State : Int
 deriving DecidableEq
def cProductStep (x : TProductStep) : List T := [.v (.int .i64 x.Step.Edge), .v (.bool x.Step.Inverse), .v (.int .i64 x.Node), .v (.int .i64 x.State)]
theorem TProductStep.ext_iff' {x y : TProductStep} : x = y ↔ x.Step = y.Step ∧ x.Node = y.Node ∧ x.State = y.State := by
 cases x; cases y; simp
structure TPathAtom where
 From : Int
 To : Int
 Expr : TExpr
 deriving DecidableEq
def cPathAtom (x : TPathAtom) : List T := [.v (.int .i64 x.From), .v (.int .i64 x.To), .sl 4 (x.Expr.Tokens.map cToken)]
theorem TPathAtom.ext_iff' {x y : TPathAtom} : x = y ↔ x.From = y.From ∧ x.To = y.To ∧ x.Expr = y.Expr := by
 cases x; cases y; simp
structure TConjunction where
 VariableCount : Int
 Atoms : (List TPathAtom)
 deriving DecidableEq
def cConjunction (x : TConjunction) : List T := [.v (.int .i64 x.VariableCount), .sl 3 (x.Atoms.map cPathAtom)]
theorem TConjunction.ext_iff' {x y : TConjunction} : x = y ↔ x.VariableCount = y.VariableCount ∧ x.Atoms = y.Atoms := by
 cases x; cases y; simp
structure TView where
 Automaton : TAutomaton
 Source : Int
 Ranks : (List Int)
 Supports : (List Int)
 deriving DecidableEq
def cView (x : TView) : List T := [.v (.int .i64 x.Automaton.Start), .sl 1 (x.Automaton.Accept.map cBool), .sl 1 (x.Automaton.Next.map cIntS), .v (.int .i64 x.Source), .sl 1 (x.Ranks.map cInt), .sl 1 (x.Supports.map cInt)]
theorem TView.ext_iff' {x y : TView} : x = y ↔ x.Automaton = y.Automaton ∧ x.Source = y.Source ∧ x.Ranks = y.Ranks ∧ x.Supports = y.Supports := by
 cases x; cases y; simp
structure TDelta where
 Added : (List TPair)
 Removed : (List TPair)
 deriving DecidableEq
def cDelta (x : TDelta) : List T := [.sl 2 (x.Added.map cPair), .sl 2 (x.Removed.map cPair)]
theorem TDelta.ext_iff' {x y : TDelta} : x = y ↔ x.Added = y.Added ∧ x.Removed = y.Removed := by
 cases x; cases y; simp
structure TRegistered where
 ID : Int
 Expr : TExpr
 Shared : Int
 deriving DecidableEq
def cRegistered (x : TRegistered) : List T := [.v (.int .i64 x.ID), .sl 4 (x.Expr.Tokens.map cToken), .v (.int .i64 x.Shared)]
theorem TRegistered.ext_iff' {x y : TRegistered} : x = y ↔ x.ID = y.ID ∧ x.Expr = y.Expr ∧ x.Shared = y.Shared := by
 cases x; cases y; simp
structure TRegistry where
 Automata : (List TAutomaton)
 Queries : (List TRegistered)
 deriving DecidableEq
def cRegistry (x : TRegistry) : List T := [.sl 3 (x.Automata.map cAutomaton), .sl 3 (x.Queries.map cRegistered)]
theorem TRegistry.ext_iff' {x y : TRegistry} : x = y ↔ x.Automata = y.Automata ∧ x.Queries = y.Queries := by
 cases x; cases y; simp
end Go.D
namespace Go.Q
def inB (x a b : Int) : Bool := decide (a ≤ x) && decide (x ≤ b)
theorem eq_of_getElem? {α : Type} {l r : List α} (hl : l.length = r.length) (h : ∀ i : Nat, i < l.length → l[i]? = r[i]?) : l = r := List.ext_getElem? fun i => by
 rcases Nat.lt_or_ge i l.length with hi | hi
 · exact h i hi
 · rw [List.getElem?_eq_none hi, List.getElem?_eq_none (by omega)]
theorem each_succ {α : Type} {p : α → Bool} {l : List α} {k : Nat} {x : α} (h : ∀ j y, j < k → l[j]? = some y → p y = true) (hx : l[k]? = some x) (hp : p x = true) : ∀ j y, j < k + 1 → l[j]? = some y → p y = true := fun j y hj hy => by
 rcases Nat.lt_or_eq_of_le (Nat.le_of_lt_succ hj) with h1 | rfl
 · exact h j y h1 hy
 · rw [hx] at hy; cases hy; exact hp
theorem each_all {α : Type} {p : α → Bool} {l : List α} {k : Nat} (h : ∀ j y, j < k → l[j]? = some y → p y = true) (hk : l.length ≤ k) : l.all p = true := by
 rw [List.all_eq_true]
 intro x hx
 obtain ⟨j, hj, rfl⟩ := List.getElem_of_mem hx
 exact h j _ (by omega) (List.getElem?_eq_getElem hj)
theorem not_all {α : Type} {p : α → Bool} {l : List α} {k : Nat} {x : α} (hx : l[k]? = some x) (hp : p x = false) : l.all p = false := by
 rw [List.all_eq_false]
 exact ⟨x, List.mem_of_getElem? hx, by rw [hp]; simp⟩
def findI {α : Type} (p : α → Bool) : List α → Nat → Int
 | [], _ => -1
 | x :: r, k => if p x then (k : Int) else findI p r (k + 1)
theorem findI_at {α : Type} {p : α → Bool} : ∀ {l : List α} {m k : Nat} {x : α}, (∀ j y, j < k → l[j]? = some y → (!p y) = true) → l[k]? = some x → p x = true → findI p l m = ((m + k : Nat) : Int)
 | [], _, _, _, _, h, _ => by simp at h
 | y :: l, m, 0, x, _, h, hp => by simp at h; subst h; simp [findI, hp]
 | y :: l, m, k + 1, x, hn, h, hp => by
  have h0 := hn 0 y (by omega) rfl
  have h0' : p y = false := by simpa using h0
  rw [findI, h0', if_neg (by simp), findI_at (k := k) (fun j z hj hz => hn (j + 1) z (by omega) (by simpa using hz)) (by simpa using h) hp]
  omega
theorem findI_none {α : Type} {p : α → Bool} : ∀ {l : List α} {m k : Nat}, (∀ j y, j < k → l[j]? = some y → (!p y) = true) → l.length ≤ k → findI p l m = -1
 | [], _, _, _, _ => rfl
 | y :: l, m, 0, _, h => by simp at h
 | y :: l, m, k + 1, hn, h => by
  have h0 := hn 0 y (by omega) rfl
  have h0' : p y = false := by simpa using h0
  rw [findI, h0', if_neg (by simp)]
  exact findI_none (k := k) (fun j z hj hz => hn (j + 1) z (by omega) (by simpa using hz)) (by simpa using h)
theorem getD_at {α : Type} {d : α} {l : List α} {k : Nat} (h : k < l.length) : l[k]? = some (l[k]?.getD d) := by rw [List.getElem?_eq_getElem h]; rfl
section
open Go.RowKit
variable {P : Program} {ops : Array Oper} {o : Oper} {σ : St} {q : Bool}
theorem R_lenm {α : Type} {f : α → List T} {l : List α} {x : Operand} {t : TypeId} {A0 : A} {k : Nat} (ho : o.op = .call { callee := .builtin .len, args := #[x], argTypes := #[t] }) (hg : Grd ops o σ q) (hd : o.dst.all (fun d => Nat.blt d σ.n) = true)
 (hx : Get σ q x A0) (hs : Sq σ A0 k (l.map f)) {e : TypeId} (hu : P.underlying t = some (.slice e)) : Op1 P ops o σ (σ.put o.dst (q, .a (.one (.t (.v (.int .i64 l.length)))))) := by
 have := R_len ho hg hd hx hs hu
 rwa [List.length_map] at this
end
end Go.Q
namespace Go.Proofs.YtbkhopfpejhnlaaGreat
open Go.RowKit Go.Q
theorem ty3 : tyB Tryz.prog 3 false 1 = true := by kernel_rfl
theorem in3 : (Tryz.prog.info? 3).map (fun i => (i.zero, i.size, i.bytes)) = some (some (.int .i64 0), 1, 8) := by kernel_rfl
theorem ty4 : tyB Tryz.prog 4 false 1 = true := by kernel_rfl
theorem in4 : (Tryz.prog.info? 4).map (fun i => (i.zero, i.size, i.bytes)) = some (some (.bool false), 1, 1) := by kernel_rfl
theorem in5 : (Tryz.prog.info? 5).map (fun i => (i.zero, i.size, i.bytes)) = some (some (.int .u8 0), 1, 1) := by kernel_rfl
theorem ty9 : tyB Tryz.prog 9 false 1 = true := by kernel_rfl
theorem in9 : (Tryz.prog.info? 9).map (fun i => (i.zero, i.size, i.bytes)) = some (some (.string .empty), 1, 16) := by kernel_rfl
theorem ty24 : tyB Tryz.prog 24 false 1 = true := by kernel_rfl
theorem ty25 : tyB Tryz.prog 25 false 1 = true := by kernel_rfl
theorem ty27 : tyB Tryz.prog 27 true 2 = true := by kernel_rfl
theorem in27 : (Tryz.prog.info? 27).map (fun i => (i.zero, i.size, i.bytes)) = some (some (.agg #[.slice none 0 0, .slice none 0 0]), 2, 48) := by kernel_rfl
theorem st27 : (match Tryz.prog.underlying 27 with | some (.struct fs) => fs.all (fun f => (Tryz.prog.info? f.type).isSome) | _ => false) = true := by kernel_rfl
theorem fl27_0 : fldB Tryz.prog 27 0 0 = true := by kernel_rfl
theorem fp27_0 : (match Tryz.prog.underlying 27 with | some (.struct fs) => (match fs[0]? with | some f => Nat.beq f.offset 0 && (match Tryz.prog.info? f.type with | some i => Nat.beq i.size 1 | none => false) | none => false) | _ => false) = true := by kernel_rfl
theorem fl27_1 : fldB Tryz.prog 27 1 1 = true := by kernel_rfl
theorem ty28 : tyB Tryz.prog 28 false 1 = true := by kernel_rfl
theorem ty30 : tyB Tryz.prog 30 true 1 = true := by kernel_rfl
theorem in30 : (Tryz.prog.info? 30).map (fun i => (i.zero, i.size, i.bytes)) = some (some (.agg #[.slice none 0 0]), 1, 24) := by kernel_rfl
theorem st30 : (match Tryz.prog.underlying 30 with | some (.struct fs) => fs.all (fun f => (Tryz.prog.info? f.type).isSome) | _ => false) = true := by kernel_rfl
theorem fl30_0 : fldB Tryz.prog 30 0 0 = true := by kernel_rfl
theorem fp30_0 : (match Tryz.prog.underlying 30 with | some (.struct fs) => (match fs[0]? with | some f => Nat.beq f.offset 0 && (match Tryz.prog.info? f.type with | some i => Nat.beq i.size 1 | none => false) | none => false) | _ => false) = true := by kernel_rfl
theorem ty39 : tyB Tryz.prog 39 true 4 = true := by kernel_rfl
theorem in39 : (Tryz.prog.info? 39).map (fun i => (i.zero, i.size, i.bytes)) = some (some (.agg #[.int .i64 0, .int .i64 0, .int .i64 0, .int .i64 0]), 4, 32) := by kernel_rfl
theorem st39 : (match Tryz.prog.underlying 39 with | some (.struct fs) => fs.all (fun f => (Tryz.prog.info? f.type).isSome) | _ => false) = true := by kernel_rfl
theorem neS39 (x0 : Int) (x1 : Int) (x2 : Int) (x3 : Int) (y0 : Int) (y1 : Int) (y2 : Int) (y3 : Int) (w : World) : (binOp .neq 39 (.agg (List.toArray [.int .i64 x0, .int .i64 x1, .int .i64 x2, .int .i64 x3])) (.agg (List.toArray [.int .i64 y0, .int .i64 y1, .int .i64 y2, .int .i64 y3]))).run Tryz.prog w = .ok (.bool (!(decide (x0 = y0) && decide (x1 = y1) && decide (x2 = y2) && decide (x3 = y3)))) w := by
 have hs : Tryz.prog.stoodInHeld 39 = false := by kernel_rfl
 simp [go_sem, hs, Tryz.underlying39]
 repeat' split
 all_goals simp [*]
theorem fl39_0 : fldB Tryz.prog 39 0 0 = true := by kernel_rfl
theorem fp39_0 : (match Tryz.prog.underlying 39 with | some (.struct fs) => (match fs[0]? with | some f => Nat.beq f.offset 0 && (match Tryz.prog.info? f.type with | some i => Nat.beq i.size 1 | none => false) | none => false) | _ => false) = true := by kernel_rfl
theorem fl39_1 : fldB Tryz.prog 39 1 1 = true := by kernel_rfl
theorem fp39_1 : (match Tryz.prog.underlying 39 with | some (.struct fs) => (match fs[1]? with | some f => Nat.beq f.offset 1 && (match Tryz.prog.info? f.type with | some i => Nat.beq i.size 1 | none => false) | none => false) | _ => false) = true := by kernel_rfl
theorem fl39_2 : fldB Tryz.prog 39 2 2 = true := by kernel_rfl
theorem fp39_2 : (match Tryz.prog.underlying 39 with | some (.struct fs) => (match fs[2]? with | some f => Nat.beq f.offset 2 && (match Tryz.prog.info? f.type with | some i => Nat.beq i.size 1 | none => false) | none => false) | _ => false) = true := by kernel_rfl
theorem fl39_3 : fldB Tryz.prog 39 3 3 = true := by kernel_rfl
theorem fp39_3 : (match Tryz.prog.underlying 39 with | some (.struct fs) => (match fs[3]? with | some f => Nat.beq f.offset 3 && (match Tryz.prog.info? f.type with | some i => Nat.beq i.size 1 | none => false) | none => false) | _ => false) = true := by kernel_rfl
theorem ty63 : tyB Tryz.prog 63 true 2 = true := by kernel_rfl
theorem in63 : (Tryz.prog.info? 63).map (fun i => (i.zero, i.size, i.bytes)) = some (some (.agg #[.int .i64 0, .int .i64 0]), 2, 16) := by kernel_rfl
theorem st63 : (match Tryz.prog.underlying 63 with | some (.struct fs) => fs.all (fun f => (Tryz.prog.info? f.type).isSome) | _ => false) = true := by kernel_rfl
theorem eqS63 (x0 : Int) (x1 : Int) (y0 : Int) (y1 : Int) (w : World) : (binOp .eql 63 (.agg (List.toArray [.int .i64 x0, .int .i64 x1])) (.agg (List.toArray [.int .i64 y0, .int .i64 y1]))).run Tryz.prog w = .ok (.bool ((decide (x0 = y0) && decide (x1 = y1)))) w := by
 have hs : Tryz.prog.stoodInHeld 63 = false := by kernel_rfl
 simp [go_sem, hs, Tryz.underlying63]
 repeat' split
 all_goals simp [*]
theorem neS63 (x0 : Int) (x1 : Int) (y0 : Int) (y1 : Int) (w : World) : (binOp .neq 63 (.agg (List.toArray [.int .i64 x0, .int .i64 x1])) (.agg (List.toArray [.int .i64 y0, .int .i64 y1]))).run Tryz.prog w = .ok (.bool (!(decide (x0 = y0) && decide (x1 = y1)))) w := by
 have hs : Tryz.prog.stoodInHeld 63 = false := by kernel_rfl
 simp [go_sem, hs, Tryz.underlying63]
 repeat' split
 all_goals simp [*]
theorem fl63_0 : fldB Tryz.prog 63 0 0 = true := by kernel_rfl
theorem fp63_0 : (match Tryz.prog.underlying 63 with | some (.struct fs) => (match fs[0]? with | some f => Nat.beq f.offset 0 && (match Tryz.prog.info? f.type with | some i => Nat.beq i.size 1 | none => false) | none => false) | _ => false) = true := by kernel_rfl
theorem fl63_1 : fldB Tryz.prog 63 1 1 = true := by kernel_rfl
theorem fp63_1 : (match Tryz.prog.underlying 63 with | some (.struct fs) => (match fs[1]? with | some f => Nat.beq f.offset 1 && (match Tryz.prog.info? f.type with | some i => Nat.beq i.size 1 | none => false) | none => false) | _ => false) = true := by kernel_rfl
theorem ty71 : tyB Tryz.prog 71 false 1 = true := by kernel_rfl
theorem in71 : (Tryz.prog.info? 71).map (fun i => (i.zero, i.size, i.bytes)) = some (some (.slice none 0 0), 1, 24) := by kernel_rfl
theorem ty91 : tyB Tryz.prog 91 false 1 = true := by kernel_rfl
theorem ty100 : tyB Tryz.prog 100 true 4 = true := by kernel_rfl
theorem in100 : (Tryz.prog.info? 100).map (fun i => (i.zero, i.size, i.bytes)) = some (some (.agg #[.int .i64 0, .int .i64 0, .int .i64 0, .int .i64 0]), 4, 32) := by kernel_rfl
theorem st100 : (match Tryz.prog.underlying 100 with | some (.struct fs) => fs.all (fun f => (Tryz.prog.info? f.type).isSome) | _ => false) = true := by kernel_rfl
theorem eqS100 (x0 : Int) (x1 : Int) (x2 : Int) (x3 : Int) (y0 : Int) (y1 : Int) (y2 : Int) (y3 : Int) (w : World) : (binOp .eql 100 (.agg (List.toArray [.int .i64 x0, .int .i64 x1, .int .i64 x2, .int .i64 x3])) (.agg (List.toArray [.int .i64 y0, .int .i64 y1, .int .i64 y2, .int .i64 y3]))).run Tryz.prog w = .ok (.bool ((decide (x0 = y0) && decide (x1 = y1) && decide (x2 = y2) && decide (x3 = y3)))) w := by
 have hs : Tryz.prog.stoodInHeld 100 = false := by kernel_rfl
 simp [go_sem, hs, Tryz.underlying100]
 repeat' split
 all_goals simp [*]
theorem fl100_0 : fldB Tryz.prog 100 0 0 = true := by kernel_rfl
theorem fp100_0 : (match Tryz.prog.underlying 100 with | some (.struct fs) => (match fs[0]? with | some f => Nat.beq f.offset 0 && (match Tryz.prog.info? f.type with | some i => Nat.beq i.size 1 | none => false) | none => false) | _ => false) = true := by kernel_rfl
theorem fl100_1 : fldB Tryz.prog 100 1 1 = true := by kernel_rfl
theorem fp100_1 : (match Tryz.prog.underlying 100 with | some (.struct fs) => (match fs[1]? with | some f => Nat.beq f.offset 1 && (match Tryz.prog.info? f.type with | some i => Nat.beq i.size 1 | none => false) | none => false) | _ => false) = true := by kernel_rfl
theorem fl100_2 : fldB Tryz.prog 100 2 2 = true := by kernel_rfl
theorem fp100_2 : (match Tryz.prog.underlying 100 with | some (.struct fs) => (match fs[2]? with | some f => Nat.beq f.offset 2 && (match Tryz.prog.info? f.type with | some i => Nat.beq i.size 1 | none => false) | none => false) | _ => false) = true := by kernel_rfl
theorem fl100_3 : fldB Tryz.prog 100 3 3 = true := by kernel_rfl
theorem fp100_3 : (match Tryz.prog.underlying 100 with | some (.struct fs) => (match fs[3]? with | some f => Nat.beq f.offset 3 && (match Tryz.prog.info? f.type with | some i => Nat.beq i.size 1 | none => false) | none => false) | _ => false) = true := by kernel_rfl
theorem ty109 : tyB Tryz.prog 109 false 1 = true := by kernel_rfl
theorem in109 : (Tryz.prog.info? 109).map (fun i => (i.zero, i.size, i.bytes)) = some (some (.slice none 0 0), 1, 24) := by kernel_rfl
theorem ty123 : tyB Tryz.prog 123 false 1 = true := by kernel_rfl
theorem fl127_0 : fldB Tryz.prog 127 0 0 = true := by kernel_rfl
theorem fl127_1 : fldB Tryz.prog 127 1 4 = true := by kernel_rfl
theorem ty145 : tyB Tryz.prog 145 false 1 = true := by kernel_rfl
theorem in145 : (Tryz.prog.info? 145).map (fun i => (i.zero, i.size, i.bytes)) = some (some (.slice none 0 0), 1, 24) := by kernel_rfl
theorem in147 : (Tryz.prog.info? 147).map (fun i => (i.zero, i.size, i.bytes)) = some (some (.agg #[.int .i64 0, .bool false]), 2, 16) := by kernel_rfl
theorem st147 : (match Tryz.prog.underlying 147 with | some (.struct fs) => fs.all (fun f => (Tryz.prog.info? f.type).isSome) | _ => false) = true := by kernel_rfl
theorem fp147_0 : (match Tryz.prog.underlying 147 with | some (.struct fs) => (match fs[0]? with | some f => Nat.beq f.offset 0 && (match Tryz.prog.info? f.type with | some i => Nat.beq i.size 1 | none => false) | none => false) | _ => false) = true := by kernel_rfl
theorem fp147_1 : (match Tryz.prog.underlying 147 with | some (.struct fs) => (match fs[1]? with | some f => Nat.beq f.offset 1 && (match Tryz.prog.info? f.type with | some i => Nat.beq i.size 1 | none => false) | none => false) | _ => false) = true := by kernel_rfl
theorem ty149 : tyB Tryz.prog 149 true 4 = true := by kernel_rfl
theorem in149 : (Tryz.prog.info? 149).map (fun i => (i.zero, i.size, i.bytes)) = some (some (.agg #[.int .i64 0, .bool false, .int .i64 0, .int .i64 0]), 4, 32) := by kernel_rfl
theorem st149 : (match Tryz.prog.underlying 149 with | some (.struct fs) => fs.all (fun f => (Tryz.prog.info? f.type).isSome) | _ => false) = true := by kernel_rfl
theorem fp149_0 : (match Tryz.prog.underlying 149 with | some (.struct fs) => (match fs[0]? with | some f => Nat.beq f.offset 0 && (match Tryz.prog.info? f.type with | some i => Nat.beq i.size 2 | none => false) | none => false) | _ => false) = true := by kernel_rfl
theorem fl149_1 : fldB Tryz.prog 149 1 2 = true := by kernel_rfl
theorem fp149_1 : (match Tryz.prog.underlying 149 with | some (.struct fs) => (match fs[1]? with | some f => Nat.beq f.offset 2 && (match Tryz.prog.info? f.type with | some i => Nat.beq i.size 1 | none => false) | none => false) | _ => false) = true := by kernel_rfl
theorem fl149_2 : fldB Tryz.prog 149 2 3 = true := by kernel_rfl
theorem fp149_2 : (match Tryz.prog.underlying 149 with | some (.struct fs) => (match fs[2]? with | some f => Nat.beq f.offset 3 && (match Tryz.prog.info? f.type with | some i => Nat.beq i.size 1 | none => false) | none => false) | _ => false) = true := by kernel_rfl
end Go.Proofs.YtbkhopfpejhnlaaGreat
namespace Go.D
open Go.Q
end Go.D
namespace Go.Proofs.YtbkhopfpejhnlaaGreat
open Go.RowKit Go.Q Go.D
end Go.Proofs.YtbkhopfpejhnlaaGreat
namespace Go.Q
open Go.RowKit Go.ChangeShapes Go.WideShapes Go.Deep Go.D
def OpensT {α : Type} (c : α → List T) (P : Program) (t : TypeId) : Prop :=
 ∀ {H : Type} {enc : TypeId × Value → H} {w : World} {base : Nat} {spare : Nat → Bool} {held : Bool} {fuel : Nat} {cs : List Value} {x : DataW H × List MemPlace},
  DataW.trod enc P w base spare held fuel t cs = some x → ∃ (a : α) (F : List Nat), Cs false w (c a) cs F
theorem Cs_one {o : Bool} {w : World} {t : T} {v : Value} {F : List Nat} (h : C o w t v F) : Cs o w [t] [v] F := by
 unfold Cs
 exact ⟨v, [], F, [], rfl, h, by unfold Cs; exact ⟨rfl, rfl⟩, by simp⟩
theorem Cs_one_inv {o : Bool} {w : World} {t : T} {v : Value} {F : List Nat} (h : Cs o w [t] [v] F) : C o w t v F := by
 simp only [Cs] at h
 obtain ⟨c, cr, G1, G2, h1, h2, ⟨rfl, rfl⟩, rfl⟩ := h
 cases h1
 simpa using h2
theorem rws_build {α : Type} {c : α → List T} {w : World} {b k : Nat} (hc : ∀ a, (c a).length = k) : ∀ (l : List α) (css : List (List Value)) (Fs : List (List Nat)) (off : Nat), css.length = l.length → Fs.length = l.length →
 (∀ (i : Nat) (x : α) (cs : List Value) (f : List Nat), l[i]? = some x → css[i]? = some cs → Fs[i]? = some f → Cs false w (c x) cs f) →
 (∀ (i : Nat) (cs : List Value) (j : Nat) (u : Value), css[i]? = some cs → cs[j]? = some u → w.cell? ⟨b, off + i * k + j, none⟩ = some u) → Rws false w b k off (l.map c) Fs.flatten
 | [], css, Fs, off, h1, h2, h3, h4 => by
  have : Fs = [] := List.eq_nil_of_length_eq_zero (by simpa using h2)
  subst this
  simp only [List.map_nil, List.flatten_nil]
  unfold Rws
  rfl
 | a :: l, css, Fs, off, h1, h2, h3, h4 => by
  match css, Fs, h1, h2 with
  | cs :: css, f :: Fs, h1, h2 =>
   have ih := rws_build hc l css Fs (off + k) (by simpa using h1) (by simpa using h2) (fun i x cs' f' hx hcs hf => h3 (i + 1) x cs' f' (by simpa using hx) (by simpa using hcs) (by simpa using hf)) (fun i cs' j u hcs hu => by
    have := h4 (i + 1) cs' j u (by simpa using hcs) hu
    rwa [show off + (i + 1) * k + j = off + k + i * k + j by rw [Nat.succ_mul]; omega] at this)
   rw [List.map_cons, List.flatten_cons]
   unfold Rws
   refine ⟨f, Fs.flatten, hc a, Ms.of (h3 0 a cs f rfl rfl rfl) fun j u hj => ?_, ih, rfl⟩
   have := h4 0 cs j u rfl hj
   simpa using this
theorem opensTSlice {α : Type} {c : α → List T} {k : Nat} {P : Program} {t e : TypeId} (ht : P.underlying t = some (.slice e)) (hk : P.cellsOf e = k) (hpos : 0 < k) (hc : ∀ a, (c a).length = k) (he : OpensT c P e) : OpensT (fun (l : List α) => [T.sl k (l.map c)]) P t := by
 intro H enc w base spare held fuel cs x h
 rcases open_slice ht h with ⟨rfl, _⟩ | ⟨a, len, cap, m, n, D, Pl, rfl, hb, hl, hm, hmm, _, hi⟩
 · refine ⟨[], [], Cs_one ?_⟩
   unfold C
   exact ⟨none, 0, 0, rfl, rfl, Nat.le_refl _, Nat.zero_le _, .inl ⟨rfl, rfl, fun h => by cases h⟩⟩
 · have hlm : len ≤ m := by rw [hmm]; split <;> omega
   have key : ∀ q, q ≤ len → ∃ (css : List (List Value)) (l : List α) (Fs : List (List Nat)), css.length = q ∧ l.length = q ∧ Fs.length = q ∧
    (∀ (i : Nat) (x : α) (cs : List Value) (f : List Nat), l[i]? = some x → css[i]? = some cs → Fs[i]? = some f → Cs false w (c x) cs f) ∧
    (∀ (i : Nat) (cs : List Value), css[i]? = some cs → w.cells? base (a.add (i * P.cellsOf e)) (P.cellsOf e) = some cs) := by
    intro q
    induction q with
    | zero => intro _; exact ⟨[], [], [], rfl, rfl, rfl, by simp, by simp⟩
    | succ q ih =>
     intro hq
     obtain ⟨css, l, Fs, h1, h2, h3, h4, h5⟩ := ih (by omega)
     obtain ⟨cs', hc, htr⟩ := hi q (by omega)
     obtain ⟨y, f, hr⟩ := he htr
     refine ⟨css ++ [cs'], l ++ [y], Fs ++ [f], by simp [h1], by simp [h2], by simp [h3], fun i x cs f' hx hcs hf => ?_, fun i cs hcs => ?_⟩
     · rcases Nat.lt_trichotomy i q with hlt | rfl | hgt
       · rw [List.getElem?_append_left (by omega)] at hx hcs hf
         exact h4 i x cs f' hx hcs hf
       · rw [List.getElem?_append_right (by omega), h2] at hx
         rw [List.getElem?_append_right (by omega), h1] at hcs
         rw [List.getElem?_append_right (by omega), h3] at hf
         simp at hx hcs hf
         subst hx; subst hcs; subst hf
         exact hr
       · rw [List.getElem?_eq_none (by simp; omega)] at hx
         cases hx
     · rcases Nat.lt_trichotomy i q with hlt | rfl | hgt
       · rw [List.getElem?_append_left (by omega)] at hcs
         exact h5 i cs hcs
       · rw [List.getElem?_append_right (by omega), h1] at hcs
         simp at hcs
         subst hcs
         exact hc
       · rw [List.getElem?_eq_none (by simp; omega)] at hcs
         cases hcs
   obtain ⟨css, l, Fs, h1, h2, h3, h4, h5⟩ := key len (Nat.le_refl _)
   by_cases h0 : len = 0
   · refine ⟨l, [], Cs_one ?_⟩
     unfold C
     exact ⟨some a, len, cap, rfl, by simpa using h2, hl, hm, .inl ⟨h0, rfl, fun h => by cases h⟩⟩
   · obtain ⟨b, off, spot⟩ := a
     obtain ⟨_, hlen0, hat0⟩ := World.cells?_some (h5 0 _ (List.getElem?_eq_getElem (by omega)))
     have c0 := hat0 0 (by omega)
     rw [List.getElem?_eq_getElem (by omega)] at c0
     have hlt : b < w.heap.size := by
      have := World.block_lt_of_cell? w _ c0
      simpa [Addr.add] using this
     have hspot : spot = none := by
      have := World.cell?_spot c0
      simpa [Addr.add] using this
     subst hspot
     refine ⟨l, b :: Fs.flatten, Cs_one ?_⟩
     unfold C
     refine ⟨some ⟨b, off, none⟩, len, cap, rfl, by simpa using h2, hl, hm, .inr ⟨b, off, Fs.flatten, rfl, rfl, hlt, (by simp), rws_build hc l css Fs off (by omega) (by omega) h4 fun i cs j u hcs hu => ?_⟩⟩
     obtain ⟨_, hlen', hat⟩ := World.cells?_some (h5 i cs hcs)
     have hj : j < cs.length := (List.getElem?_eq_some_iff.1 hu).1
     have := hat j (by omega)
     rw [hu] at this
     rw [← this, ← hk]
     congr 1
     unfold Addr.add
     split <;> split <;> simp_all <;> omega
theorem OpensT.vl {α : Type} {c : α → List T} {P : Program} {t : TypeId} {v : Value} {H : Type} {enc : TypeId × Value → H} {w : World} {base : Nat} {spare : Nat → Bool} {held : Bool} {d : DataW H} {p : List MemPlace} (h : OpensT c P t)
 (hv : DataW.Trod enc P w base spare held t v d p) : ∃ (a : α) (F : List Nat), Cs false w (c a) v.cells.toList F := by
 obtain ⟨fuel, hf⟩ := hv
 exact h hf
end Go.Q
namespace Go.Q
open Go.RowKit Go.ChangeShapes Go.WideShapes Go.Deep Go.D
def cByte (n : Fin 256) : List T := [.v (.int .u8 (n.val : Int))]
theorem opensTByte {P : Program} {t : TypeId} (ht : P.underlying t = some (.int .u8)) : OpensT cByte P t := by
 intro H enc w base spare held fuel cs x h
 obtain ⟨n, rfl, _, hw⟩ := DataW.trod_int ht h
 have hr : 0 ≤ n ∧ n < 256 := by
  simp [Lit.wf, IntKind.min, IntKind.max] at hw
  have h1 : IntKind.u8.bits = 8 := rfl
  simp [IntKind.signed, h1] at hw
  omega
 obtain ⟨k, rfl⟩ : ∃ k : Nat, n = (k : Int) := ⟨n.toNat, by omega⟩
 exact ⟨⟨k, by omega⟩, [], Cs_one (by unfold C; exact ⟨rfl, rfl, rfl⟩)⟩
theorem byR_fin (l : List (Fin 256)) : byR (l.map fun n => (n.val : Int)) = l.map cByte := by
 unfold byR; rw [List.map_map]; rfl
theorem C_fin {w : World} {l : List (Fin 256)} {v : Value} {F : List Nat} (h : C false w (.sl 1 (l.map cByte)) v F) : C false w (.sl 1 (byR (l.map fun n => (n.val : Int)))) v F := by rw [byR_fin]; exact h
theorem fin_range (l : List (Fin 256)) : ∀ n ∈ l.map (fun n => (n.val : Int)), 0 ≤ n ∧ n < 256 := fun n hn => by
 obtain ⟨k, _, rfl⟩ := List.mem_map.1 hn
 have := k.isLt
 omega
end Go.Q
namespace Go.Proofs.YtbkhopfpejhnlaaGreat
open Go.RowKit Go.Q Go.D
theorem lawsbig (bs : List Int) : FnT Tryz.prog 6 [.one (.sl 1 (byR bs))] (.a (.one (.v (.bool (decide (1048576 < bs.length)))))) := by
 refine FnT.walk Tryz.func6 U (by kernel_rfl) Tryz.ntmps6 U fun hlen w0 => ?_
 try simp [cPair, cToken, cExpr, cEdge, cGraph, cStep, cWalk, cChange, cBatch, cHistory, cPositions, cAutomaton, cProductStep, cPathAtom, cConjunction, cView, cDelta, cRegistered, cRegistry] at hlen
 refine AW.sr ?_
 refine AWl.ac U U U U U ?_
 refine AWl.nil (AW.sr ?_)
 refine AWl.mv U U U U U ?_
 refine AWl.put (by exact R_lenm U (.no U) U (.tm U) (by exact .t) Tryz.underlying22) U ?_
 refine AWl.put (R_gt U (.no U) U (.tm U) (.const U)) U ?_
 refine AWl.av U U U U U ?_
 refine AWl.nil (AW.ret ?_)
 refine Res.v U U ?_
 simp [byR]; omega
end Go.Proofs.YtbkhopfpejhnlaaGreat
