import Derived.Test.YtamnfkfjfelbbaaAbs15xw
import Derived.Deep.Slices
set_option linter.unusedVariables false
set_option linter.unusedSimpArgs false
namespace Go.D
open Go.Q
def szL (n : Nat) (a : Int) : Int := if a - n < 0 then -1 else a - n
def szFold {α : Type} (f : α → Int → Int) : List α → Int → Int
 | [], a => a
 | x :: r, a => if f x a < 0 then -1 else szFold f r (f x a)
def szSeq : List (Int → Int) → Int → Int
 | [], a => a
 | f :: r, a => if f a < 0 then -1 else szSeq r (f a)
def SzOk {α : Type} (f : α → Int → Int) (ok : α → Prop) : Prop := ∀ x a, 0 ≤ a → a ≤ 1048576 → (-1 ≤ f x a ∧ f x a ≤ a) ∧ (0 ≤ f x a → ok x)
theorem szL_ok {α : Type} : SzOk (fun (l : List α) a => szL l.length a) (fun l => l.length ≤ 1048576) := fun l a h0 h1 => by
 dsimp only
 unfold szL
 split <;> refine ⟨⟨?_, ?_⟩, fun h => ?_⟩ <;> omega
theorem szFold_ok {α : Type} {f : α → Int → Int} {ok : α → Prop} (h : SzOk f ok) : SzOk (szFold f) (fun l => ∀ x ∈ l, ok x) := fun l => by
 induction l with
 | nil => intro a h0 h1; exact ⟨⟨by simp only [szFold]; omega, by simp only [szFold]; omega⟩, fun _ x hx => by cases hx⟩
 | cons x l ih =>
  intro a h0 h1
  obtain ⟨⟨g0, g1⟩, g2⟩ := h x a h0 h1
  rw [szFold]
  split
  · exact ⟨⟨by omega, by omega⟩, fun h => by omega⟩
  · obtain ⟨⟨k0, k1⟩, k2⟩ := ih (f x a) (by omega) (by omega)
    refine ⟨⟨by omega, by omega⟩, fun h y hy => ?_⟩
    rcases List.mem_cons.1 hy with rfl | hy
    · exact g2 (by omega)
    · exact k2 h y hy
theorem szNest_ok {α : Type} {f : α → Int → Int} {ok : α → Prop} (h : SzOk f ok) : SzOk (fun (l : List α) a => if a - l.length < 0 then -1 else szFold f l (a - l.length)) (fun l => l.length ≤ 1048576 ∧ ∀ x ∈ l, ok x) := fun l a h0 h1 => by
 dsimp only
 split
 · exact ⟨⟨by omega, by omega⟩, fun h => by omega⟩
 · obtain ⟨⟨k0, k1⟩, k2⟩ := szFold_ok h l (a - l.length) (by omega) (by omega)
   exact ⟨⟨by omega, by omega⟩, fun h => ⟨by omega, k2 h⟩⟩
theorem szFold_drop {α : Type} {f : α → Int → Int} {l : List α} {k : Nat} {x : α} {a : Int} (h : l[k]? = some x) : szFold f (l.drop k) a = if f x a < 0 then -1 else szFold f (l.drop (k + 1)) (f x a) := by
 obtain ⟨hk, rfl⟩ := List.getElem?_eq_some_iff.1 h
 rw [List.drop_eq_getElem_cons hk, szFold]
def SqOk (fs : List (Int → Int)) (p : Prop) : Prop := ∀ a, 0 ≤ a → a ≤ 1048576 → (-1 ≤ szSeq fs a ∧ szSeq fs a ≤ a) ∧ (0 ≤ szSeq fs a → p)
theorem szSeq_nil : SqOk [] True := fun a h0 _ => ⟨⟨by simp only [szSeq]; omega, by simp only [szSeq]; omega⟩, fun _ => trivial⟩
theorem szSeq_cons {α : Type} {f : α → Int → Int} {ok : α → Prop} {x : α} {fs : List (Int → Int)} {p : Prop} (h : SzOk f ok) (hr : SqOk fs p) : SqOk (f x :: fs) (ok x ∧ p) := fun a h0 h1 => by
 obtain ⟨⟨g0, g1⟩, g2⟩ := h x a h0 h1
 rw [szSeq]
 split
 · exact ⟨⟨by omega, by omega⟩, fun h => by omega⟩
 · obtain ⟨⟨k0, k1⟩, k2⟩ := hr (f x a) (by omega) (by omega)
   exact ⟨⟨by omega, by omega⟩, fun h => ⟨g2 (by omega), k2 h⟩⟩
theorem made_at {α β : Type} {l : List α} {c : α → β} {z : β} {k : Nat} (h : k < l.length) : ((l.take k).map c ++ List.replicate (l.length - k) z)[k]? = some z := by
 have e : ((l.take k).map c).length = k := by simp; omega
 rw [List.getElem?_append_right (by omega), e, Nat.sub_self, List.getElem?_replicate, if_pos (by omega)]
theorem set_made {α β : Type} {l : List α} {c : α → β} {z : β} {k : Nat} {x : α} (h : l[k]? = some x) : ((l.take k).map c ++ List.replicate (l.length - k) z).set k (c x) = (l.take (k + 1)).map c ++ List.replicate (l.length - (k + 1)) z := by
 obtain ⟨hk, rfl⟩ := List.getElem?_eq_some_iff.1 h
 rw [List.set_append_right _ _ (by simp; omega)]
 have e : k - ((l.take k).map c).length = 0 := by simp; omega
 rw [e, show l.length - k = (l.length - (k + 1)) + 1 by omega, List.replicate_succ, List.set_cons_zero, List.take_succ_eq_append_getElem hk, List.map_append, List.append_assoc]
 rfl
theorem made_end {α β : Type} {l : List α} {c : α → β} {z : β} {k : Nat} (h : l.length ≤ k) : (l.take k).map c ++ List.replicate (l.length - k) z = l.map c := by
 rw [List.take_of_length_le h, show l.length - k = 0 by omega]
 simp

def cInt (x : Int) : List T := [.v (.int .i64 x)]
def cBool (x : Bool) : List T := [.v (.bool x)]
def cIntS (x : List Int) : List T := [.sl 1 (x.map cInt)]
def cBoolS (x : List Bool) : List T := [.sl 1 (x.map cBool)]
def cIntSS (x : List (List Int)) : List T := [.sl 1 (x.map cIntS)]
def okIntS (x : (List Int)) : Prop := x.length ≤ 1048576
def szIntS (x : (List Int)) (a : Int) : Int := szL x.length a
theorem szIntS_ok : SzOk szIntS okIntS := szL_ok
def okBoolS (x : (List Bool)) : Prop := x.length ≤ 1048576
def szBoolS (x : (List Bool)) (a : Int) : Int := szL x.length a
theorem szBoolS_ok : SzOk szBoolS okBoolS := szL_ok
def okIntSS (x : (List (List Int))) : Prop := x.length ≤ 1048576 ∧ ∀ y ∈ x, okIntS y
def szIntSS (x : (List (List Int))) (a : Int) : Int := if a - x.length < 0 then -1 else szFold szIntS x (a - x.length)
theorem szIntSS_ok : SzOk szIntSS okIntSS := szNest_ok szIntS_ok
structure TPair where
 From : Int
 To : Int
 deriving DecidableEq
def cPair (x : TPair) : List T := [.v (.int .i64 x.From), .v (.int .i64 x.To)]
structure TToken where
 Kind : Int
 Letter : Int
 Low : Int
 High : Int
 deriving DecidableEq
def cToken (x : TToken) : List T := [.v (.int .i64 x.Kind), .v (.int .i64 x.Letter), .v (.int .i64 x.Low), .v (.int .i64 x.High)]
structure TExpr where
 Tokens : (List TToken)
 deriving DecidableEq
def cExpr (x : TExpr) : List T := [.sl 4 (x.Tokens.map cToken)]
structure TEdge where
 ID : Int
 From : Int
 To : Int
 Label : Int
 deriving DecidableEq
def cEdge (x : TEdge) : List T := [.v (.int .i64 x.ID), .v (.int .i64 x.From), .v (.int .i64 x.To), .v (.int .i64 x.Label)]
def cEdgeS (x : List TEdge) : List T := [.sl 4 (x.map cEdge)]
structure TGraph where
 Values : (List Int)
 Edges : (List TEdge)
 deriving DecidableEq
def cGraph (x : TGraph) : List T := [.sl 1 (x.Values.map cInt), .sl 4 (x.Edges.map cEdge)]
structure TStep where
 Edge : Int
 Inverse : Bool
 deriving DecidableEq
def cStep (x : TStep) : List T := [.v (.int .i64 x.Edge), .v (.bool x.Inverse)]
structure TWalk where
 Start : Int
 Steps : (List TStep)
 deriving DecidableEq
def cWalk (x : TWalk) : List T := [.v (.int .i64 x.Start), .sl 2 (x.Steps.map cStep)]
structure TChange where
 Insert : Bool
 Edge : TEdge
 deriving DecidableEq
def cChange (x : TChange) : List T := [.v (.bool x.Insert), .v (.int .i64 x.Edge.ID), .v (.int .i64 x.Edge.From), .v (.int .i64 x.Edge.To), .v (.int .i64 x.Edge.Label)]
structure TBatch where
 Changes : (List TChange)
 deriving DecidableEq
def cBatch (x : TBatch) : List T := [.sl 5 (x.Changes.map cChange)]
structure THistory where
 First : Int
 Graphs : (List TGraph)
 deriving DecidableEq
def cHistory (x : THistory) : List T := [.v (.int .i64 x.First), .sl 2 (x.Graphs.map cGraph)]
structure TPositions where
 Letters : (List Int)
 First : Int
 Last : Int
 Follow : (List Int)
 Nullable : Bool
 deriving DecidableEq
def cPositions (x : TPositions) : List T := [.sl 1 (x.Letters.map cInt), .v (.int .i64 x.First), .v (.int .i64 x.Last), .sl 1 (x.Follow.map cInt), .v (.bool x.Nullable)]
structure TAutomaton where
 Start : Int
 Accept : (List Bool)
 Next : (List (List Int))
 deriving DecidableEq
def cAutomaton (x : TAutomaton) : List T := [.v (.int .i64 x.Start), .sl 1 (x.Accept.map cBool), .sl 1 (x.Next.map cIntS)]
structure TProductStep where
 Step : TStep
 Node : Int
 State : Int
 deriving DecidableEq
def cProductStep (x : TProductStep) : List T := [.v (.int .i64 x.Step.Edge), .v (.bool x.Step.Inverse), .v (.int .i64 x.Node), .v (.int .i64 x.State)]
structure TPathAtom where
 From : Int
 To : Int
 Expr : TExpr
 deriving DecidableEq
def cPathAtom (x : TPathAtom) : List T := [.v (.int .i64 x.From), .v (.int .i64 x.To), .sl 4 (x.Expr.Tokens.map cToken)]
structure TConjunction where
 VariableCount : Int
 Atoms : (List TPathAtom)
 deriving DecidableEq
def cConjunction (x : TConjunction) : List T := [.v (.int .i64 x.VariableCount), .sl 3 (x.Atoms.map cPathAtom)]
structure TView where
 Automaton : TAutomaton
 Source : Int
 Ranks : (List Int)
 Supports : (List Int)
 deriving DecidableEq
def cView (x : TView) : List T := [.v (.int .i64 x.Automaton.Start), .sl 1 (x.Automaton.Accept.map cBool), .sl 1 (x.Automaton.Next.map cIntS), .v (.int .i64 x.Source), .sl 1 (x.Ranks.map cInt), .sl 1 (x.Supports.map cInt)]
structure TDelta where
 Added : (List TPair)
 Removed : (List TPair)
 deriving DecidableEq
def cDelta (x : TDelta) : List T := [.sl 2 (x.Added.map cPair), .sl 2 (x.Removed.map cPair)]
structure TRegistered where
 ID : Int
 Expr : TExpr
 Shared : Int
 deriving DecidableEq
def cRegistered (x : TRegistered) : List T := [.v (.int .i64 x.ID), .sl 4 (x.Expr.Tokens.map cToken), .v (.int .i64 x.Shared)]
structure TRegistry where
 Automata : (List TAutomaton)
 Queries : (List TRegistered)
 deriving DecidableEq
def cRegistry (x : TRegistry) : List T := [.sl 3 (x.Automata.map cAutomaton), .sl 3 (x.Queries.map cRegistered)]
def okEdgeS (x : (List TEdge)) : Prop := x.length ≤ 1048576
def szEdgeS (x : (List TEdge)) (a : Int) : Int := szL x.length a
theorem szEdgeS_ok : SzOk szEdgeS okEdgeS := szL_ok
def okGraph (x : TGraph) : Prop := okIntS x.Values ∧ okEdgeS x.Edges ∧ True
def szGraph (x : TGraph) (a : Int) : Int := szSeq [szIntS x.Values, szEdgeS x.Edges] a
theorem szGraph_ok : SzOk szGraph okGraph := fun _ a => (szSeq_cons szIntS_ok (szSeq_cons szEdgeS_ok szSeq_nil)) a
def okStepS (x : (List TStep)) : Prop := x.length ≤ 1048576
def okWalk (x : TWalk) : Prop := okStepS x.Steps ∧ True
def okAutomaton (x : TAutomaton) : Prop := okBoolS x.Accept ∧ okIntSS x.Next ∧ True
def szAutomaton (x : TAutomaton) (a : Int) : Int := szSeq [szBoolS x.Accept, szIntSS x.Next] a
theorem szAutomaton_ok : SzOk szAutomaton okAutomaton := fun _ a => (szSeq_cons szBoolS_ok (szSeq_cons szIntSS_ok szSeq_nil)) a
end Go.D
namespace Go.Q
def inB (x a b : Int) : Bool := decide (a ≤ x) && decide (x ≤ b)
theorem each_succ {α : Type} {p : α → Bool} {l : List α} {k : Nat} {x : α} (h : ∀ j y, j < k → l[j]? = some y → p y = true) (hx : l[k]? = some x) (hp : p x = true) : ∀ j y, j < k + 1 → l[j]? = some y → p y = true := fun j y hj hy => by
 rcases Nat.lt_or_eq_of_le (Nat.le_of_lt_succ hj) with h1 | rfl
 · exact h j y h1 hy
 · rw [hx] at hy; cases hy; exact hp
theorem each_all {α : Type} {p : α → Bool} {l : List α} {k : Nat} (h : ∀ j y, j < k → l[j]? = some y → p y = true) (hk : l.length ≤ k) : l.all p = true := by
 rw [List.all_eq_true]
 intro x hx
 obtain ⟨j, hj, rfl⟩ := List.getElem_of_mem hx
 exact h j _ (by omega) (List.getElem?_eq_getElem hj)
theorem not_all {α : Type} {p : α → Bool} {l : List α} {k : Nat} {x : α} (hx : l[k]? = some x) (hp : p x = false) : l.all p = false := by
 rw [List.all_eq_false]
 exact ⟨x, List.mem_of_getElem? hx, by rw [hp]; simp⟩
def findI {α : Type} (p : α → Bool) : List α → Nat → Int
 | [], _ => -1
 | x :: r, k => if p x then (k : Int) else findI p r (k + 1)
theorem findI_at {α : Type} {p : α → Bool} : ∀ {l : List α} {m k : Nat} {x : α}, (∀ j y, j < k → l[j]? = some y → (!p y) = true) → l[k]? = some x → p x = true → findI p l m = ((m + k : Nat) : Int)
 | [], _, _, _, _, h, _ => by simp at h
 | y :: l, m, 0, x, _, h, hp => by simp at h; subst h; simp [findI, hp]
 | y :: l, m, k + 1, x, hn, h, hp => by
  have h0 := hn 0 y (by omega) rfl
  have h0' : p y = false := by simpa using h0
  rw [findI, h0', if_neg (by simp), findI_at (k := k) (fun j z hj hz => hn (j + 1) z (by omega) (by simpa using hz)) (by simpa using h) hp]
  omega
theorem findI_none {α : Type} {p : α → Bool} : ∀ {l : List α} {m k : Nat}, (∀ j y, j < k → l[j]? = some y → (!p y) = true) → l.length ≤ k → findI p l m = -1
 | [], _, _, _, _ => rfl
 | y :: l, m, 0, _, h => by simp at h
 | y :: l, m, k + 1, hn, h => by
  have h0 := hn 0 y (by omega) rfl
  have h0' : p y = false := by simpa using h0
  rw [findI, h0', if_neg (by simp)]
  exact findI_none (k := k) (fun j z hj hz => hn (j + 1) z (by omega) (by simpa using hz)) (by simpa using h)
theorem findI_lt {α : Type} {p : α → Bool} : ∀ {l : List α} {m : Nat}, findI p l m = -1 ∨ ∃ k x, l[k]? = some x ∧ p x = true ∧ findI p l m = ((m + k : Nat) : Int)
 | [], _ => .inl rfl
 | y :: l, m => by
  rw [findI]
  split
  · exact .inr ⟨0, y, rfl, by assumption, rfl⟩
  · rcases findI_lt (p := p) (l := l) (m := m + 1) with h | ⟨k, x, h1, h2, h3⟩
    · exact .inl h
    · exact .inr ⟨k + 1, x, by simpa using h1, h2, by rw [h3]; omega⟩
theorem getD_at {α : Type} {d : α} {l : List α} {k : Nat} (h : k < l.length) : l[k]? = some (l[k]?.getD d) := by rw [List.getElem?_eq_getElem h]; rfl
section
open Go.RowKit
variable {P : Program} {ops : Array Oper} {o : Oper} {σ : St} {q : Bool}
theorem R_lenm {α : Type} {f : α → List T} {l : List α} {x : Operand} {t : TypeId} {A0 : A} {k : Nat} (ho : o.op = .call { callee := .builtin .len, args := #[x], argTypes := #[t] }) (hg : Grd ops o σ q) (hd : o.dst.all (fun d => Nat.blt d σ.n) = true)
 (hx : Get σ q x A0) (hs : Sq σ A0 k (l.map f)) {e : TypeId} (hu : P.underlying t = some (.slice e)) : Op1 P ops o σ (σ.put o.dst (q, .a (.one (.t (.v (.int .i64 l.length)))))) := by
 have := R_len ho hg hd hx hs hu
 rwa [List.length_map] at this
end
end Go.Q
namespace Go.Q
open Go.RowKit Go.ChangeShapes Go.WideShapes Go.Deep Go.D
def OpensT {α : Type} (c : α → List T) (P : Program) (t : TypeId) : Prop :=
 ∀ {H : Type} {enc : TypeId × Value → H} {w : World} {base : Nat} {spare : Nat → Bool} {held : Bool} {fuel : Nat} {cs : List Value} {x : DataW H × List MemPlace},
  DataW.trod enc P w base spare held fuel t cs = some x → ∃ (a : α) (F : List Nat), Cs false w (c a) cs F
theorem Cs_one {o : Bool} {w : World} {t : T} {v : Value} {F : List Nat} (h : C o w t v F) : Cs o w [t] [v] F := by
 unfold Cs
 exact ⟨v, [], F, [], rfl, h, by unfold Cs; exact ⟨rfl, rfl⟩, by simp⟩
theorem opensTInt {P : Program} {t : TypeId} (ht : P.underlying t = some (.int .i64)) : OpensT cInt P t := by
 intro H enc w base spare held fuel cs x h
 obtain ⟨n, rfl, _, _⟩ := DataW.trod_int ht h
 exact ⟨n, [], Cs_one (by unfold C; exact ⟨rfl, rfl, rfl⟩)⟩
theorem opensTBool {P : Program} {t : TypeId} (ht : P.underlying t = some .bool) : OpensT cBool P t := by
 intro H enc w base spare held fuel cs x h
 obtain ⟨n, rfl, _⟩ := DataW.trod_bool ht h
 exact ⟨n, [], Cs_one (by unfold C; exact ⟨rfl, rfl, rfl⟩)⟩
theorem rws_build {α : Type} {c : α → List T} {w : World} {b k : Nat} (hc : ∀ a, (c a).length = k) : ∀ (l : List α) (css : List (List Value)) (Fs : List (List Nat)) (off : Nat), css.length = l.length → Fs.length = l.length →
 (∀ (i : Nat) (x : α) (cs : List Value) (f : List Nat), l[i]? = some x → css[i]? = some cs → Fs[i]? = some f → Cs false w (c x) cs f) →
 (∀ (i : Nat) (cs : List Value) (j : Nat) (u : Value), css[i]? = some cs → cs[j]? = some u → w.cell? ⟨b, off + i * k + j, none⟩ = some u) → Rws false w b k off (l.map c) Fs.flatten
 | [], css, Fs, off, h1, h2, h3, h4 => by
  have : Fs = [] := List.eq_nil_of_length_eq_zero (by simpa using h2)
  subst this
  simp only [List.map_nil, List.flatten_nil]
  unfold Rws
  rfl
 | a :: l, css, Fs, off, h1, h2, h3, h4 => by
  match css, Fs, h1, h2 with
  | cs :: css, f :: Fs, h1, h2 =>
   have ih := rws_build hc l css Fs (off + k) (by simpa using h1) (by simpa using h2) (fun i x cs' f' hx hcs hf => h3 (i + 1) x cs' f' (by simpa using hx) (by simpa using hcs) (by simpa using hf)) (fun i cs' j u hcs hu => by
    have := h4 (i + 1) cs' j u (by simpa using hcs) hu
    rwa [show off + (i + 1) * k + j = off + k + i * k + j by rw [Nat.succ_mul]; omega] at this)
   rw [List.map_cons, List.flatten_cons]
   unfold Rws
   refine ⟨f, Fs.flatten, hc a, Ms.of (h3 0 a cs f rfl rfl rfl) fun j u hj => ?_, ih, rfl⟩
   have := h4 0 cs j u rfl hj
   simpa using this
theorem opensTSlice {α : Type} {c : α → List T} {k : Nat} {P : Program} {t e : TypeId} (ht : P.underlying t = some (.slice e)) (hk : P.cellsOf e = k) (hpos : 0 < k) (hc : ∀ a, (c a).length = k) (he : OpensT c P e) : OpensT (fun (l : List α) => [T.sl k (l.map c)]) P t := by
 intro H enc w base spare held fuel cs x h
 rcases open_slice ht h with ⟨rfl, _⟩ | ⟨a, len, cap, m, n, D, Pl, rfl, hb, hl, hm, hmm, _, hi⟩
 · refine ⟨[], [], Cs_one ?_⟩
   unfold C
   exact ⟨none, 0, 0, rfl, rfl, Nat.le_refl _, Nat.zero_le _, .inl ⟨rfl, rfl, fun h => by cases h⟩⟩
 · have hlm : len ≤ m := by rw [hmm]; split <;> omega
   have key : ∀ q, q ≤ len → ∃ (css : List (List Value)) (l : List α) (Fs : List (List Nat)), css.length = q ∧ l.length = q ∧ Fs.length = q ∧
    (∀ (i : Nat) (x : α) (cs : List Value) (f : List Nat), l[i]? = some x → css[i]? = some cs → Fs[i]? = some f → Cs false w (c x) cs f) ∧
    (∀ (i : Nat) (cs : List Value), css[i]? = some cs → w.cells? base (a.add (i * P.cellsOf e)) (P.cellsOf e) = some cs) := by
    intro q
    induction q with
    | zero => intro _; exact ⟨[], [], [], rfl, rfl, rfl, by simp, by simp⟩
    | succ q ih =>
     intro hq
     obtain ⟨css, l, Fs, h1, h2, h3, h4, h5⟩ := ih (by omega)
     obtain ⟨cs', hc, htr⟩ := hi q (by omega)
     obtain ⟨y, f, hr⟩ := he htr
     refine ⟨css ++ [cs'], l ++ [y], Fs ++ [f], by simp [h1], by simp [h2], by simp [h3], fun i x cs f' hx hcs hf => ?_, fun i cs hcs => ?_⟩
     · rcases Nat.lt_trichotomy i q with hlt | rfl | hgt
       · rw [List.getElem?_append_left (by omega)] at hx hcs hf
         exact h4 i x cs f' hx hcs hf
       · rw [List.getElem?_append_right (by omega), h2] at hx
         rw [List.getElem?_append_right (by omega), h1] at hcs
         rw [List.getElem?_append_right (by omega), h3] at hf
         simp at hx hcs hf
         subst hx; subst hcs; subst hf
         exact hr
       · rw [List.getElem?_eq_none (by simp; omega)] at hx
         cases hx
     · rcases Nat.lt_trichotomy i q with hlt | rfl | hgt
       · rw [List.getElem?_append_left (by omega)] at hcs
         exact h5 i cs hcs
       · rw [List.getElem?_append_right (by omega), h1] at hcs
         simp at hcs
         subst hcs
         exact hc
       · rw [List.getElem?_eq_none (by simp; omega)] at hcs
         cases hcs
   obtain ⟨css, l, Fs, h1, h2, h3, h4, h5⟩ := key len (Nat.le_refl _)
   by_cases h0 : len = 0
   · refine ⟨l, [], Cs_one ?_⟩
     unfold C
     exact ⟨some a, len, cap, rfl, by simpa using h2, hl, hm, .inl ⟨h0, rfl, fun h => by cases h⟩⟩
   · obtain ⟨b, off, spot⟩ := a
     obtain ⟨_, hlen0, hat0⟩ := World.cells?_some (h5 0 _ (List.getElem?_eq_getElem (by omega)))
     have c0 := hat0 0 (by omega)
     rw [List.getElem?_eq_getElem (by omega)] at c0
     have hlt : b < w.heap.size := by
      have := World.block_lt_of_cell? w _ c0
      simpa [Addr.add] using this
     have hspot : spot = none := by
      have := World.cell?_spot c0
      simpa [Addr.add] using this
     subst hspot
     refine ⟨l, b :: Fs.flatten, Cs_one ?_⟩
     unfold C
     refine ⟨some ⟨b, off, none⟩, len, cap, rfl, by simpa using h2, hl, hm, .inr ⟨b, off, Fs.flatten, rfl, rfl, hlt, (by simp), rws_build hc l css Fs off (by omega) (by omega) h4 fun i cs j u hcs hu => ?_⟩⟩
     obtain ⟨_, hlen', hat⟩ := World.cells?_some (h5 i cs hcs)
     have hj : j < cs.length := (List.getElem?_eq_some_iff.1 hu).1
     have := hat j (by omega)
     rw [hu] at this
     rw [← this, ← hk]
     congr 1
     unfold Addr.add
     split <;> split <;> simp_all <;> omega
theorem OpensT.vl {α : Type} {c : α → List T} {P : Program} {t : TypeId} {v : Value} {H : Type} {enc : TypeId × Value → H} {w : World} {base : Nat} {spare : Nat → Bool} {held : Bool} {d : DataW H} {p : List MemPlace} (h : OpensT c P t)
 (hv : DataW.Trod enc P w base spare held t v d p) : ∃ (a : α) (F : List Nat), Cs false w (c a) v.cells.toList F := by
 obtain ⟨fuel, hf⟩ := hv
 exact h hf
end Go.Q
