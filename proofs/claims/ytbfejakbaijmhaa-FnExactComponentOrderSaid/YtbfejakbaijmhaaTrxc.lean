/- Merged texts. -/
import Derived.Test.YtbfejakbaijmhaaAbs15xc
import Derived.Test.YtbfejakbaijmhaaStdxc
import Derived.Test.YtbfejakbaijmhaaAppxc
import Derived.Maps.AppendAt
import Derived.Laws.Cover3
set_option linter.unusedVariables false
set_option linter.unusedSimpArgs false
namespace Go.Q
open Go.RowKit
section
variable {P : Program} {ops : Array Oper} {o : Oper} {σ : St} {q : Bool}
theorem RelI.reslot {I : Ip} {w0 : Base} {w : World} {a : Act} (h : RelI I w0 σ a w) {i : Nat} {x : Bool × S} (hv : VS I w x (a.tmps.getD i undef)) : RelI I w0 ⟨σ.n, (i, x) :: σ.slots, σ.res⟩ a w :=
  ⟨h.ext, h.defers, h.size, fun j y hj => by
    rw [look_cons] at hj
    by_cases e : i = j
    · subst e; rw [if_pos rfl] at hj; cases hj; exact hv
    · rw [if_neg e] at hj; exact h.slots j y hj, h.res, h.old, h.lt, h.own, h.apart⟩
theorem RelI.nilrow {I : Ip} {w0 : Base} {w : World} {a : Act} (h : RelI I w0 σ a w) {id : Nat} (k : Nat) (hf : σ.has id = false) : RelI (I.set id [] (.slice none 0 0) 0) w0 (σ.add id (.row k [])) a w :=
  h.addF hf List.nodup_nil (fun b hb => by cases hb) (by
    show C true w (.sl k []) _ _
    simp only [Ip.set, if_true]
    unfold C
    exact ⟨none, 0, 0, rfl, rfl, Nat.le_refl _, Nat.zero_le _, .inl ⟨rfl, rfl, fun _ => rfl⟩⟩)
theorem VE_nil {I : Ip} {w : World} {id : Nat} {c : Value} (h : VE I w (.t (.v (.slice none 0 0))) c) : VE (I.set id [] (.slice none 0 0) 0) w (.rf id) c := by
  obtain ⟨G, h1, _⟩ := h
  simp only [C] at h1
  refine ⟨?_, none, 0, 0, h1.1⟩
  simp only [Ip.set, if_true]; exact h1.1
variable {w0 : Base} {Q : Exit → St → Prop} {n : Nat} {sl : List (Nat × (Bool × S))} {rs : List (Nat × R)} {l : List Oper}
theorem AWl.nilS {i : Nat} (id k : Nat) (hi : look sl i = some (true, .a (.one (.t (.v (.slice none 0 0)))))) (hf : St.has ⟨n, sl, rs⟩ id = false) (h : AWl P w0 ops Q l ⟨n, (i, (true, .a (.one (.rf id)))) :: sl, (id, .row k []) :: rs⟩) : AWl P w0 ops Q l ⟨n, sl, rs⟩ := fun a w ⟨I, hr⟩ =>
  h a w ⟨_, (hr.nilrow k hf).reslot (VE_nil (hr.slots _ _ hi))⟩
theorem AWl.le {σ' : St} (hl : Le σ σ') (h : AWl P w0 ops Q l σ') : AWl P w0 ops Q l σ := fun a w hr => h a w (hl w0 a w hr)
theorem BlockQ.nor {id : Nat} (h : Q .normal σ) : BlockQ id Q .normal σ := h
/-! ### Loops of several variables -/
def Round1 {β1 : Type} (Inv : β1 → Prop) (J : β1 → St) (m : β1 → Nat) (a1 : β1) (Q : Exit → St → Prop) : Exit → St → Prop := Round (β := β1) (fun x => Inv x) (fun x => J x) (fun x => m x) a1 Q
theorem AW.loop1 {β1 : Type} (Inv : β1 → Prop) (J : β1 → St) (m : β1 → Nat) (y1 : β1) {c : Code} (h0 : Inv y1) (hs : Le σ (J y1)) (round : ∀ a1, Inv a1 → AW P w0 c (Round1 Inv J m a1 Q) (J a1)) : AW P w0 (.loop c) Q σ :=
  AW.loop (β := β1) (fun x => Inv x) (fun x => J x) (fun x => m x) y1 h0 hs fun x h => round x h
theorem Round1.next {β1 : Type} {Inv : β1 → Prop} {J : β1 → St} {m : β1 → Nat} {a1 : β1} (y1 : β1) (h1 : Inv y1) (h2 : m y1 < m a1) (h3 : Le σ (J y1)) : Round1 Inv J m a1 Q .normal σ := ⟨y1, h1, h2, h3⟩
def Round2 {β1 β2 : Type} (Inv : β1 → β2 → Prop) (J : β1 → β2 → St) (m : β1 → β2 → Nat) (a1 : β1) (a2 : β2) (Q : Exit → St → Prop) : Exit → St → Prop := Round (β := β1 × β2) (fun x => Inv x.1 x.2) (fun x => J x.1 x.2) (fun x => m x.1 x.2) (a1, a2) Q
theorem AW.loop2 {β1 β2 : Type} (Inv : β1 → β2 → Prop) (J : β1 → β2 → St) (m : β1 → β2 → Nat) (y1 : β1) (y2 : β2) {c : Code} (h0 : Inv y1 y2) (hs : Le σ (J y1 y2)) (round : ∀ a1 a2, Inv a1 a2 → AW P w0 c (Round2 Inv J m a1 a2 Q) (J a1 a2)) : AW P w0 (.loop c) Q σ :=
  AW.loop (β := β1 × β2) (fun x => Inv x.1 x.2) (fun x => J x.1 x.2) (fun x => m x.1 x.2) (y1, y2) h0 hs fun x h => round (x.1) (x.2) h
theorem Round2.next {β1 β2 : Type} {Inv : β1 → β2 → Prop} {J : β1 → β2 → St} {m : β1 → β2 → Nat} {a1 : β1} {a2 : β2} (y1 : β1) (y2 : β2) (h1 : Inv y1 y2) (h2 : m y1 y2 < m a1 a2) (h3 : Le σ (J y1 y2)) : Round2 Inv J m a1 a2 Q .normal σ := ⟨(y1, y2), h1, h2, h3⟩
def Round3 {β1 β2 β3 : Type} (Inv : β1 → β2 → β3 → Prop) (J : β1 → β2 → β3 → St) (m : β1 → β2 → β3 → Nat) (a1 : β1) (a2 : β2) (a3 : β3) (Q : Exit → St → Prop) : Exit → St → Prop := Round (β := β1 × β2 × β3) (fun x => Inv x.1 x.2.1 x.2.2) (fun x => J x.1 x.2.1 x.2.2) (fun x => m x.1 x.2.1 x.2.2) (a1, a2, a3) Q
theorem AW.loop3 {β1 β2 β3 : Type} (Inv : β1 → β2 → β3 → Prop) (J : β1 → β2 → β3 → St) (m : β1 → β2 → β3 → Nat) (y1 : β1) (y2 : β2) (y3 : β3) {c : Code} (h0 : Inv y1 y2 y3) (hs : Le σ (J y1 y2 y3)) (round : ∀ a1 a2 a3, Inv a1 a2 a3 → AW P w0 c (Round3 Inv J m a1 a2 a3 Q) (J a1 a2 a3)) : AW P w0 (.loop c) Q σ :=
  AW.loop (β := β1 × β2 × β3) (fun x => Inv x.1 x.2.1 x.2.2) (fun x => J x.1 x.2.1 x.2.2) (fun x => m x.1 x.2.1 x.2.2) (y1, y2, y3) h0 hs fun x h => round (x.1) (x.2.1) (x.2.2) h
theorem Round3.next {β1 β2 β3 : Type} {Inv : β1 → β2 → β3 → Prop} {J : β1 → β2 → β3 → St} {m : β1 → β2 → β3 → Nat} {a1 : β1} {a2 : β2} {a3 : β3} (y1 : β1) (y2 : β2) (y3 : β3) (h1 : Inv y1 y2 y3) (h2 : m y1 y2 y3 < m a1 a2 a3) (h3 : Le σ (J y1 y2 y3)) : Round3 Inv J m a1 a2 a3 Q .normal σ := ⟨(y1, y2, y3), h1, h2, h3⟩
def Round4 {β1 β2 β3 β4 : Type} (Inv : β1 → β2 → β3 → β4 → Prop) (J : β1 → β2 → β3 → β4 → St) (m : β1 → β2 → β3 → β4 → Nat) (a1 : β1) (a2 : β2) (a3 : β3) (a4 : β4) (Q : Exit → St → Prop) : Exit → St → Prop := Round (β := β1 × β2 × β3 × β4) (fun x => Inv x.1 x.2.1 x.2.2.1 x.2.2.2) (fun x => J x.1 x.2.1 x.2.2.1 x.2.2.2) (fun x => m x.1 x.2.1 x.2.2.1 x.2.2.2) (a1, a2, a3, a4) Q
theorem AW.loop4 {β1 β2 β3 β4 : Type} (Inv : β1 → β2 → β3 → β4 → Prop) (J : β1 → β2 → β3 → β4 → St) (m : β1 → β2 → β3 → β4 → Nat) (y1 : β1) (y2 : β2) (y3 : β3) (y4 : β4) {c : Code} (h0 : Inv y1 y2 y3 y4) (hs : Le σ (J y1 y2 y3 y4)) (round : ∀ a1 a2 a3 a4, Inv a1 a2 a3 a4 → AW P w0 c (Round4 Inv J m a1 a2 a3 a4 Q) (J a1 a2 a3 a4)) : AW P w0 (.loop c) Q σ :=
  AW.loop (β := β1 × β2 × β3 × β4) (fun x => Inv x.1 x.2.1 x.2.2.1 x.2.2.2) (fun x => J x.1 x.2.1 x.2.2.1 x.2.2.2) (fun x => m x.1 x.2.1 x.2.2.1 x.2.2.2) (y1, y2, y3, y4) h0 hs fun x h => round (x.1) (x.2.1) (x.2.2.1) (x.2.2.2) h
theorem Round4.next {β1 β2 β3 β4 : Type} {Inv : β1 → β2 → β3 → β4 → Prop} {J : β1 → β2 → β3 → β4 → St} {m : β1 → β2 → β3 → β4 → Nat} {a1 : β1} {a2 : β2} {a3 : β3} {a4 : β4} (y1 : β1) (y2 : β2) (y3 : β3) (y4 : β4) (h1 : Inv y1 y2 y3 y4) (h2 : m y1 y2 y3 y4 < m a1 a2 a3 a4) (h3 : Le σ (J y1 y2 y3 y4)) : Round4 Inv J m a1 a2 a3 a4 Q .normal σ := ⟨(y1, y2, y3, y4), h1, h2, h3⟩
def Round5 {β1 β2 β3 β4 β5 : Type} (Inv : β1 → β2 → β3 → β4 → β5 → Prop) (J : β1 → β2 → β3 → β4 → β5 → St) (m : β1 → β2 → β3 → β4 → β5 → Nat) (a1 : β1) (a2 : β2) (a3 : β3) (a4 : β4) (a5 : β5) (Q : Exit → St → Prop) : Exit → St → Prop := Round (β := β1 × β2 × β3 × β4 × β5) (fun x => Inv x.1 x.2.1 x.2.2.1 x.2.2.2.1 x.2.2.2.2) (fun x => J x.1 x.2.1 x.2.2.1 x.2.2.2.1 x.2.2.2.2) (fun x => m x.1 x.2.1 x.2.2.1 x.2.2.2.1 x.2.2.2.2) (a1, a2, a3, a4, a5) Q
theorem Round5.next {β1 β2 β3 β4 β5 : Type} {Inv : β1 → β2 → β3 → β4 → β5 → Prop} {J : β1 → β2 → β3 → β4 → β5 → St} {m : β1 → β2 → β3 → β4 → β5 → Nat} {a1 : β1} {a2 : β2} {a3 : β3} {a4 : β4} {a5 : β5} (y1 : β1) (y2 : β2) (y3 : β3) (y4 : β4) (y5 : β5) (h1 : Inv y1 y2 y3 y4 y5) (h2 : m y1 y2 y3 y4 y5 < m a1 a2 a3 a4 a5) (h3 : Le σ (J y1 y2 y3 y4 y5)) : Round5 Inv J m a1 a2 a3 a4 a5 Q .normal σ := ⟨(y1, y2, y3, y4, y5), h1, h2, h3⟩
end
end Go.Q
set_option linter.unusedVariables false
set_option linter.unusedSimpArgs false
namespace Go.Q
open Go.D
end Go.Q
namespace Go.Proofs.Ytbfejakbaijmhaa
open Go.RowKit Go.Q Go.D
set_option maxRecDepth 100000 in
theorem implwithin (n a b : Int) : FnT Try.prog 114 [.one (.v (.int .i64 n)), .one (.v (.int .i64 a)), .one (.v (.int .i64 b))] (.a (.one (.v (.bool (inB n a b))))) := by
  refine FnT.walk Try.func114 rfl (by kernel_rfl) Try.ntmps114 rfl fun hlen w0 => ?_
  try simp [cPair, cToken, cExpr, cEdge, cGraph, cStep, cWalk, cChange, cBatch, cHistory, cPositions, cAutomaton, cProductStep, cPathAtom, cConjunction, cView, cDelta, cRegistered, cRegistry] at hlen
  refine AW.seq ?_
  refine AW.region ?_
  refine AWl.put (R_assign rfl (.no rfl) rfl (.const rfl)) rfl ?_
  refine AWl.nil ?_
  refine AW.seq ?_
  refine AW.region ?_
  refine AWl.put (R_move rfl (.no rfl) rfl (.tmp rfl fun _ => rfl)) rfl ?_
  refine AWl.put (R_move rfl (.no rfl) rfl (.tmp rfl fun _ => rfl)) rfl ?_
  refine AWl.put (R_ge rfl (.no rfl) rfl (.tmp rfl fun _ => rfl) (.tmp rfl fun _ => rfl)) rfl ?_
  refine AWl.put (R_move rfl (.no rfl) rfl (.tmp rfl fun _ => rfl)) rfl ?_
  refine AWl.put (R_move rfl (by exact .yes1 rfl rfl rfl rfl) rfl (.tmp rfl (by exact fun _ => rfl))) rfl ?_
  refine AWl.put (R_move rfl (by exact .yes1 rfl rfl rfl rfl) rfl (.tmp rfl (by exact fun _ => rfl))) rfl ?_
  refine AWl.put (R_le rfl (by exact .yes1 rfl rfl rfl rfl) rfl (.tmp rfl (by exact id)) (.tmp rfl (by exact id))) rfl ?_
  refine AWl.put (R_and rfl (.no rfl) rfl (.tmp rfl fun _ => rfl) (.tmp rfl (by exact id))) rfl ?_
  refine AWl.put (R_assign rfl (.no rfl) rfl (.tmp rfl fun _ => rfl)) rfl ?_
  refine AWl.nil ?_
  refine AW.ret ?_
  refine Res.v rfl rfl ?_
  rfl
set_option maxRecDepth 100000 in
theorem specl1In (n a b : Int) : FnT Try.prog 111 [.one (.v (.int .i64 n)), .one (.v (.int .i64 a)), .one (.v (.int .i64 b))] (.a (.one (.v (.bool (inB n a b))))) := by
  refine FnT.walk Try.func111 rfl (by kernel_rfl) Try.ntmps111 rfl fun hlen w0 => ?_
  try simp [cPair, cToken, cExpr, cEdge, cGraph, cStep, cWalk, cChange, cBatch, cHistory, cPositions, cAutomaton, cProductStep, cPathAtom, cConjunction, cView, cDelta, cRegistered, cRegistry] at hlen
  refine AW.seq ?_
  refine AW.region ?_
  refine AWl.put (R_assign rfl (.no rfl) rfl (.const rfl)) rfl ?_
  refine AWl.nil ?_
  refine AW.seq ?_
  refine AW.region ?_
  refine AWl.put (R_move rfl (.no rfl) rfl (.tmp rfl fun _ => rfl)) rfl ?_
  refine AWl.put (R_move rfl (.no rfl) rfl (.tmp rfl fun _ => rfl)) rfl ?_
  refine AWl.put (R_ge rfl (.no rfl) rfl (.tmp rfl fun _ => rfl) (.tmp rfl fun _ => rfl)) rfl ?_
  refine AWl.put (R_move rfl (.no rfl) rfl (.tmp rfl fun _ => rfl)) rfl ?_
  refine AWl.put (R_move rfl (by exact .yes1 rfl rfl rfl rfl) rfl (.tmp rfl (by exact fun _ => rfl))) rfl ?_
  refine AWl.put (R_move rfl (by exact .yes1 rfl rfl rfl rfl) rfl (.tmp rfl (by exact fun _ => rfl))) rfl ?_
  refine AWl.put (R_le rfl (by exact .yes1 rfl rfl rfl rfl) rfl (.tmp rfl (by exact id)) (.tmp rfl (by exact id))) rfl ?_
  refine AWl.put (R_and rfl (.no rfl) rfl (.tmp rfl fun _ => rfl) (.tmp rfl (by exact id))) rfl ?_
  refine AWl.put (R_assign rfl (.no rfl) rfl (.tmp rfl fun _ => rfl)) rfl ?_
  refine AWl.nil ?_
  refine AW.ret ?_
  refine Res.v rfl rfl ?_
  rfl
set_option maxRecDepth 100000 in
theorem implisLetter (n : Int) : FnT Try.prog 206 [.one (.v (.int .i64 n))] (.a (.one (.v (.bool (inB n 0 8))))) := by
  refine FnT.walk Try.func206 rfl (by kernel_rfl) Try.ntmps206 rfl fun hlen w0 => ?_
  try simp [cPair, cToken, cExpr, cEdge, cGraph, cStep, cWalk, cChange, cBatch, cHistory, cPositions, cAutomaton, cProductStep, cPathAtom, cConjunction, cView, cDelta, cRegistered, cRegistry] at hlen
  refine AW.seq ?_
  refine AW.region ?_
  refine AWl.put (R_assign rfl (.no rfl) rfl (.const rfl)) rfl ?_
  refine AWl.nil ?_
  refine AW.seq ?_
  refine AW.region ?_
  refine AWl.put (R_move rfl (.no rfl) rfl (.tmp rfl fun _ => rfl)) rfl ?_
  refine AWl.put (R_callz (FnT.fr (implwithin _ _ _)) rfl (.no rfl) rfl (.cons (.tmp rfl fun _ => rfl) rfl (.cons (.const rfl) rfl (.cons (.const rfl) rfl .nil)))) rfl ?_
  refine AWl.put (R_assign rfl (.no rfl) rfl (.tmp rfl fun _ => rfl)) rfl ?_
  refine AWl.nil ?_
  refine AW.ret ?_
  refine Res.v rfl rfl ?_
  rfl
end Go.Proofs.Ytbfejakbaijmhaa
set_option linter.unusedVariables false
set_option linter.unusedSimpArgs false
set_option maxHeartbeats 1000000
set_option maxRecDepth 100000
namespace Go.Q
open Go.D
def zerT (t : TToken) : Bool := decide (t.Letter = 0) && decide (t.Low = 0) && decide (t.High = 0)
def arity (t : TToken) : Int :=
  if t.Kind = 1 ∨ t.Kind = 2 then (if zerT t then 0 else -1)
  else if t.Kind = 3 then (if inB t.Letter 0 8 && decide (t.Low = 0) && decide (t.High = 0) then 0 else -1)
  else if t.Kind = 4 ∨ t.Kind = 5 then (if zerT t then 2 else -1)
  else if t.Kind = 6 then (if zerT t then 1 else -1)
  else if t.Kind = 7 then (if decide (t.Letter = 0) && inB t.High 1 3 && inB t.Low 0 t.High then 1 else -1)
  else -1
def tokOk (t : TToken) : Bool := decide (0 ≤ arity t)
def depthGo : Int → List TToken → Bool
  | d, [] => decide (d = 1)
  | d, t :: r => if arity t < 0 ∨ d < arity t then false else depthGo (d - arity t + 1) r
def isExpr (l : List TToken) : Bool := depthGo 0 l
end Go.Q
namespace Go.Proofs.Ytbfejakbaijmhaa
open Go.RowKit Go.Q Go.D
end Go.Proofs.Ytbfejakbaijmhaa
set_option linter.unusedVariables false
set_option linter.unusedSimpArgs false
set_option maxHeartbeats 1000000
set_option maxRecDepth 100000
namespace Go.Q
open Go.RowKit Go.D
instance : Flat TToken := ⟨4, true, fun x => [.int .i64 x.Kind, .int .i64 x.Letter, .int .i64 x.Low, .int .i64 x.High], fun _ => rfl⟩
structure Ptr where
  b : Nat
instance : Flat Ptr := ⟨1, false, fun p => [.pointer (some ⟨p.b, 0, none⟩)], fun _ => rfl⟩
inductive Tr where
  | leaf (t : TToken)
  | un (t : TToken) (x : Tr)
  | bin (t : TToken) (x y : Tr)
def tokC (t : TToken) : List Value := [.int .i64 t.Kind, .int .i64 t.Letter, .int .i64 t.Low, .int .i64 t.High]
/-- A node: its token, its kids' row; all in blocks of S. -/
def TNode (tn : TypeId) (w : World) (S : Nat → Prop) (t : TToken) (ks : List Ptr) (b : Nat) : Prop :=
  S b ∧ ∃ a len c F, Box w b (tokC t ++ [.slice a len c]) tn ∧ Sl w a len c ks F ∧ ∀ n ∈ F, S n
def TreeIn (tn : TypeId) (w : World) (S : Nat → Prop) : Tr → Nat → Prop
  | .leaf t, b => TNode tn w S t [] b
  | .un t x, b => ∃ p, TNode tn w S t [⟨p⟩] b ∧ TreeIn tn w S x p
  | .bin t x y, b => ∃ p q, TNode tn w S t [⟨p⟩, ⟨q⟩] b ∧ TreeIn tn w S x p ∧ TreeIn tn w S y q
theorem TNode.congr {tn : TypeId} {w w' : World} {S S' : Nat → Prop} {t : TToken} {ks : List Ptr} {b : Nat} (h : TNode tn w S t ks b) (hc : ∀ n, S n → n < w.heap.size → w'.heap[n]? = w.heap[n]? ∧ S' n) : TNode tn w' S' t ks b := by
  obtain ⟨h0, a, len, c, F, h1, h2, h3⟩ := h
  exact ⟨(hc b h0 h1.lt).2, a, len, c, F, (hc b h0 h1.lt).1.trans h1, h2.congr fun n hn => (hc n (h3 n hn) (h2.lt n hn)).1, fun n hn => (hc n (h3 n hn) (h2.lt n hn)).2⟩
theorem TreeIn.congr {tn : TypeId} {w w' : World} {S S' : Nat → Prop} (hc : ∀ n, S n → n < w.heap.size → w'.heap[n]? = w.heap[n]? ∧ S' n) : ∀ {T : Tr} {b : Nat}, TreeIn tn w S T b → TreeIn tn w' S' T b
  | .leaf _, _, h => TNode.congr h hc
  | .un _ _, _, ⟨p, h1, h2⟩ => ⟨p, h1.congr hc, TreeIn.congr hc h2⟩
  | .bin _ _ _, _, ⟨p, q, h1, h2, h3⟩ => ⟨p, q, h1.congr hc, TreeIn.congr hc h2, TreeIn.congr hc h3⟩
theorem TreeIn.mono {tn : TypeId} {w w' : World} {S : Nat → Prop} {T : Tr} {b : Nat} (h : TreeIn tn w S T b) (he : Ext w w') : TreeIn tn w' S T b := h.congr fun _ hn hl => ⟨he.block hl, hn⟩
/-- How many operands the kind takes. -/
def nk (k : Int) : Nat := if k = 4 ∨ k = 5 then 2 else if k = 6 ∨ k = 7 then 1 else 0
def stepTr (ts : List Tr) (t : TToken) : Option (List Tr) :=
  if tokOk t = false ∨ ts.length < nk t.Kind then none
  else match nk t.Kind, ts.drop (ts.length - nk t.Kind) with
    | 0, _ => some (ts ++ [.leaf t])
    | 1, [x] => some (ts.take (ts.length - 1) ++ [.un t x])
    | 2, [x, y] => some (ts.take (ts.length - 2) ++ [.bin t x y])
    | _, _ => none
def runTr : List Tr → List TToken → Option (List Tr)
  | ts, [] => some ts
  | ts, t :: r => match stepTr ts t with | some ts' => runTr ts' r | none => none
def treeM (l : List TToken) : Option Tr := match runTr [] l with | some [x] => some x | _ => none
def TreePost (tn : TypeId) (w : World) (l : List TToken) (e : Ending) (w' : World) : Prop :=
  Ext w w' ∧ match treeM l with
    | none => e = .returned (.pointer none)
    | some T => ∃ b, e = .returned (.pointer (some ⟨b, 0, none⟩)) ∧ TreeIn tn w' (fun n => w.heap.size ≤ n) T b
theorem TreePost.none {tn : TypeId} {w w' : World} {l : List TToken} (h : Ext w w') (ht : treeM l = none) : TreePost tn w l (.returned (.pointer none)) w' := ⟨h, by rw [ht]⟩
def MP.empty : MP := ⟨[], fun _ v _ => ∃ ad c, v = .slice (some ad) 0 c ∧ c ≤ maxLen, fun h _ => h, fun _ h => h⟩
/-- The stack: pointers to trees. -/
inductive Stack (tn : TypeId) (w : World) (S : Nat → Prop) : List Ptr → List Tr → Prop where
  | nil : Stack tn w S [] []
  | snoc {ps : List Ptr} {ts : List Tr} {p : Ptr} {x : Tr} : Stack tn w S ps ts → TreeIn tn w S x p.b → Stack tn w S (ps ++ [p]) (ts ++ [x])
theorem Stack.congr {tn : TypeId} {w w' : World} {S S' : Nat → Prop} (hc : ∀ n, S n → n < w.heap.size → w'.heap[n]? = w.heap[n]? ∧ S' n) {ps : List Ptr} {ts : List Tr} (h : Stack tn w S ps ts) : Stack tn w' S' ps ts := by
  induction h with
  | nil => exact .nil
  | snoc _ h ih => exact .snoc ih (h.congr hc)
theorem Stack.len {tn : TypeId} {w : World} {S : Nat → Prop} {ps : List Ptr} {ts : List Tr} (h : Stack tn w S ps ts) : ps.length = ts.length := by
  induction h with
  | nil => rfl
  | snoc _ _ ih => simp [ih]
theorem Stack.grow {tn : TypeId} {w w' : World} {m g g' : Nat} {ps : List Ptr} {ts : List Tr} (h : Stack tn w (fun b => m ≤ b ∧ b ≠ g) ps ts) (hg : w.grownBy w' (some g)) (hat : g' = g ∨ g' = w.heap.size) : Stack tn w' (fun b => m ≤ b ∧ b ≠ g') ps ts :=
  h.congr fun n hn hl => ⟨hg.block n hl (by simpa using hn.2), hn.1, by rcases hat with rfl | rfl; exact hn.2; omega⟩
theorem Ext.own {w0 w w' : World} (h : Ext w0 w) {g : Nat} (hg : w.grownBy w' (some g)) (hb : w0.heap.size ≤ g) : Ext w0 w' :=
  h.trans' hg.os hg.tape hg.output hg.size fun b hlt => hg.block b (Nat.lt_of_lt_of_le hlt h.size) (by simp; omega)
theorem Stack.un {tn : TypeId} {w : World} {S : Nat → Prop} {ps : List Ptr} {ts : List Tr} (h : Stack tn w S ps ts) (hn : 0 < ts.length) :
    ∃ ps' ts' p x, ps = ps' ++ [p] ∧ ts = ts' ++ [x] ∧ Stack tn w S ps' ts' ∧ TreeIn tn w S x p.b := by
  cases h with
  | nil => simp at hn
  | snoc h1 h2 => exact ⟨_, _, _, _, rfl, rfl, h1, h2⟩
end Go.Q
namespace Go.Proofs.Ytbfejakbaijmhaa
open Go.RowKit Go.Q Go.D
end Go.Proofs.Ytbfejakbaijmhaa
namespace Go.Q
open Go.RowKit Go.D
def treeCells : Tr → List T
  | .leaf t => cToken t ++ [.sl 1 []]
  | .un t x => cToken t ++ [.sl 1 [[.ad (treeCells x)]]]
  | .bin t x y => cToken t ++ [.sl 1 [[.ad (treeCells x)], [.ad (treeCells y)]]]
def treeV (l : List TToken) : T := match treeM l with | some x => .ad (treeCells x) | none => .v (.pointer none)
end Go.Q
namespace Go.Proofs.Ytbfejakbaijmhaa
open Go.RowKit Go.Q Go.D
end Go.Proofs.Ytbfejakbaijmhaa
