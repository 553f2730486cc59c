/- Merged texts. -/
import Derived.Test.YtijkijoempdgnaaGreatB03xh
import Derived.Test.YtijkijoempdgnaaGreatAbsIxh
set_option linter.unusedVariables false
set_option linter.unusedSimpArgs false
namespace Go.Q
open Go.D
def reads (e : TEdge) (b : Bool) : Int := if b then 2 * e.Label + 1 else 2 * e.Label
end Go.Q
namespace Go.Proofs.YtijkijoempdgnaaGreat
open Go.RowKit Go.Q Go.D
set_option maxRecDepth 100000 in
theorem implreads (e : TEdge) (b : Bool) (h : 0 ≤ e.Label ∧ e.Label ≤ 2) : FnT Tryz.prog 83 [.agg (cEdge e), .one (.v (.bool b))] (.a (.one (.v (.int .i64 (reads e b))))) := by
  refine FnT.walk Tryz.func83 rfl (by kernel_rfl) Tryz.ntmps83 rfl fun hlen w0 => ?_
  try simp [cPair, cToken, cExpr, cEdge, cGraph, cStep, cWalk, cChange, cBatch, cHistory, cPositions, cAutomaton, cProductStep, cPathAtom, cConjunction, cView, cDelta, cRegistered, cRegistry] at hlen
  refine AW.seq ?_
  refine AW.region ?_
  refine AWl.put (R_boxz rfl rfl rfl (.tmp rfl fun _ => rfl) (ts := _) (by first | rfl | exact cells_t1 _ | exact cells_t2 _)) rfl ?_
  refine AWl.put (R_assign rfl (.no rfl) rfl (.const rfl)) rfl ?_
  refine AWl.nil ?_
  refine AW.seq ?_
  refine AW.seq ?_
  refine AW.region ?_
  refine AWl.put (R_move rfl (.no rfl) rfl (.tmp rfl fun _ => rfl)) rfl ?_
  refine AWl.nil ?_
  refine AW.cond (.tmp rfl fun _ => rfl) (fun h5 => ?_) (fun h5 => ?_)
  · skip
    try simp at h5
    refine AW.seq ?_
    refine AW.region ?_
    refine AWl.put ((by first | exact R_fieldAddr rfl (.no rfl) rfl (.tmp rfl fun _ => rfl) fl76_3 | exact R_fieldAddr_pp rfl (.no rfl) rfl (.tmp rfl fun _ => rfl) fl76_3 | exact R_fieldAddr_vw rfl (.no rfl) rfl (.tmp rfl fun _ => rfl) fl76_3 | exact R_fieldAddr_pr rfl (.no rfl) rfl (.tmp rfl fun _ => rfl) fl76_3)) rfl ?_
    refine AWl.put ((by first | exact R_load rfl (.no rfl) rfl (.tmp rfl fun _ => rfl) ty3 rfl rfl | exact R_load_pp rfl (.no rfl) rfl (.tmp rfl fun _ => rfl) rfl ty3 rfl rfl | exact R_load_vw rfl (.no rfl) rfl (.tmp rfl fun _ => rfl) ty3 rfl rfl | exact R_load_pr rfl (.no rfl) rfl (.tmp rfl fun _ => rfl) rfl (by first | assumption | exact map_get (by assumption)) ty3 rfl rfl)) rfl ?_
    refine AWl.put (R_mul rfl (.no rfl) rfl (.const rfl) (.tmp rfl fun _ => rfl) (fun _ => by omega)) rfl ?_
    refine AWl.put (R_add rfl (.no rfl) rfl (.tmp rfl fun _ => rfl) (.const rfl) (fun _ => by omega)) rfl ?_
    refine AWl.put (R_assign rfl (.no rfl) rfl (.tmp rfl fun _ => rfl)) rfl ?_
    refine AWl.nil ?_
    refine AW.ret ?_
    refine Res.v rfl rfl ?_
    simp [reads, h5]
  · skip
    try simp at h5
    refine AW.skip ?_
    refine AW.seq ?_
    refine AW.region ?_
    refine AWl.put ((by first | exact R_fieldAddr rfl (.no rfl) rfl (.tmp rfl fun _ => rfl) fl76_3 | exact R_fieldAddr_pp rfl (.no rfl) rfl (.tmp rfl fun _ => rfl) fl76_3 | exact R_fieldAddr_vw rfl (.no rfl) rfl (.tmp rfl fun _ => rfl) fl76_3 | exact R_fieldAddr_pr rfl (.no rfl) rfl (.tmp rfl fun _ => rfl) fl76_3)) rfl ?_
    refine AWl.put ((by first | exact R_load rfl (.no rfl) rfl (.tmp rfl fun _ => rfl) ty3 rfl rfl | exact R_load_pp rfl (.no rfl) rfl (.tmp rfl fun _ => rfl) rfl ty3 rfl rfl | exact R_load_vw rfl (.no rfl) rfl (.tmp rfl fun _ => rfl) ty3 rfl rfl | exact R_load_pr rfl (.no rfl) rfl (.tmp rfl fun _ => rfl) rfl (by first | assumption | exact map_get (by assumption)) ty3 rfl rfl)) rfl ?_
    refine AWl.put (R_mul rfl (.no rfl) rfl (.const rfl) (.tmp rfl fun _ => rfl) (fun _ => by omega)) rfl ?_
    refine AWl.put (R_assign rfl (.no rfl) rfl (.tmp rfl fun _ => rfl)) rfl ?_
    refine AWl.nil ?_
    refine AW.ret ?_
    refine Res.v rfl rfl ?_
    simp [reads, h5]
end Go.Proofs.YtijkijoempdgnaaGreat
set_option linter.unusedVariables false
set_option linter.unusedSimpArgs false
set_option maxHeartbeats 1000000
set_option maxRecDepth 100000
namespace Go.Q
open Go.D
def bitsN (m : Nat) : List Nat := (List.range 64).filter m.testBit
def nextOf (a : TAutomaton) (s k : Int) : Int := (a.Next[s.toNat]?.getD [])[k.toNat]?.getD (-1)
/-- The states that a state leads to without a step, at a node of the value. -/
def clos (a : TAutomaton) (v : Int) : Nat → Int → Nat → Nat
  | 0, _, m => m
  | f + 1, s, m => if s < 0 || m.testBit s.toNat then m else clos a v f (nextOf a s (6 + v)) (m ||| 2 ^ s.toNat)
def closure (a : TAutomaton) (s v : Int) : Nat := clos a v (a.Accept.length + 1) s 0
def accAt (a : TAutomaton) (t : Nat) : Bool := a.Accept[t]?.getD false
def acc (a : TAutomaton) (s v : Int) : Bool := (bitsN (closure a s v)).any (accAt a)
/-! ### Arcs -/
structure TArc where
  step : TStep
  letter : Int
  to : Int
  deriving DecidableEq
def arcsOf (e : TEdge) (x : Int) : List TArc := (if e.From = x then [⟨⟨e.ID, false⟩, reads e false, e.To⟩] else []) ++ if e.To = x then [⟨⟨e.ID, true⟩, reads e true, e.From⟩] else []
def arcsL (l : List TEdge) (x : Int) : List TArc := l.flatMap fun e => arcsOf e x
def arcsAt (g : TGraph) (x : Int) : List TArc := arcsL g.Edges x
theorem arcsL_at {l : List TEdge} {k : Nat} {e : TEdge} (h : l[k]? = some e) (x : Int) : arcsL (l.take (k + 1)) x = arcsL (l.take k) x ++ arcsOf e x := by
  unfold arcsL
  rw [take_at h, List.flatMap_append]; simp
theorem arcsL_len (l : List TEdge) (x : Int) : (arcsL l x).length ≤ 2 * l.length := by
  induction l with
  | nil => simp [arcsL]
  | cons e l ih =>
    have e1 : arcsL (e :: l) x = arcsOf e x ++ arcsL l x := by simp [arcsL]
    have e2 : (arcsOf e x).length ≤ 2 := by
      unfold arcsOf
      rw [List.length_append]
      split <;> split <;> simp
    rw [e1, List.length_append, List.length_cons]; omega
def cArc (x : TArc) : List T := [.v (.int .i64 x.step.Edge), .v (.bool x.step.Inverse), .v (.int .i64 x.letter), .v (.int .i64 x.to)]
def cArcS (x : List TArc) : List T := [.sl 4 (x.map cArc)]
def arcsV (g : TGraph) : List (List TArc) := (List.range g.Values.length).map fun (x : Nat) => arcsAt g x
/-! ### Valid graphs -/
theorem validG_len {g : TGraph} (h : validG g = true) : 1 ≤ g.Values.length ∧ g.Values.length ≤ 5 ∧ g.Edges.length ≤ 12 := by
  unfold validG inB at h
  simp only [Bool.and_eq_true, decide_eq_true_eq] at h
  omega
theorem validG_val {g : TGraph} (h : validG g = true) {k : Nat} {v : Int} (hv : g.Values[k]? = some v) : 0 ≤ v ∧ v ≤ 2 := by
  unfold validG at h
  simp only [Bool.and_eq_true, List.all_eq_true] at h
  have := h.1.1 _ (List.mem_of_getElem? hv)
  unfold inB at this
  simpa using this
theorem validG_edge {g : TGraph} (h : validG g = true) {k : Nat} {e : TEdge} (he : g.Edges[k]? = some e) : 0 ≤ e.From ∧ e.From < g.Values.length ∧ 0 ≤ e.To ∧ e.To < g.Values.length ∧ 0 ≤ e.Label ∧ e.Label ≤ 2 ∧ 1 ≤ e.ID ∧ e.ID ≤ 99 := by
  unfold validG at h
  simp only [Bool.and_eq_true, List.all_eq_true] at h
  have := h.1.2 k (List.mem_range.2 (List.getElem?_eq_some_iff.1 he).1)
  unfold edgeAt at this
  rw [he] at this
  simp only [Bool.and_eq_true] at this
  have := this.1
  unfold edgeOk inB at this
  simp only [Bool.and_eq_true, decide_eq_true_eq] at this
  omega
/-! ### Rows numbered -/
theorem range_set {α : Type} (f : Nat → α) (y : α) {n i : Nat} : ((List.range n).map f).set i y = (List.range n).map fun x => if x = i then y else f x := by
  apply List.ext_getElem?
  intro j
  rw [List.getElem?_set]
  simp only [List.length_map, List.length_range, List.getElem?_map]
  by_cases e : i = j
  · subst e
    by_cases h : i < n
    · simp [h]
    · simp [h]
  · rw [if_neg e]
    by_cases h : j < n
    · rw [List.getElem?_range h]; simp; intro e'; exact absurd e'.symm e
    · simp [h]
theorem range_get {α : Type} (f : Nat → α) {n i : Nat} (h : i < n) : ((List.range n).map f)[i]? = some (f i) := by
  rw [List.getElem?_map, List.getElem?_range h]; rfl
end Go.Q
namespace Go.Proofs.YtijkijoempdgnaaGreat
open Go.RowKit Go.Q Go.D
end Go.Proofs.YtijkijoempdgnaaGreat
