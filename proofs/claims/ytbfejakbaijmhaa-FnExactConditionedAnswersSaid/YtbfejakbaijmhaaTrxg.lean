/- Merged texts. -/
import Derived.Test.YtbfejakbaijmhaaDataxg
import Derived.Test.YtbfejakbaijmhaaProg
import Derived.Test.YtbfejakbaijmhaaNilxg
import Derived.Test.YtbfejakbaijmhaaAbsIxg
import Derived.Shelf.Sort.Plain
import Derived.Shelf.Slices.In.SortNone
import Derived.Shelf.Abstract
import Derived.Ground.NamesProg
import Derived.Test.YtbfejakbaijmhaaAppxg
import Derived.Maps.AppendAt
import Derived.Laws.Cover3
namespace Go.Proofs.Ytbfejakbaijmhaa
open Go.RowKit Go.Q
theorem ty3 : tyB Try.prog 3 false 1 = true := by kernel_rfl
theorem in3 : (Try.prog.info? 3).map (fun i => (i.zero, i.size, i.bytes)) = some (some (.int .i64 0), 1, 8) := by kernel_rfl
theorem ty4 : tyB Try.prog 4 false 1 = true := by kernel_rfl
theorem in4 : (Try.prog.info? 4).map (fun i => (i.zero, i.size, i.bytes)) = some (some (.bool false), 1, 1) := by kernel_rfl
theorem ty22 : tyB Try.prog 22 false 1 = true := by kernel_rfl
theorem in22 : (Try.prog.info? 22).map (fun i => (i.zero, i.size, i.bytes)) = some (some (.slice none 0 0), 1, 24) := by kernel_rfl
theorem ty23 : tyB Try.prog 23 false 1 = true := by kernel_rfl
theorem ty25 : tyB Try.prog 25 true 2 = true := by kernel_rfl
theorem fl25_0 : fldB Try.prog 25 0 0 = true := by kernel_rfl
theorem fl25_1 : fldB Try.prog 25 1 1 = true := by kernel_rfl
theorem ty26 : tyB Try.prog 26 false 1 = true := by kernel_rfl
theorem ty27 : tyB Try.prog 27 false 1 = true := by kernel_rfl
theorem ty29 : tyB Try.prog 29 true 3 = true := by kernel_rfl
theorem fl29_0 : fldB Try.prog 29 0 0 = true := by kernel_rfl
theorem fl29_1 : fldB Try.prog 29 1 1 = true := by kernel_rfl
theorem fl29_2 : fldB Try.prog 29 2 2 = true := by kernel_rfl
theorem ty33 : tyB Try.prog 33 false 1 = true := by kernel_rfl
theorem ty35 : tyB Try.prog 35 true 2 = true := by kernel_rfl
theorem in35 : (Try.prog.info? 35).map (fun i => (i.zero, i.size, i.bytes)) = some (some (.agg #[.slice none 0 0, .slice none 0 0]), 2, 48) := by kernel_rfl
theorem fl35_0 : fldB Try.prog 35 0 0 = true := by kernel_rfl
theorem fl35_1 : fldB Try.prog 35 1 1 = true := by kernel_rfl
theorem ty37 : tyB Try.prog 37 true 3 = true := by kernel_rfl
theorem in37 : (Try.prog.info? 37).map (fun i => (i.zero, i.size, i.bytes)) = some (some (.agg #[.int .i64 0, .slice none 0 0, .slice none 0 0]), 3, 56) := by kernel_rfl
theorem fl37_0 : fldB Try.prog 37 0 0 = true := by kernel_rfl
theorem fl37_1 : fldB Try.prog 37 1 1 = true := by kernel_rfl
theorem fl37_2 : fldB Try.prog 37 2 2 = true := by kernel_rfl
theorem ty93 : tyB Try.prog 93 true 2 = true := by kernel_rfl
theorem in93 : (Try.prog.info? 93).map (fun i => (i.zero, i.size, i.bytes)) = some (some (.agg #[.int .i64 0, .int .i64 0]), 2, 16) := by kernel_rfl
theorem st93 : (match Try.prog.underlying 93 with | some (.struct fs) => fs.all (fun f => (Try.prog.info? f.type).isSome) | _ => false) = true := by kernel_rfl
theorem eqS93 (x0 : Int) (x1 : Int) (y0 : Int) (y1 : Int) (w : World) : (binOp .eql 93 (.agg (List.toArray [.int .i64 x0, .int .i64 x1])) (.agg (List.toArray [.int .i64 y0, .int .i64 y1]))).run Try.prog w = .ok (.bool ((decide (x0 = y0) && decide (x1 = y1)))) w := by
  have hs : Try.prog.stoodInHeld 93 = false := by kernel_rfl
  simp [go_sem, hs, Try.underlying93]
  repeat' split
  all_goals simp [*]
theorem fl93_0 : fldB Try.prog 93 0 0 = true := by kernel_rfl
theorem fp93_0 : (match Try.prog.underlying 93 with | some (.struct fs) => (match fs[0]? with | some f => Nat.beq f.offset 0 && (match Try.prog.info? f.type with | some i => Nat.beq i.size 1 | none => false) | none => false) | _ => false) = true := by kernel_rfl
theorem fl93_1 : fldB Try.prog 93 1 1 = true := by kernel_rfl
theorem fp93_1 : (match Try.prog.underlying 93 with | some (.struct fs) => (match fs[1]? with | some f => Nat.beq f.offset 1 && (match Try.prog.info? f.type with | some i => Nat.beq i.size 1 | none => false) | none => false) | _ => false) = true := by kernel_rfl
theorem ty122 : tyB Try.prog 122 true 2 = true := by kernel_rfl
theorem in122 : (Try.prog.info? 122).map (fun i => (i.zero, i.size, i.bytes)) = some (some (.agg #[.int .i64 0, .bool false]), 2, 16) := by kernel_rfl
theorem st122 : (match Try.prog.underlying 122 with | some (.struct fs) => fs.all (fun f => (Try.prog.info? f.type).isSome) | _ => false) = true := by kernel_rfl
theorem fl122_0 : fldB Try.prog 122 0 0 = true := by kernel_rfl
theorem fp122_0 : (match Try.prog.underlying 122 with | some (.struct fs) => (match fs[0]? with | some f => Nat.beq f.offset 0 && (match Try.prog.info? f.type with | some i => Nat.beq i.size 1 | none => false) | none => false) | _ => false) = true := by kernel_rfl
theorem fl122_1 : fldB Try.prog 122 1 1 = true := by kernel_rfl
theorem fp122_1 : (match Try.prog.underlying 122 with | some (.struct fs) => (match fs[1]? with | some f => Nat.beq f.offset 1 && (match Try.prog.info? f.type with | some i => Nat.beq i.size 1 | none => false) | none => false) | _ => false) = true := by kernel_rfl
theorem ty131 : tyB Try.prog 131 false 1 = true := by kernel_rfl
theorem in131 : (Try.prog.info? 131).map (fun i => (i.zero, i.size, i.bytes)) = some (some (.slice none 0 0), 1, 24) := by kernel_rfl
theorem ty133 : tyB Try.prog 133 true 4 = true := by kernel_rfl
theorem in133 : (Try.prog.info? 133).map (fun i => (i.zero, i.size, i.bytes)) = some (some (.agg #[.int .i64 0, .bool false, .int .i64 0, .int .i64 0]), 4, 32) := by kernel_rfl
theorem st133 : (match Try.prog.underlying 133 with | some (.struct fs) => fs.all (fun f => (Try.prog.info? f.type).isSome) | _ => false) = true := by kernel_rfl
theorem fp133_0 : (match Try.prog.underlying 133 with | some (.struct fs) => (match fs[0]? with | some f => Nat.beq f.offset 0 && (match Try.prog.info? f.type with | some i => Nat.beq i.size 2 | none => false) | none => false) | _ => false) = true := by kernel_rfl
theorem fl133_1 : fldB Try.prog 133 1 2 = true := by kernel_rfl
theorem fp133_1 : (match Try.prog.underlying 133 with | some (.struct fs) => (match fs[1]? with | some f => Nat.beq f.offset 2 && (match Try.prog.info? f.type with | some i => Nat.beq i.size 1 | none => false) | none => false) | _ => false) = true := by kernel_rfl
theorem fl133_2 : fldB Try.prog 133 2 3 = true := by kernel_rfl
theorem fp133_2 : (match Try.prog.underlying 133 with | some (.struct fs) => (match fs[2]? with | some f => Nat.beq f.offset 3 && (match Try.prog.info? f.type with | some i => Nat.beq i.size 1 | none => false) | none => false) | _ => false) = true := by kernel_rfl
theorem ty142 : tyB Try.prog 142 true 5 = true := by kernel_rfl
theorem in142 : (Try.prog.info? 142).map (fun i => (i.zero, i.size, i.bytes)) = some (some (.agg #[.int .i64 0, .int .i64 0, .int .i64 0, .int .i64 0, .bool false]), 5, 40) := by kernel_rfl
theorem st142 : (match Try.prog.underlying 142 with | some (.struct fs) => fs.all (fun f => (Try.prog.info? f.type).isSome) | _ => false) = true := by kernel_rfl
theorem fl142_0 : fldB Try.prog 142 0 0 = true := by kernel_rfl
theorem fp142_0 : (match Try.prog.underlying 142 with | some (.struct fs) => (match fs[0]? with | some f => Nat.beq f.offset 0 && (match Try.prog.info? f.type with | some i => Nat.beq i.size 1 | none => false) | none => false) | _ => false) = true := by kernel_rfl
theorem fl142_1 : fldB Try.prog 142 1 1 = true := by kernel_rfl
theorem fp142_1 : (match Try.prog.underlying 142 with | some (.struct fs) => (match fs[1]? with | some f => Nat.beq f.offset 1 && (match Try.prog.info? f.type with | some i => Nat.beq i.size 1 | none => false) | none => false) | _ => false) = true := by kernel_rfl
theorem fp142_2 : (match Try.prog.underlying 142 with | some (.struct fs) => (match fs[2]? with | some f => Nat.beq f.offset 2 && (match Try.prog.info? f.type with | some i => Nat.beq i.size 1 | none => false) | none => false) | _ => false) = true := by kernel_rfl
theorem fp142_3 : (match Try.prog.underlying 142 with | some (.struct fs) => (match fs[3]? with | some f => Nat.beq f.offset 3 && (match Try.prog.info? f.type with | some i => Nat.beq i.size 2 | none => false) | none => false) | _ => false) = true := by kernel_rfl
theorem ty154 : tyB Try.prog 154 true 4 = true := by kernel_rfl
theorem in154 : (Try.prog.info? 154).map (fun i => (i.zero, i.size, i.bytes)) = some (some (.agg #[.int .i64 0, .int .i64 0, .int .i64 0, .int .i64 0]), 4, 32) := by kernel_rfl
theorem fl154_0 : fldB Try.prog 154 0 0 = true := by kernel_rfl
theorem fl154_1 : fldB Try.prog 154 1 1 = true := by kernel_rfl
theorem fl154_2 : fldB Try.prog 154 2 2 = true := by kernel_rfl
theorem fl154_3 : fldB Try.prog 154 3 3 = true := by kernel_rfl
theorem ty156 : tyB Try.prog 156 true 4 = true := by kernel_rfl
theorem fl156_0 : fldB Try.prog 156 0 0 = true := by kernel_rfl
theorem fl156_1 : fldB Try.prog 156 1 1 = true := by kernel_rfl
theorem fl156_2 : fldB Try.prog 156 2 2 = true := by kernel_rfl
theorem fl156_3 : fldB Try.prog 156 3 3 = true := by kernel_rfl
end Go.Proofs.Ytbfejakbaijmhaa
set_option linter.unusedVariables false
set_option linter.unusedSimpArgs false
namespace Go.Q
end Go.Q
namespace Go.Proofs.Ytbfejakbaijmhaa
open Go.RowKit Go.Q Go.D
end Go.Proofs.Ytbfejakbaijmhaa
set_option linter.unusedVariables false
set_option linter.unusedSimpArgs false
namespace Go.Q
open Go.D
def areCosts (l : List Int) : Bool := (l.all fun n => inB n 0 9) && decide (l.length = 6)
end Go.Q
namespace Go.Proofs.Ytbfejakbaijmhaa
open Go.RowKit Go.Q Go.D
set_option maxRecDepth 100000 in
theorem implwithin (n a b : Int) : FnT Try.prog 114 [.one (.v (.int .i64 n)), .one (.v (.int .i64 a)), .one (.v (.int .i64 b))] (.a (.one (.v (.bool (inB n a b))))) := by
  refine FnT.walk Try.func114 rfl (by kernel_rfl) Try.ntmps114 rfl fun hlen w0 => ?_
  try simp [cPair, cToken, cExpr, cEdge, cGraph, cStep, cWalk, cChange, cBatch, cHistory, cPositions, cAutomaton, cProductStep, cPathAtom, cConjunction, cView, cDelta, cRegistered, cRegistry] at hlen
  refine AW.seq ?_
  refine AW.region ?_
  refine AWl.put (R_assign rfl (.no rfl) rfl (.const rfl)) rfl ?_
  refine AWl.nil ?_
  refine AW.seq ?_
  refine AW.region ?_
  refine AWl.put (R_move rfl (.no rfl) rfl (.tmp rfl fun _ => rfl)) rfl ?_
  refine AWl.put (R_move rfl (.no rfl) rfl (.tmp rfl fun _ => rfl)) rfl ?_
  refine AWl.put (R_ge rfl (.no rfl) rfl (.tmp rfl fun _ => rfl) (.tmp rfl fun _ => rfl)) rfl ?_
  refine AWl.put (R_move rfl (.no rfl) rfl (.tmp rfl fun _ => rfl)) rfl ?_
  refine AWl.put (R_move rfl (by exact .yes1 rfl rfl rfl rfl) rfl (.tmp rfl (by exact fun _ => rfl))) rfl ?_
  refine AWl.put (R_move rfl (by exact .yes1 rfl rfl rfl rfl) rfl (.tmp rfl (by exact fun _ => rfl))) rfl ?_
  refine AWl.put (R_le rfl (by exact .yes1 rfl rfl rfl rfl) rfl (.tmp rfl (by exact id)) (.tmp rfl (by exact id))) rfl ?_
  refine AWl.put (R_and rfl (.no rfl) rfl (.tmp rfl fun _ => rfl) (.tmp rfl (by exact id))) rfl ?_
  refine AWl.put (R_assign rfl (.no rfl) rfl (.tmp rfl fun _ => rfl)) rfl ?_
  refine AWl.nil ?_
  refine AW.ret ?_
  refine Res.v rfl rfl ?_
  rfl
set_option maxRecDepth 100000 in
theorem specl1In (n a b : Int) : FnT Try.prog 111 [.one (.v (.int .i64 n)), .one (.v (.int .i64 a)), .one (.v (.int .i64 b))] (.a (.one (.v (.bool (inB n a b))))) := by
  refine FnT.walk Try.func111 rfl (by kernel_rfl) Try.ntmps111 rfl fun hlen w0 => ?_
  try simp [cPair, cToken, cExpr, cEdge, cGraph, cStep, cWalk, cChange, cBatch, cHistory, cPositions, cAutomaton, cProductStep, cPathAtom, cConjunction, cView, cDelta, cRegistered, cRegistry] at hlen
  refine AW.seq ?_
  refine AW.region ?_
  refine AWl.put (R_assign rfl (.no rfl) rfl (.const rfl)) rfl ?_
  refine AWl.nil ?_
  refine AW.seq ?_
  refine AW.region ?_
  refine AWl.put (R_move rfl (.no rfl) rfl (.tmp rfl fun _ => rfl)) rfl ?_
  refine AWl.put (R_move rfl (.no rfl) rfl (.tmp rfl fun _ => rfl)) rfl ?_
  refine AWl.put (R_ge rfl (.no rfl) rfl (.tmp rfl fun _ => rfl) (.tmp rfl fun _ => rfl)) rfl ?_
  refine AWl.put (R_move rfl (.no rfl) rfl (.tmp rfl fun _ => rfl)) rfl ?_
  refine AWl.put (R_move rfl (by exact .yes1 rfl rfl rfl rfl) rfl (.tmp rfl (by exact fun _ => rfl))) rfl ?_
  refine AWl.put (R_move rfl (by exact .yes1 rfl rfl rfl rfl) rfl (.tmp rfl (by exact fun _ => rfl))) rfl ?_
  refine AWl.put (R_le rfl (by exact .yes1 rfl rfl rfl rfl) rfl (.tmp rfl (by exact id)) (.tmp rfl (by exact id))) rfl ?_
  refine AWl.put (R_and rfl (.no rfl) rfl (.tmp rfl fun _ => rfl) (.tmp rfl (by exact id))) rfl ?_
  refine AWl.put (R_assign rfl (.no rfl) rfl (.tmp rfl fun _ => rfl)) rfl ?_
  refine AWl.nil ?_
  refine AW.ret ?_
  refine Res.v rfl rfl ?_
  rfl
set_option maxRecDepth 100000 in
theorem implisLetter (n : Int) : FnT Try.prog 206 [.one (.v (.int .i64 n))] (.a (.one (.v (.bool (inB n 0 8))))) := by
  refine FnT.walk Try.func206 rfl (by kernel_rfl) Try.ntmps206 rfl fun hlen w0 => ?_
  try simp [cPair, cToken, cExpr, cEdge, cGraph, cStep, cWalk, cChange, cBatch, cHistory, cPositions, cAutomaton, cProductStep, cPathAtom, cConjunction, cView, cDelta, cRegistered, cRegistry] at hlen
  refine AW.seq ?_
  refine AW.region ?_
  refine AWl.put (R_assign rfl (.no rfl) rfl (.const rfl)) rfl ?_
  refine AWl.nil ?_
  refine AW.seq ?_
  refine AW.region ?_
  refine AWl.put (R_move rfl (.no rfl) rfl (.tmp rfl fun _ => rfl)) rfl ?_
  refine AWl.put (R_callz (FnT.fr (implwithin _ _ _)) rfl (.no rfl) rfl (.cons (.tmp rfl fun _ => rfl) rfl (.cons (.const rfl) rfl (.cons (.const rfl) rfl .nil)))) rfl ?_
  refine AWl.put (R_assign rfl (.no rfl) rfl (.tmp rfl fun _ => rfl)) rfl ?_
  refine AWl.nil ?_
  refine AW.ret ?_
  refine Res.v rfl rfl ?_
  rfl
end Go.Proofs.Ytbfejakbaijmhaa
set_option linter.unusedVariables false
set_option linter.unusedSimpArgs false
namespace Go.Q
open Go.RowKit Go.Sort Go.Proofs
section
variable {P : Program}
end
end Go.Q
set_option linter.unusedVariables false
set_option linter.unusedSimpArgs false
set_option maxHeartbeats 1000000
set_option maxRecDepth 100000
namespace Go.Q
open Go.D
def zerT (t : TToken) : Bool := decide (t.Letter = 0) && decide (t.Low = 0) && decide (t.High = 0)
def arity (t : TToken) : Int :=
  if t.Kind = 1 ∨ t.Kind = 2 then (if zerT t then 0 else -1)
  else if t.Kind = 3 then (if inB t.Letter 0 8 && decide (t.Low = 0) && decide (t.High = 0) then 0 else -1)
  else if t.Kind = 4 ∨ t.Kind = 5 then (if zerT t then 2 else -1)
  else if t.Kind = 6 then (if zerT t then 1 else -1)
  else if t.Kind = 7 then (if decide (t.Letter = 0) && inB t.High 1 3 && inB t.Low 0 t.High then 1 else -1)
  else -1
def tokOk (t : TToken) : Bool := decide (0 ≤ arity t)
def depthGo : Int → List TToken → Bool
  | d, [] => decide (d = 1)
  | d, t :: r => if arity t < 0 ∨ d < arity t then false else depthGo (d - arity t + 1) r
def isExpr (l : List TToken) : Bool := depthGo 0 l
end Go.Q
namespace Go.Proofs.Ytbfejakbaijmhaa
open Go.RowKit Go.Q Go.D
end Go.Proofs.Ytbfejakbaijmhaa
set_option linter.unusedVariables false
set_option linter.unusedSimpArgs false
set_option maxHeartbeats 1000000
set_option maxRecDepth 100000
namespace Go.Q
open Go.RowKit Go.D
instance : Flat TToken := ⟨4, true, fun x => [.int .i64 x.Kind, .int .i64 x.Letter, .int .i64 x.Low, .int .i64 x.High], fun _ => rfl⟩
structure Ptr where
  b : Nat
instance : Flat Ptr := ⟨1, false, fun p => [.pointer (some ⟨p.b, 0, none⟩)], fun _ => rfl⟩
inductive Tr where
  | leaf (t : TToken)
  | un (t : TToken) (x : Tr)
  | bin (t : TToken) (x y : Tr)
def tokC (t : TToken) : List Value := [.int .i64 t.Kind, .int .i64 t.Letter, .int .i64 t.Low, .int .i64 t.High]
/-- A node: its token, its kids' row; all in blocks of S. -/
def TNode (tn : TypeId) (w : World) (S : Nat → Prop) (t : TToken) (ks : List Ptr) (b : Nat) : Prop :=
  S b ∧ ∃ a len c F, Box w b (tokC t ++ [.slice a len c]) tn ∧ Sl w a len c ks F ∧ ∀ n ∈ F, S n
def TreeIn (tn : TypeId) (w : World) (S : Nat → Prop) : Tr → Nat → Prop
  | .leaf t, b => TNode tn w S t [] b
  | .un t x, b => ∃ p, TNode tn w S t [⟨p⟩] b ∧ TreeIn tn w S x p
  | .bin t x y, b => ∃ p q, TNode tn w S t [⟨p⟩, ⟨q⟩] b ∧ TreeIn tn w S x p ∧ TreeIn tn w S y q
theorem TNode.congr {tn : TypeId} {w w' : World} {S S' : Nat → Prop} {t : TToken} {ks : List Ptr} {b : Nat} (h : TNode tn w S t ks b) (hc : ∀ n, S n → n < w.heap.size → w'.heap[n]? = w.heap[n]? ∧ S' n) : TNode tn w' S' t ks b := by
  obtain ⟨h0, a, len, c, F, h1, h2, h3⟩ := h
  exact ⟨(hc b h0 h1.lt).2, a, len, c, F, (hc b h0 h1.lt).1.trans h1, h2.congr fun n hn => (hc n (h3 n hn) (h2.lt n hn)).1, fun n hn => (hc n (h3 n hn) (h2.lt n hn)).2⟩
theorem TreeIn.congr {tn : TypeId} {w w' : World} {S S' : Nat → Prop} (hc : ∀ n, S n → n < w.heap.size → w'.heap[n]? = w.heap[n]? ∧ S' n) : ∀ {T : Tr} {b : Nat}, TreeIn tn w S T b → TreeIn tn w' S' T b
  | .leaf _, _, h => TNode.congr h hc
  | .un _ _, _, ⟨p, h1, h2⟩ => ⟨p, h1.congr hc, TreeIn.congr hc h2⟩
  | .bin _ _ _, _, ⟨p, q, h1, h2, h3⟩ => ⟨p, q, h1.congr hc, TreeIn.congr hc h2, TreeIn.congr hc h3⟩
theorem TreeIn.mono {tn : TypeId} {w w' : World} {S : Nat → Prop} {T : Tr} {b : Nat} (h : TreeIn tn w S T b) (he : Ext w w') : TreeIn tn w' S T b := h.congr fun _ hn hl => ⟨he.block hl, hn⟩
/-- How many operands the kind takes. -/
def nk (k : Int) : Nat := if k = 4 ∨ k = 5 then 2 else if k = 6 ∨ k = 7 then 1 else 0
def stepTr (ts : List Tr) (t : TToken) : Option (List Tr) :=
  if tokOk t = false ∨ ts.length < nk t.Kind then none
  else match nk t.Kind, ts.drop (ts.length - nk t.Kind) with
    | 0, _ => some (ts ++ [.leaf t])
    | 1, [x] => some (ts.take (ts.length - 1) ++ [.un t x])
    | 2, [x, y] => some (ts.take (ts.length - 2) ++ [.bin t x y])
    | _, _ => none
def runTr : List Tr → List TToken → Option (List Tr)
  | ts, [] => some ts
  | ts, t :: r => match stepTr ts t with | some ts' => runTr ts' r | none => none
def treeM (l : List TToken) : Option Tr := match runTr [] l with | some [x] => some x | _ => none
def TreePost (tn : TypeId) (w : World) (l : List TToken) (e : Ending) (w' : World) : Prop :=
  Ext w w' ∧ match treeM l with
    | none => e = .returned (.pointer none)
    | some T => ∃ b, e = .returned (.pointer (some ⟨b, 0, none⟩)) ∧ TreeIn tn w' (fun n => w.heap.size ≤ n) T b
theorem TreePost.none {tn : TypeId} {w w' : World} {l : List TToken} (h : Ext w w') (ht : treeM l = none) : TreePost tn w l (.returned (.pointer none)) w' := ⟨h, by rw [ht]⟩
def MP.empty : MP := ⟨[], fun _ v _ => ∃ ad c, v = .slice (some ad) 0 c ∧ c ≤ maxLen, fun h _ => h, fun _ h => h⟩
/-- The stack: pointers to trees. -/
inductive Stack (tn : TypeId) (w : World) (S : Nat → Prop) : List Ptr → List Tr → Prop where
  | nil : Stack tn w S [] []
  | snoc {ps : List Ptr} {ts : List Tr} {p : Ptr} {x : Tr} : Stack tn w S ps ts → TreeIn tn w S x p.b → Stack tn w S (ps ++ [p]) (ts ++ [x])
theorem Stack.congr {tn : TypeId} {w w' : World} {S S' : Nat → Prop} (hc : ∀ n, S n → n < w.heap.size → w'.heap[n]? = w.heap[n]? ∧ S' n) {ps : List Ptr} {ts : List Tr} (h : Stack tn w S ps ts) : Stack tn w' S' ps ts := by
  induction h with
  | nil => exact .nil
  | snoc _ h ih => exact .snoc ih (h.congr hc)
theorem Stack.len {tn : TypeId} {w : World} {S : Nat → Prop} {ps : List Ptr} {ts : List Tr} (h : Stack tn w S ps ts) : ps.length = ts.length := by
  induction h with
  | nil => rfl
  | snoc _ _ ih => simp [ih]
theorem Ext.own {w0 w w' : World} (h : Ext w0 w) {g : Nat} (hg : w.grownBy w' (some g)) (hb : w0.heap.size ≤ g) : Ext w0 w' :=
  h.trans' hg.os hg.tape hg.output hg.size fun b hlt => hg.block b (Nat.lt_of_lt_of_le hlt h.size) (by simp; omega)
theorem Stack.un {tn : TypeId} {w : World} {S : Nat → Prop} {ps : List Ptr} {ts : List Tr} (h : Stack tn w S ps ts) (hn : 0 < ts.length) :
    ∃ ps' ts' p x, ps = ps' ++ [p] ∧ ts = ts' ++ [x] ∧ Stack tn w S ps' ts' ∧ TreeIn tn w S x p.b := by
  cases h with
  | nil => simp at hn
  | snoc h1 h2 => exact ⟨_, _, _, _, rfl, rfl, h1, h2⟩
end Go.Q
namespace Go.Proofs.Ytbfejakbaijmhaa
open Go.RowKit Go.Q Go.D
end Go.Proofs.Ytbfejakbaijmhaa
namespace Go.Q
open Go.RowKit Go.D
def treeCells : Tr → List T
  | .leaf t => cToken t ++ [.sl 1 []]
  | .un t x => cToken t ++ [.sl 1 [[.ad (treeCells x)]]]
  | .bin t x y => cToken t ++ [.sl 1 [[.ad (treeCells x)], [.ad (treeCells y)]]]
def treeV (l : List TToken) : T := match treeM l with | some x => .ad (treeCells x) | none => .v (.pointer none)
end Go.Q
namespace Go.Proofs.Ytbfejakbaijmhaa
open Go.RowKit Go.Q Go.D
end Go.Proofs.Ytbfejakbaijmhaa
