import Derived.Test.YtamnfkfjfelbbaaAbsJxw
import Derived.Test.YtamnfkfjfelbbaaMDxw
import Derived.Test.YtamnfkfjfelbbaaAbs16xw
import Derived.Test.YtamnfkfjfelbbaaAbsIxw
import Derived.Shelf.Sort.Plain
import Derived.Shelf.Slices.In.SortNone
import Derived.Shelf.Abstract
import Derived.Ground.NamesProg
set_option linter.unusedVariables false
set_option linter.unusedSimpArgs false
namespace Go.Q
open Go.RowKit
section
variable {P : Program} {ops : Array Oper} {o : Oper} {σ : St} {q : Bool}
structure Eff where
 d : Nat
 x : Bool × S
 o : Option (Nat × R)
 ch : Bool
 ad : List (Nat × R)
def Eff.run (y : Eff) (σ : St) : St := match y.o with
 | some (id, r) => bif y.ch then ⟨σ.n, (y.d, y.x) :: (σ.pur id).slots, (id, r) :: (σ.pur id).res⟩ else ⟨σ.n, (y.d, y.x) :: σ.slots, (id, r) :: σ.res⟩
 | none => ⟨σ.n, (y.d, y.x) :: σ.slots, addsR y.ad σ.res⟩
def Eff.has (y : Eff) (id : Nat) : Bool := y.x.2.has id || match y.o with | some (j, r) => Nat.beq j id || r.has id | none => y.ad.any fun z => Nat.beq z.1 id || z.2.has id
def LocK (P : Program) (ops : Array Oper) (o : Oper) (σ : St) (y : Eff) : Prop := ∀ σ', Sup σ σ' → (∀ id r, y.o = some (id, r) → y.ch = false → σ'.has id = false) → (y.o = none → ∀ z ∈ y.ad, σ'.has z.1 = false) → Op1 P ops o σ' (y.run σ')
theorem Op1.look {σ' σ2 : St} (h : Op1 P ops o σ σ') (hn : σ2.n = σ'.n) (hs : ∀ i x, look σ2.slots i = some x → look σ'.slots i = some x) (hr : ∀ i x, look σ2.res i = some x → look σ'.res i = some x) : Op1 P ops o σ σ2 := fun w0 a w hr0 K Q hK =>
 h w0 a w hr0 K Q fun a' w' h' => hK a' w' (Rel.of_look h' hn hs hr)
theorem LocK.of {d : Nat} {x : Bool × S} (hd : o.dst = some d) (h : ∀ σ', Sup σ σ' → Op1 P ops o σ' (σ'.put o.dst x)) : LocK P ops o σ ⟨d, x, none, false, []⟩ := fun σ' hs _ _ => by
 have := h σ' hs
 rw [hd] at this
 exact this
theorem LocK.of1 {d id : Nat} {r : R} {x : Bool × S} (hd : o.dst = some d) (h : ∀ σ', Sup σ σ' → σ'.has id = false → Op1 P ops o σ' ((σ'.add id r).put o.dst x)) : LocK P ops o σ ⟨d, x, some (id, r), false, []⟩ := fun σ' hs hf _ => by
 have := h σ' hs (hf id r rfl rfl)
 rw [hd] at this
 exact this
theorem LocK.ofs {d : Nat} {rl : List (Nat × R)} {x : Bool × S} (hd : o.dst = some d) (h : ∀ σ', Sup σ σ' → (∀ z ∈ rl, σ'.has z.1 = false) → Op1 P ops o σ' ((σ'.adds rl).put o.dst x)) : LocK P ops o σ ⟨d, x, none, false, rl⟩ := fun σ' hs _ hf => by
 have := h σ' hs (hf rfl)
 rw [hd, adds_eq] at this
 exact this
inductive Vd (B : Nat → List Nat) (N : Nat) : List Nat → Prop where
 | nil : Vd B N []
 | cons {i : Nat} {π : List Nat} (h : Vd B N π) (hB : ∀ j ∈ B i, j ∈ π) (hi : i ∉ π) (hN : i < N) : Vd B N (i :: π)
theorem Vd.closed {B : Nat → List Nat} {N : Nat} {π : List Nat} (h : Vd B N π) : ∀ b ∈ π, ∀ j ∈ B b, j ∈ π := by
 induction h with
 | nil => intro b hb; cases hb
 | cons h hB hi hN ih =>
  intro b hb j hj
  rcases List.mem_cons.1 hb with rfl | hb
  · exact List.mem_cons_of_mem _ (hB j hj)
  · exact List.mem_cons_of_mem _ (ih b hb j hj)
def chs : Nat → List Eff → List (Nat × Nat)
 | _, [] => []
 | k, y :: r => match y.o with
  | some (id, _) => bif y.ch then (k, id) :: chs (k + 1) r else chs (k + 1) r
  | none => chs (k + 1) r
section
variable {ys : List Eff} {B : Nat → List Nat} {N : Nat}
end
def chOk (B : Nat → List Nat) (C : List (Nat × Nat)) (b : Option Nat) (i : Nat) (h : Nat → Bool) : Bool := C.all fun c => !(h c.2) || (Nat.beq c.1 i || memN (B c.1) i) || (match b with | some b => Nat.beq c.1 b || memN (B b) c.1 | none => false)
def knw (B : Nat → List Nat) (C : List (Nat × Nat)) (M : Nat → Bool) (i : Nat) : Nat → List Eff → St → St
 | k, y :: r, σ => let σ' := knw B C M i (k - 1) r σ
  bif M (k - 1) then ⟨σ'.n, bif chOk B C (some (k - 1)) i (fun j => y.x.2.has j) then (y.d, y.x) :: σ'.slots else σ'.slots, match y.o with | some (id, r) => bif chOk B C (some (k - 1)) i (fun j => Nat.beq id j || r.has j) then (id, r) :: σ'.res else σ'.res | none => addsR (y.ad.filter fun z => chOk B C (some (k - 1)) i fun j => Nat.beq z.1 j || z.2.has j) σ'.res⟩ else σ'
 | _, [], σ => ⟨σ.n, σ.slots.filter fun x => chOk B C none i fun j => x.2.2.has j, σ.res.filter fun x => chOk B C none i fun j => Nat.beq x.1 j || x.2.has j⟩
section
variable {B : Nat → List Nat} {C : List (Nat × Nat)} {M : Nat → Bool} {N : Nat}
def effB (B : Nat → List Nat) (N : Nat) (σ : St) (ys : List Eff) : Bool :=
 ys.all (fun y => (look σ.slots y.d).isNone) && disN (ys.map (·.d)) && disN (σ.slots.map (·.1)) && disN (σ.res.map (·.1)) && ((List.range N).all fun j => !(memN (B j) N)) &&
 (List.range ys.length).all fun i => match ys[i]? with
  | some ⟨_, _, some (id, _), false, _⟩ => !σ.has id && (List.range ys.length).all fun b => Nat.beq b i || (match ys[b]? with | some z => !(z.has id) || memN (B b) i | none => true)
  | some ⟨_, _, none, _, ad⟩ => disN (ad.map (·.1)) && ad.all fun v => !σ.has v.1 && (List.range ys.length).all fun b => Nat.beq b i || (match ys[b]? with | some z => !(z.has v.1) || memN (B b) i | none => true)
  | _ => true
end
def StepsK (P : Program) (ops : Array Oper) (B : Nat → List Nat) (C : List (Nat × Nat)) (ys : List Eff) (σ : St) : Nat → List Oper → List Eff → Prop
 | i, o :: l, y :: r => LocK P ops o (knw B C (memN (B i)) i i (ys.take i).reverse σ) y ∧ StepsK P ops B C ys σ (i + 1) l r
 | _, _, _ => True
theorem StepsK.at {ops : Array Oper} {B : Nat → List Nat} {C : List (Nat × Nat)} {ys : List Eff} {σ : St} : ∀ (l : List Oper) (r : List Eff) (k : Nat), StepsK P ops B C ys σ k l r → ∀ i o y, l[i]? = some o → r[i]? = some y → LocK P ops o (knw B C (memN (B (k + i))) (k + i) (k + i) (ys.take (k + i)).reverse σ) y
 | [], r, k, h, i, o, y, hl, hr => by simp at hl
 | o' :: l, [], k, h, i, o, y, hl, hr => by simp at hr
 | o' :: l, y' :: r, k, h, 0, o, y, hl, hr => by simp at hl hr; subst hl; subst hr; exact h.1
 | o' :: l, y' :: r, k, h, i + 1, o, y, hl, hr => by
  have := StepsK.at l r (k + 1) h.2 i o y (by simpa using hl) (by simpa using hr)
  rwa [show k + 1 + i = k + (i + 1) by omega] at this
structure DrawK (P : Program) (w0 : Base) (Q : Exit → St → Prop) (N : Nat) (B : Nat → List Nat) (C : List (Nat × Nat)) (l : List Oper) (n : Nat) (sl : List (Nat × (Bool × S))) (rs : List (Nat × R)) (acc : List Eff) (k : Nat) (rest : List Oper) : Prop where
 pf : acc.length = k → rest = l.drop k → ∃ more : List Eff, (acc.reverse ++ more).length = N ∧
  StepsK P l.toArray B C (acc.reverse ++ more) ⟨n, sl, rs⟩ k rest more ∧ effB B N ⟨n, sl, rs⟩ (acc.reverse ++ more) = true ∧ chs 0 (acc.reverse ++ more) = C ∧
  AWl P w0 l.toArray Q (l.drop N) (knw B C (fun _ => true) N N (acc.reverse ++ more).reverse ⟨n, sl, rs⟩)
variable {w0 : Base} {Q : Exit → St → Prop} {N : Nat} {B : Nat → List Nat} {C : List (Nat × Nat)} {l : List Oper} {n : Nat} {sl : List (Nat × (Bool × S))} {rs : List (Nat × R)} {acc : List Eff} {k : Nat} {rest : List Oper}
theorem DrawK.step {y : Eff} (hl : LocK P l.toArray o (knw B C (memN (B k)) k k acc ⟨n, sl, rs⟩) y) (h : DrawK P w0 Q N B C l n sl rs (y :: acc) (k + 1) rest) : DrawK P w0 Q N B C l n sl rs acc k (o :: rest) := ⟨fun ha hr => by
 have hd : rest = l.drop (k + 1) := by
  have := congrArg (List.drop 1) hr
  simpa using this
 obtain ⟨more, h1, h2, h3, h4, h5⟩ := h.pf (by simp [ha]) hd
 have e : (y :: acc).reverse ++ more = acc.reverse ++ (y :: more) := by simp
 rw [e] at h1 h2 h3 h4 h5
 refine ⟨y :: more, h1, ⟨?_, h2⟩, h3, h4, h5⟩
 have : ((acc.reverse ++ (y :: more)).take k).reverse = acc := by
  rw [List.take_append_of_le_length (by simp [ha]), List.take_of_length_le (by simp [ha]), List.reverse_reverse]
 rw [this]
 exact hl⟩
theorem DrawK.fin (hk : Nat.beq k N = true) (hU : effB B N ⟨n, sl, rs⟩ acc.reverse = true) (hC : chs 0 acc.reverse = C) (h : AWl P w0 l.toArray Q rest (knw B C (fun _ => true) N k acc ⟨n, sl, rs⟩)) : DrawK P w0 Q N B C l n sl rs acc k rest := ⟨fun ha hr => by
 have hk' := Nat.eq_of_beq_eq_true hk
 subst hk'
 refine ⟨[], by simp [ha], by unfold StepsK; split <;> first | trivial | (rename_i h; cases h), by rw [List.append_nil]; exact hU, by rw [List.append_nil]; exact hC, ?_⟩
 rw [List.append_nil, List.reverse_reverse, ← hr]
 exact h⟩
end
end Go.Q
namespace Go.Q
end Go.Q
namespace Go.Proofs.Ytamnfkfjfelbbaa
open Go.RowKit Go.Q Go.D
end Go.Proofs.Ytamnfkfjfelbbaa
namespace Go.Q
open Go.D
def areCosts (l : List Int) : Bool := (l.all fun n => inB n 0 9) && decide (l.length = 6)
end Go.Q
namespace Go.Proofs.Ytamnfkfjfelbbaa
open Go.RowKit Go.Q Go.D
set_option maxRecDepth 100000 in
theorem implwithin (n a b : Int) : FnT Try.prog 31 [.one (.v (.int .i64 n)), .one (.v (.int .i64 a)), .one (.v (.int .i64 b))] (.a (.one (.v (.bool (inB n a b))))) := by
 refine FnT.walk Try.func31 U (by kernel_rfl) Try.ntmps31 U fun hlen w0 => ?_
 try simp [cPair, cToken, cExpr, cEdge, cGraph, cStep, cWalk, cChange, cBatch, cHistory, cPositions, cAutomaton, cProductStep, cPathAtom, cConjunction, cView, cDelta, cRegistered, cRegistry] at hlen
 refine AW.sr ?_
 refine AWl.ac ?_
 refine AWl.nil (AW.sr ?_)
 refine AWl.mv ?_
 refine AWl.mv ?_
 refine AWl.p (R_ge U (.no U) U (.tm U) (.tm U)) U ?_
 refine AWl.mv ?_
 refine AWl.p (R_move U (by exact .yes1 U U U U) U (.tmp U (by exact fun _ => rfl))) U ?_
 refine AWl.p (R_move U (by exact .yes1 U U U U) U (.tmp U (by exact fun _ => rfl))) U ?_
 refine AWl.p (R_le U (by exact .yes1 U U U U) U (.tmp U (by exact id)) (.tmp U (by exact id))) U ?_
 refine AWl.p (R_and U (.no U) U (.tm U) (.tmp U (by exact id))) U ?_
 refine AWl.av ?_
 refine AWl.nil (AW.ret ?_)
 refine Res.v U U ?_
 rfl
set_option maxRecDepth 100000 in
theorem specl1In (n a b : Int) : FnT Try.prog 22 [.one (.v (.int .i64 n)), .one (.v (.int .i64 a)), .one (.v (.int .i64 b))] (.a (.one (.v (.bool (inB n a b))))) := by
 refine FnT.walk Try.func22 U (by kernel_rfl) Try.ntmps22 U fun hlen w0 => ?_
 try simp [cPair, cToken, cExpr, cEdge, cGraph, cStep, cWalk, cChange, cBatch, cHistory, cPositions, cAutomaton, cProductStep, cPathAtom, cConjunction, cView, cDelta, cRegistered, cRegistry] at hlen
 refine AW.sr ?_
 refine AWl.ac ?_
 refine AWl.nil (AW.sr ?_)
 refine AWl.mv ?_
 refine AWl.mv ?_
 refine AWl.p (R_ge U (.no U) U (.tm U) (.tm U)) U ?_
 refine AWl.mv ?_
 refine AWl.p (R_move U (by exact .yes1 U U U U) U (.tmp U (by exact fun _ => rfl))) U ?_
 refine AWl.p (R_move U (by exact .yes1 U U U U) U (.tmp U (by exact fun _ => rfl))) U ?_
 refine AWl.p (R_le U (by exact .yes1 U U U U) U (.tmp U (by exact id)) (.tmp U (by exact id))) U ?_
 refine AWl.p (R_and U (.no U) U (.tm U) (.tmp U (by exact id))) U ?_
 refine AWl.av ?_
 refine AWl.nil (AW.ret ?_)
 refine Res.v U U ?_
 rfl
set_option maxRecDepth 100000 in
theorem implisLetter (n : Int) : FnT Try.prog 83 [.one (.v (.int .i64 n))] (.a (.one (.v (.bool (inB n 0 8))))) := by
 refine FnT.walk Try.func83 U (by kernel_rfl) Try.ntmps83 U fun hlen w0 => ?_
 try simp [cPair, cToken, cExpr, cEdge, cGraph, cStep, cWalk, cChange, cBatch, cHistory, cPositions, cAutomaton, cProductStep, cPathAtom, cConjunction, cView, cDelta, cRegistered, cRegistry] at hlen
 refine AW.sr ?_
 refine AWl.ac ?_
 refine AWl.nil (AW.sr ?_)
 refine AWl.mv ?_
 refine AWl.p (R_callz (FnT.fr (implwithin _ _ _)) U (.no U) U (.cons (.tm U) U (.cons (.const U) U (.cons (.const U) U .nil)))) U ?_
 refine AWl.av ?_
 refine AWl.nil (AW.ret ?_)
 refine Res.v U U ?_
 rfl
end Go.Proofs.Ytamnfkfjfelbbaa
set_option maxHeartbeats 1000000
set_option maxRecDepth 100000
namespace Go.Q
open Go.D
structure SO {α : Type} (lt : α → α → Bool) : Prop where
 irr : ∀ x, lt x x = false
 tra : ∀ x y z, lt x y = true → lt y z = true → lt x z = true
 tri : ∀ x y, lt x y = true ∨ x = y ∨ lt y x = true
section
variable {α : Type} {lt : α → α → Bool}
end
section
variable {α : Type} [DecidableEq α] {lt : α → α → Bool}
end
instance : Inhabited TPair := ⟨⟨0, 0⟩⟩
end Go.Q
namespace Go.Q
open Go.D
end Go.Q
namespace Go.Proofs.Ytamnfkfjfelbbaa
open Go.RowKit Go.Q Go.D
end Go.Proofs.Ytamnfkfjfelbbaa
set_option maxHeartbeats 1000000
set_option maxRecDepth 100000
namespace Go.Q
open Go.D
theorem nodup_le {α : Type} [DecidableEq α] : ∀ {l r : List α}, l.Nodup → (∀ x ∈ l, x ∈ r) → l.length ≤ r.length
 | [], _, _, _ => Nat.zero_le _
 | a :: l, r, h, hs => by
  have h2 := List.nodup_cons.1 h
  have ha := hs a (by simp)
  have := nodup_le (l := l) (r := r.erase a) h2.2 fun x hx => (List.mem_erase_of_ne (fun e => h2.1 (by rw [← e]; exact hx))).2 (hs x (by simp [hx]))
  rw [List.length_erase_of_mem ha] at this
  have hp := List.length_pos_of_mem ha
  simp only [List.length_cons]; omega
theorem drop_more {α : Type} {l r : List α} {m m' : Nat} (h : r.drop m = l.drop m) (hm : m ≤ m') : r.drop m' = l.drop m' := by
 have : m' = m + (m' - m) := by omega
 rw [this, ← List.drop_drop, ← List.drop_drop, h]
theorem cut_rows {α : Type} {c : α → List T} {R l : List α} {k : Nat} {z : List (List T)} (h : R.take k = l) (hk : k ≤ R.length) : ((R.map c).take k ++ z).take k = l.map c := by
 rw [List.take_append_of_le_length (by simp; omega), List.take_take, Nat.min_self, ← List.map_take, h]
theorem drop_get {α : Type} {l r : List α} {m i : Nat} (h : r.drop m = l.drop m) (hi : m ≤ i) : r[i]? = l[i]? := by
 have e1 : r[i]? = (r.drop m)[i - m]? := by rw [List.getElem?_drop]; congr 1; omega
 have e2 : l[i]? = (l.drop m)[i - m]? := by rw [List.getElem?_drop]; congr 1; omega
 rw [e1, e2, h]
theorem set_take {α : Type} {r : List α} {k : Nat} {x : α} (h : k < r.length) : (r.set k x).take (k + 1) = r.take k ++ [x] := by
 rw [take_at (l := r.set k x) (i := k) (x := x) (by rw [List.getElem?_set_self h]), List.take_set_of_le (Nat.le_refl _)]
theorem set_drop {α : Type} {r : List α} {k m : Nat} {x : α} (h : k < m) : (r.set k x).drop m = r.drop m := by
 rw [List.drop_set, if_pos h]
theorem filter_take {α : Type} {p : α → Bool} {l : List α} {k : Nat} {x : α} (h : l[k]? = some x) : (l.take (k + 1)).filter p = (l.take k).filter p ++ if p x then [x] else [] := by
 rw [take_at h, List.filter_append]
 cases hp : p x <;> simp [hp]
theorem findI_spec {α : Type} (p : α → Bool) : ∀ (l : List α) (m : Nat), (findI p l m = -1 ∧ ∀ x ∈ l, p x = false) ∨ ∃ (k : Nat) (x : α), l[k]? = some x ∧ p x = true ∧ findI p l m = ((m + k : Nat) : Int) ∧ ∀ y ∈ l.take k, p y = false
 | [], m => .inl ⟨rfl, by simp⟩
 | z :: l, m => by
  rw [findI]
  cases hz : p z with
  | true => exact .inr ⟨0, z, rfl, hz, by simp, by simp⟩
  | false =>
   rw [if_neg (by simp)]
   rcases findI_spec p l (m + 1) with ⟨h1, h2⟩ | ⟨k, x, h1, h2, h3, h4⟩
   · refine .inl ⟨h1, fun x hx => ?_⟩
     rcases List.mem_cons.1 hx with rfl | hx
     · exact hz
     · exact h2 x hx
   · refine .inr ⟨k + 1, x, by simpa using h1, h2, by rw [h3]; omega, fun y hy => ?_⟩
     rw [List.take_succ_cons] at hy
     rcases List.mem_cons.1 hy with rfl | hy
     · exact hz
     · exact h4 y hy
theorem filter_none {α : Type} {p : α → Bool} {l : List α} (h : ∀ x ∈ l, p x = false) : (l.filter fun x => !p x) = l := List.filter_eq_self.2 fun x hx => by rw [h x hx]; rfl
end Go.Q
namespace Go.Proofs.Ytamnfkfjfelbbaa
open Go.RowKit Go.Q Go.D
end Go.Proofs.Ytamnfkfjfelbbaa
namespace Go.Q
open Go.RowKit Go.Sort Go.Proofs
section
variable {P : Program}
def FnS1 (P : Program) (f : FuncId) (k : Nat) (rows rows' : List (List T)) : Prop :=
 Callee P f ∧ ∀ w v F, Good w F → C true w (.sl k rows) v F → F.Nodup → (∀ b ∈ F, Thaw w b) → Calls P f (List.toArray [v]) w fun e w' => e = .returned (.tuple #[]) ∧ Chg w w' F ∧ ∃ F', C true w' (.sl k rows') v F' ∧ F'.Nodup ∧ ∀ b ∈ F', b ∈ F ∧ Thaw w' b
theorem heap_mapB {w : World} {blk : Nat} {f : Array Value → Array Value} {c : Array Value} {e : TypeId} {fr : Nat × Nat} (hb : w.heap[blk]? = some (.cells c e fr)) : (mapBlock w blk f).heap[blk]? = some (.cells (f c) e fr) := by
 unfold mapBlock
 show (w.heap.modify blk (onCells f))[blk]? = _
 rw [Array.getElem?_modify, if_pos rfl, hb]
 rfl
theorem heap_mapB_other {w : World} {blk b : Nat} {f : Array Value → Array Value} (h : b ≠ blk) : (mapBlock w blk f).heap[b]? = w.heap[b]? := by
 unfold mapBlock
 show (w.heap.modify blk (onCells f))[b]? = _
 rw [Array.getElem?_modify, if_neg (fun e => h e.symm)]
theorem FnS1.ints {f : FuncId} {c : Int → List T} (hcallee : Callee P f) (hc : ∀ x, c x = [.v (.int .i64 x)]) (S : List Int → List Int) (hS : ∀ l, (S l).length = l.length)
 (hnone : ∀ p cap w, Calls P f #[.slice p 0 cap] w fun e w' => e = .returned (.tuple #[]) ∧ w' = w)
 (hsome : ∀ (blk cap : Nat) (zs : List Int) (w : World), Holds (Value.int .i64) w blk 0 zs.toArray → blk < w.heap.size → zs.length < 4611686018427387904 → Calls P f #[.slice (some ⟨blk, 0, none⟩) zs.length cap] w fun e w' => e = .returned (.tuple #[]) ∧ ∃ n os, w' = grow (putRow (Value.int .i64) (Sort.ahead w n) blk 0 (S zs).toArray) os)
 (l : List Int) (hl : l.length < 4611686018427387904) : FnS1 P f 1 (l.map c) ((S l).map c) := ⟨hcallee, fun w v F _ hC hnd hth => by
 have hcm : ∀ m : List Int, (m.map c).flatten = (m.map (Value.int .i64)).map T.v := fun m => by
  induction m with
  | nil => rfl
  | cons x m ih => rw [List.map_cons, List.flatten_cons, ih, hc]; rfl
 have hrow : ∀ m : List Int, ∀ r ∈ m.map c, r.length = 1 := fun m r hr => by
  obtain ⟨x, _, rfl⟩ := List.mem_map.1 hr
  rw [hc]; rfl
 have hCc := hC
 simp only [C] at hCc
 obtain ⟨a0, n0, m0, rfl, _⟩ := hCc
 obtain ⟨e1, e2, e3⟩ := hC.hdr
 rw [List.length_map] at e1
 rcases hC.blk with ⟨q1, q2, q3⟩ | ⟨g, G, cur, e', rfl, rfl, q3, q4, q5⟩
 · have hl0 : l = [] := by simpa using q3
   subst hl0
   have hS0 : S [] = [] := List.eq_nil_of_length_eq_zero (by rw [hS]; rfl)
   subst e1
   refine (hnone a0 m0 w).mono fun e w' ⟨h1, h2⟩ => ?_
   subst h2
   rw [hS0]
   exact ⟨h1, Chg.refl _ _, F, hC, hnd, fun b hb => ⟨hb, hth b hb⟩⟩
 · obtain ⟨s1, xs, s2, s3, s4⟩ := q5.flat
   rw [hcm] at s2
   simp only [Nat.zero_add] at s4
   have hval : ∀ m : List Int, (m.map (Value.int .i64)).all Value.oneCell' = true := fun m => by
    rw [List.all_eq_true]
    intro v hv
    obtain ⟨x, _, rfl⟩ := List.mem_map.1 hv
    rfl
   have hG : G = [] ∧ xs = l.map (Value.int .i64) := by
    have key : ∀ (vs : List Value) {cs : List Value} {G : List Nat}, Cs true w (vs.map T.v) cs G → G = [] ∧ cs = vs := by
     intro vs
     induction vs with
     | nil => intro cs G h; simp only [List.map_nil, Cs] at h; exact ⟨h.2, h.1⟩
     | cons v vs ih =>
      intro cs G h
      simp only [List.map_cons, Cs] at h
      obtain ⟨c1, cr, G1, G2, rfl, h2, h3, rfl⟩ := h
      simp only [C] at h2
      obtain ⟨rfl, rfl, _⟩ := h2
      obtain ⟨rfl, rfl⟩ := ih h3
      exact ⟨rfl, rfl⟩
    exact key _ s2
   obtain ⟨rfl, rfl⟩ := hG
   have hglt : g < w.heap.size := (Array.getElem?_eq_some_iff.1 q3).1
   have hH : Holds (Value.int .i64) w g 0 l.toArray := fun j hj => by
    rw [List.size_toArray] at hj
    rw [Nat.zero_add]
    refine ⟨?_, by simp [World.frozen?, q3]⟩
    rw [s4 j _ (show (l.map (Value.int .i64))[j]? = some (.int .i64 l[j]) by rw [List.getElem?_map, List.getElem?_eq_getElem hj]; rfl)]
    simp [hj]
   have hcall := hsome g m0 l w hH hglt hl
   rw [e1] at hcall
   refine hcall.mono fun e w' hR => ?_
   obtain ⟨rfl, n, os, rfl⟩ := hR
   have hsl := hS l
   generalize hd' : (S l).toArray = d'
   have hd's : d'.size = l.length := by rw [← hd']; simpa using hsl
   have hw1 : (grow (putRow (Value.int .i64) (Sort.ahead w n) g 0 d') os).heap[g]? = some (.cells (putCells (Value.int .i64) 0 d' cur) e' (0, 0)) := by
    unfold grow putRow
    show ((mapBlock (Go.Sort.ahead w n) g _).heap ++ os)[g]? = _
    have hm := heap_mapB (w := Go.Sort.ahead w n) (f := putCells (Value.int .i64) 0 d') q3
    rw [Array.getElem?_append_left (Array.getElem?_eq_some_iff.1 hm).1]
    exact hm
   have hw2 : ∀ b, b < w.heap.size → b ≠ g → (grow (putRow (Value.int .i64) (Sort.ahead w n) g 0 d') os).heap[b]? = w.heap[b]? := fun b hb hne => by
    unfold grow putRow
    show ((mapBlock (Go.Sort.ahead w n) g _).heap ++ os)[b]? = _
    have hm := heap_mapB_other (w := Go.Sort.ahead w n) (f := putCells (Value.int .i64) 0 d') hne
    have hb' : b < (mapBlock (Go.Sort.ahead w n) g (putCells (Value.int .i64) 0 d')).heap.size := heap_lt hm hb
    rw [Array.getElem?_append_left hb']
    exact hm
   have hsz : (putCells (Value.int .i64) 0 d' cur).size = m0 * 1 := by unfold putCells; simp [q4]
   have hch : Chg w (grow (putRow (Value.int .i64) (Sort.ahead w n) g 0 d') os) [g] := ⟨rfl, rfl, rfl, by rw [Go.Sort.size_grow, Go.Sort.size_putRow]; exact Nat.le_add_right _ _, fun b hb hn => hw2 b hb (by simpa using hn)⟩
   refine ⟨rfl, hch, [g], ?_, by simp, fun b hb => ?_⟩
   · unfold C
     refine ⟨_, _, _, rfl, by rw [List.length_map, hsl, e1], e2, e3, .inr ⟨g, 0, [], rfl, rfl, (Array.getElem?_eq_some_iff.1 hw1).1, fun _ => ⟨rfl, _, e', hw1, hsz⟩, Rws.of (xs := (S l).map (Value.int .i64)) (hrow _) ?_ fun j u hj => ?_⟩⟩
     · rw [hcm]; exact Cs_vals (hval _)
     · have hjl : j < l.length := by have := (List.getElem?_eq_some_iff.1 hj).1; rw [List.length_map, hsl] at this; exact this
       have hjc : j < cur.size := by rw [q4]; omega
       rw [List.getElem?_map, List.getElem?_eq_getElem (by rw [hsl]; exact hjl)] at hj
       cases hj
       simp only [World.cell?, hw1, Nat.zero_add]
       unfold putCells
       rw [Array.getElem?_mapIdx, Array.getElem?_eq_getElem hjc]
       simp [hd's, hjl, ← hd', hsl]
   · simp only [List.mem_singleton] at hb
     subst hb
     exact ⟨by simp, .inl _, _, hw1⟩⟩
end
end Go.Q
