/- Trees and their tokens; which expressions are valid: both texts. -/
import Derived.Test.YtoealglkenhphaaGreatDoorTrxa
import Derived.Test.YtoealglkenhphaaGreatDoorAbsJxa
set_option linter.unusedVariables false
set_option linter.unusedSimpArgs false
set_option maxHeartbeats 1000000
set_option maxRecDepth 100000
namespace Go.Q
open Go.RowKit Go.D
theorem arity_nk {t : TToken} (h : tokOk t = true) : arity t = nk t.Kind := by
  unfold tokOk at h
  unfold arity at h ⊢
  unfold nk
  have h := of_decide_eq_true h
  repeat' split
  all_goals first | rfl | omega | skip
  all_goals simp_all
theorem nk_cases (k : Int) : nk k = 0 ∨ nk k = 1 ∨ nk k = 2 := by
  unfold nk
  split
  · exact .inr (.inr rfl)
  · split
    · exact .inr (.inl rfl)
    · exact .inl rfl
theorem stepTr_some {ts : List Tr} {t : TToken} (h : tokOk t = true) (hn : nk t.Kind ≤ ts.length) : ∃ ts', stepTr ts t = some ts' ∧ ts'.length = ts.length - nk t.Kind + 1 := by
  unfold stepTr
  rw [if_neg (by simp [h]; omega)]
  have hl : (ts.drop (ts.length - nk t.Kind)).length = nk t.Kind := by rw [List.length_drop]; omega
  generalize ts.drop (ts.length - nk t.Kind) = r at hl
  have h3 := nk_cases t.Kind
  generalize nk t.Kind = n at *
  match n, r, hl with
  | 0, _, _ => exact ⟨_, rfl, by simp⟩
  | 1, [x], _ => exact ⟨_, rfl, by simp⟩
  | 2, [x, y], _ => exact ⟨_, rfl, by simp⟩
  | n + 3, _, _ => omega
theorem depth_run (l : List TToken) : ∀ ts : List Tr, depthGo ts.length l = match runTr ts l with | some [_] => true | _ => false := by
  induction l with
  | nil =>
    intro ts
    match ts with
    | [] => rfl
    | [_] => rfl
    | _ :: _ :: _ => simp [depthGo, runTr]; omega
  | cons t r ih =>
    intro ts
    rw [depthGo, runTr]
    by_cases h : tokOk t = true
    · have ha := arity_nk h
      by_cases hn : nk t.Kind ≤ ts.length
      · obtain ⟨ts', h1, h2⟩ := stepTr_some h hn
        rw [if_neg (by omega), h1]
        have e : (ts.length : Int) - arity t + 1 = ts'.length := by omega
        rw [e]
        exact ih ts'
      · have : stepTr ts t = none := by unfold stepTr; rw [if_pos (.inr (by omega))]
        rw [if_pos (.inr (by omega)), this]
    · have : stepTr ts t = none := by unfold stepTr; rw [if_pos (.inl (by simpa using h))]
      have ha : arity t < 0 := by simpa [tokOk] using h
      rw [if_pos (.inl ha), this]
theorem isExpr_tree (l : List TToken) : isExpr l = (treeM l).isSome := by
  have h := depth_run l []
  unfold isExpr treeM
  have e : depthGo 0 l = depthGo ([] : List Tr).length l := rfl
  rw [e, h]
  cases runTr [] l with
  | none => rfl
  | some v => match v with
    | [] => rfl
    | [_] => rfl
    | _ :: _ :: _ => rfl
def isValidExpr (x : TExpr) : Bool := decide (x.Tokens.length ≤ 24) && isExpr x.Tokens
def good : Tr → Prop
  | .leaf t => arity t = 0
  | .un t x => arity t = 1 ∧ good x
  | .bin t x y => arity t = 2 ∧ good x ∧ good y
/-- Whether the pointer is nil. -/
inductive NilB : T → Bool → Prop where
  | ad {cs : List T} : NilB (.ad cs) false
  | nil : NilB (.v (.pointer none)) true
theorem NilB.tree (l : List TToken) : NilB (treeV l) (!isExpr l) := by
  rw [isExpr_tree]
  unfold treeV
  cases treeM l with
  | none => exact .nil
  | some x => exact .ad
section
variable {P : Program} {ops : Array Oper} {o : Oper} {σ : St} {q : Bool}
theorem NilB.val {I : Ip} {w : World} {x : T} {b : Bool} (h : NilB x b) {v : Value} (hv : VE I w (.t x) v) : ∃ p, v = .pointer p ∧ p.isNone = b := by
  obtain ⟨G, h1, _⟩ := hv
  cases h with
  | ad => simp only [C] at h1; obtain ⟨b, off, G', rfl, _⟩ := h1; exact ⟨_, rfl, rfl⟩
  | nil => simp only [C] at h1; exact ⟨_, h1.1, rfl⟩
theorem guard_ptr {op : BinOp} {t : TypeId} {x y : Operand} {p r : Option Addr} (w : World) : (eqGuard op t x y (.pointer p) (.pointer r)).run P w = .ok () w := by
  unfold eqGuard; split <;> rfl
theorem R_nenil {t t' : TypeId} {x y : Operand} {T0 : T} {b : Bool} (ho : o.op = .binOp .neq t x y t') (hg : Grd ops o σ q) (hd : o.dst.all (fun d => Nat.blt d σ.n) = true) (hx : Get σ q x (.one (.t T0))) (hy : Get σ q y (.one (.t (.v (.pointer none))))) (hb : NilB T0 b) (hu : P.underlying t = some (.pointer (P.pointee t))) :
    Op1 P ops o σ (σ.put o.dst (q, .a (.one (.t (.v (.bool !b)))))) :=
  .val hg hd fun I w0 a w hr hq => by
    obtain ⟨p, h1, h2⟩ := hb.val (hx.va hr hq)
    refine ⟨.bool !b, ?_, VS_v _⟩
    have h3 := hy.int hr hq
    simp [execOp, ho, h1, h3, guard_ptr, run_neq_pointer_nil w t p hu, h2]
end
end Go.Q
namespace Go.Proofs.YtoealglkenhphaaGreatDoor
open Go.RowKit Go.Q Go.D
theorem implIsExpr (e : TExpr) (hz : e.Tokens.length ≤ 1048576) : FnT Tryz.prog 81 [.agg (cExpr e)] (.a (.one (.v (.bool (isExpr e.Tokens))))) := by
  refine FnT.walk Tryz.func81 rfl (by kernel_rfl) Tryz.ntmps81 rfl fun hlen w0 => ?_
  try simp [cPair, cToken, cExpr, cEdge, cGraph, cStep, cWalk, cChange, cBatch, cHistory, cPositions, cAutomaton, cProductStep, cPathAtom, cConjunction, cView, cDelta, cRegistered, cRegistry] at hlen
  refine AW.seq ?_
  refine AW.region ?_
  refine AWl.put (R_boxz rfl rfl rfl (.tmp rfl fun _ => rfl) (ts := _) (by first | rfl | exact cells_t1 _ | exact cells_t2 _)) rfl ?_
  refine AWl.put (R_assign rfl (.no rfl) rfl (.const rfl)) rfl ?_
  refine AWl.nil ?_
  refine AW.seq ?_
  refine AW.region ?_
  refine AWl.put ((by first | exact R_load rfl (.no rfl) rfl (.tmp rfl fun _ => rfl) ty34 rfl rfl | exact R_load_pp rfl (.no rfl) rfl (.tmp rfl fun _ => rfl) rfl ty34 rfl rfl | exact R_load_vw rfl (.no rfl) rfl (.tmp rfl fun _ => rfl) ty34 rfl rfl | exact R_load_pr rfl (.no rfl) rfl (.tmp rfl fun _ => rfl) rfl (by first | assumption | exact map_get (by assumption)) ty34 rfl rfl)) rfl ?_
  refine AWl.put (R_callz (impltreeOf _ hz) rfl (.no rfl) rfl (.cons (.tmp rfl fun _ => rfl) rfl .nil)) rfl ?_
  refine AWl.put (R_nenil rfl (.no rfl) rfl (.tmp rfl fun _ => rfl) (.const rfl) (NilB.tree _) Tryz.underlying119) rfl ?_
  refine AWl.put (R_assign rfl (.no rfl) rfl (.tmp rfl fun _ => rfl)) rfl ?_
  refine AWl.nil ?_
  refine AW.ret ?_
  refine Res.v rfl rfl ?_
  simp
theorem specIsValidExpr (e : TExpr) : FnT Tryz.prog 21 [.agg (cExpr e)] (.a (.one (.v (.bool (isValidExpr e))))) := by
  refine FnT.walk Tryz.func21 rfl (by kernel_rfl) Tryz.ntmps21 rfl fun hlen w0 => ?_
  try simp [cPair, cToken, cExpr, cEdge, cGraph, cStep, cWalk, cChange, cBatch, cHistory, cPositions, cAutomaton, cProductStep, cPathAtom, cConjunction, cView, cDelta, cRegistered, cRegistry] at hlen
  refine AW.seq ?_
  refine AW.region ?_
  refine AWl.put (R_boxz rfl rfl rfl (.tmp rfl fun _ => rfl) (ts := _) (by first | rfl | exact cells_t1 _ | exact cells_t2 _)) rfl ?_
  refine AWl.put (R_assign rfl (.no rfl) rfl (.const rfl)) rfl ?_
  refine AWl.nil ?_
  refine AW.seq ?_
  refine AW.region ?_
  refine AWl.put ((by first | exact R_fieldAddr rfl (.no rfl) rfl (.tmp rfl fun _ => rfl) fl34_0 | exact R_fieldAddr_pp rfl (.no rfl) rfl (.tmp rfl fun _ => rfl) fl34_0 | exact R_fieldAddr_vw rfl (.no rfl) rfl (.tmp rfl fun _ => rfl) fl34_0 | exact R_fieldAddr_pr rfl (.no rfl) rfl (.tmp rfl fun _ => rfl) fl34_0)) rfl ?_
  refine AWl.put ((by first | exact R_load rfl (.no rfl) rfl (.tmp rfl fun _ => rfl) ty32 rfl rfl | exact R_load_pp rfl (.no rfl) rfl (.tmp rfl fun _ => rfl) rfl ty32 rfl rfl | exact R_load_vw rfl (.no rfl) rfl (.tmp rfl fun _ => rfl) ty32 rfl rfl | exact R_load_pr rfl (.no rfl) rfl (.tmp rfl fun _ => rfl) rfl (by first | assumption | exact map_get (by assumption)) ty32 rfl rfl)) rfl ?_
  refine AWl.put ((by first | exact R_lenm rfl (.no rfl) rfl (.tmp rfl fun _ => rfl) (by first | exact .t | exact .rf rfl | exact .vw | exact .nil) Tryz.underlying32 | exact R_len rfl (.no rfl) rfl (.tmp rfl fun _ => rfl) (by first | exact .t | exact .rf rfl | exact .vw | exact .nil) Tryz.underlying32)) rfl ?_
  refine AWl.put (R_le rfl (.no rfl) rfl (.tmp rfl fun _ => rfl) (.const rfl)) rfl ?_
  refine AWl.put (R_move rfl (.no rfl) rfl (.tmp rfl fun _ => rfl)) rfl ?_
  refine AWl.put ((by first | exact R_load rfl (by first | exact .yes1 rfl rfl rfl rfl | exact .yes rfl rfl rfl rfl) rfl (.tmp rfl (by first | exact fun _ => rfl | exact id | simp)) ty34 rfl rfl | exact R_load_pp rfl (by first | exact .yes1 rfl rfl rfl rfl | exact .yes rfl rfl rfl rfl) rfl (.tmp rfl (by first | exact fun _ => rfl | exact id | simp)) rfl ty34 rfl rfl | exact R_load_vw rfl (by first | exact .yes1 rfl rfl rfl rfl | exact .yes rfl rfl rfl rfl) rfl (.tmp rfl (by first | exact fun _ => rfl | exact id | simp)) ty34 rfl rfl | exact R_load_pr rfl (by first | exact .yes1 rfl rfl rfl rfl | exact .yes rfl rfl rfl rfl) rfl (.tmp rfl (by first | exact fun _ => rfl | exact id | simp)) rfl (by first | assumption | exact map_get (by assumption)) ty34 rfl rfl)) rfl ?_
  refine AWl.put (R_callq rfl (by first | exact .yes1 rfl rfl rfl rfl | exact .yes rfl rfl rfl rfl) rfl (.cons (.tmp rfl (by first | exact fun _ => rfl | exact id | simp)) rfl .nil) fun hq => FnT.fr (specIsExpr _ (by have h24 := of_decide_eq_true hq; omega))) rfl ?_
  refine AWl.put (R_and rfl (.no rfl) rfl (.tmp rfl fun _ => rfl) (.tmp rfl (by first | exact fun _ => rfl | exact id | simp))) rfl ?_
  refine AWl.put (R_assign rfl (.no rfl) rfl (.tmp rfl fun _ => rfl)) rfl ?_
  refine AWl.nil ?_
  refine AW.ret ?_
  refine Res.v rfl rfl ?_
  congr 1; unfold isValidExpr; congr 1; apply decide_eq_decide.2; omega
theorem implIsValidExpr (e : TExpr) : FnT Tryz.prog 51 [.agg (cExpr e)] (.a (.one (.v (.bool (isValidExpr e))))) := by
  refine FnT.walk Tryz.func51 rfl (by kernel_rfl) Tryz.ntmps51 rfl fun hlen w0 => ?_
  try simp [cPair, cToken, cExpr, cEdge, cGraph, cStep, cWalk, cChange, cBatch, cHistory, cPositions, cAutomaton, cProductStep, cPathAtom, cConjunction, cView, cDelta, cRegistered, cRegistry] at hlen
  refine AW.seq ?_
  refine AW.region ?_
  refine AWl.put (R_boxz rfl rfl rfl (.tmp rfl fun _ => rfl) (ts := _) (by first | rfl | exact cells_t1 _ | exact cells_t2 _)) rfl ?_
  refine AWl.put (R_assign rfl (.no rfl) rfl (.const rfl)) rfl ?_
  refine AWl.nil ?_
  refine AW.seq ?_
  refine AW.region ?_
  refine AWl.put ((by first | exact R_fieldAddr rfl (.no rfl) rfl (.tmp rfl fun _ => rfl) fl34_0 | exact R_fieldAddr_pp rfl (.no rfl) rfl (.tmp rfl fun _ => rfl) fl34_0 | exact R_fieldAddr_vw rfl (.no rfl) rfl (.tmp rfl fun _ => rfl) fl34_0 | exact R_fieldAddr_pr rfl (.no rfl) rfl (.tmp rfl fun _ => rfl) fl34_0)) rfl ?_
  refine AWl.put ((by first | exact R_load rfl (.no rfl) rfl (.tmp rfl fun _ => rfl) ty32 rfl rfl | exact R_load_pp rfl (.no rfl) rfl (.tmp rfl fun _ => rfl) rfl ty32 rfl rfl | exact R_load_vw rfl (.no rfl) rfl (.tmp rfl fun _ => rfl) ty32 rfl rfl | exact R_load_pr rfl (.no rfl) rfl (.tmp rfl fun _ => rfl) rfl (by first | assumption | exact map_get (by assumption)) ty32 rfl rfl)) rfl ?_
  refine AWl.put ((by first | exact R_lenm rfl (.no rfl) rfl (.tmp rfl fun _ => rfl) (by first | exact .t | exact .rf rfl | exact .vw | exact .nil) Tryz.underlying32 | exact R_len rfl (.no rfl) rfl (.tmp rfl fun _ => rfl) (by first | exact .t | exact .rf rfl | exact .vw | exact .nil) Tryz.underlying32)) rfl ?_
  refine AWl.put (R_le rfl (.no rfl) rfl (.tmp rfl fun _ => rfl) (.const rfl)) rfl ?_
  refine AWl.put (R_move rfl (.no rfl) rfl (.tmp rfl fun _ => rfl)) rfl ?_
  refine AWl.put ((by first | exact R_load rfl (by first | exact .yes1 rfl rfl rfl rfl | exact .yes rfl rfl rfl rfl) rfl (.tmp rfl (by first | exact fun _ => rfl | exact id | simp)) ty34 rfl rfl | exact R_load_pp rfl (by first | exact .yes1 rfl rfl rfl rfl | exact .yes rfl rfl rfl rfl) rfl (.tmp rfl (by first | exact fun _ => rfl | exact id | simp)) rfl ty34 rfl rfl | exact R_load_vw rfl (by first | exact .yes1 rfl rfl rfl rfl | exact .yes rfl rfl rfl rfl) rfl (.tmp rfl (by first | exact fun _ => rfl | exact id | simp)) ty34 rfl rfl | exact R_load_pr rfl (by first | exact .yes1 rfl rfl rfl rfl | exact .yes rfl rfl rfl rfl) rfl (.tmp rfl (by first | exact fun _ => rfl | exact id | simp)) rfl (by first | assumption | exact map_get (by assumption)) ty34 rfl rfl)) rfl ?_
  refine AWl.put (R_callq rfl (by first | exact .yes1 rfl rfl rfl rfl | exact .yes rfl rfl rfl rfl) rfl (.cons (.tmp rfl (by first | exact fun _ => rfl | exact id | simp)) rfl .nil) fun hq => FnT.fr (implIsExpr _ (by have h24 := of_decide_eq_true hq; omega))) rfl ?_
  refine AWl.put (R_and rfl (.no rfl) rfl (.tmp rfl fun _ => rfl) (.tmp rfl (by first | exact fun _ => rfl | exact id | simp))) rfl ?_
  refine AWl.put (R_assign rfl (.no rfl) rfl (.tmp rfl fun _ => rfl)) rfl ?_
  refine AWl.nil ?_
  refine AW.ret ?_
  refine Res.v rfl rfl ?_
  congr 1; unfold isValidExpr; congr 1; apply decide_eq_decide.2; omega
end Go.Proofs.YtoealglkenhphaaGreatDoor
