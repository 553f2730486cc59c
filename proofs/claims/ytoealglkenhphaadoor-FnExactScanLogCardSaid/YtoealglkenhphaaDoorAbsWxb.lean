/- Merged texts. -/
import Derived.Test.YtoealglkenhphaaDoorAbsTxb
import Derived.WideLaws
import Derived.Test.YtoealglkenhphaaDoorAbsIxb
set_option linter.unusedVariables false
set_option linter.unusedSimpArgs false
namespace Go.Q
open Go.RowKit
section
variable {P : Program} {ops : Array Oper} {o : Oper} {σ : St}
end
end Go.Q
set_option linter.unusedVariables false
set_option linter.unusedSimpArgs false
namespace Go.Q
open Go.RowKit
section
variable {P : Program} {ops : Array Oper} {o : Oper} {σ : St} {q : Bool}
theorem run_byteStr {w : World} {n : Int} {v : Value} {G : List Nat} (h : C false w (.sl 1 [[.v (.int .u8 n)]]) v G) : (Conv.bytesToString v).run P w = .ok (.string ⟨#[UInt8.ofNat n.toNat]⟩) w := by
  simp only [C] at h
  obtain ⟨a, len, cap, rfl, e1, e2, e3, e4⟩ := h
  have e1 : len = 1 := by simpa using e1.symm
  subst e1
  rcases e4 with ⟨h0, _⟩ | ⟨b, off, G', rfl, _, hb, _, hR⟩
  · omega
  · simp only [Rws, Ms, C] at hR
    obtain ⟨_, _, _, ⟨c, _, _, hc, ⟨rfl, _⟩, _⟩, _⟩ := hR
    have hl := run_loadCells_list (P := P) w ⟨b, off, none⟩ [.int .u8 n] (fun j u hj => by
      cases j with
      | zero => cases hj; rw [Addr.add_lit]; simpa using hc
      | succ j => cases hj)
    simp only [List.length_singleton] at hl
    simp [Conv.bytesToString, hl]
    rfl
theorem R_byteStr {t t' e : TypeId} {x : Operand} {n : Int} (ho : o.op = .convert t t' x) (hg : Grd ops o σ q) (hd : o.dst.all (fun d => Nat.blt d σ.n) = true) (hx : Get σ q x (.one (.t (.sl 1 [[.v (.int .u8 n)]]))))
    (hu : P.underlying t = some (.slice e)) (he : P.underlying e = some (.int .u8)) (hu' : P.underlying t' = some .string) : Op1 P ops o σ (σ.put o.dst (q, .a (.one (.t (.v (.string ⟨#[UInt8.ofNat n.toNat]⟩)))))) :=
  .val hg hd fun I w0 a w hr hq => by
    obtain ⟨G, h1, _⟩ : VE I w (.t (.sl 1 [[.v (.int .u8 n)]])) (a.eval x) := hx.va hr hq
    have hb := run_byteStr (P := P) h1
    have hs := h1
    simp only [C] at hs
    obtain ⟨ad, len, cap, e0, _⟩ := hs
    exact ⟨_, by
      rw [e0] at hb
      simp [execOp, ho, e0, Go.convert, run_underlying hu, run_underlying hu', run_underlying he, hb], VS_v _⟩
end
end Go.Q
set_option linter.unusedVariables false
set_option linter.unusedSimpArgs false
namespace Go.Q
open Go.RowKit
section
variable {P : Program} {ops : Array Oper} {o : Oper} {σ : St} {q : Bool}
theorem R_nenil0 {t t' : TypeId} {x : Operand} (ho : o.op = .binOp .neq t x (.const .nilIface) t') (hg : Grd ops o σ q) (hd : o.dst.all (fun d => Nat.blt d σ.n) = true) (hx : Get σ q x (.one (.t (.v .nilIface)))) (_ : Get σ q (.const .nilIface) (.one (.t (.v .nilIface))))
    (hu : P.underlying t = some (.interface (P.methodsAt t))) : Op1 P ops o σ (σ.put o.dst (q, .a (.one (.t (.v (.bool false)))))) :=
  R_bin ho hg hd hx (.const rfl) (fun w => by simp [eqGuard]) (h := fun hq w => by simp [binOp, run_equal_nil_nil w t hu])
theorem R_nenil1 {t t' T : TypeId} {x : Operand} {p : Value} (ho : o.op = .binOp .neq t x (.const .nilIface) t') (hg : Grd ops o σ q) (hd : o.dst.all (fun d => Nat.blt d σ.n) = true) (hx : Get σ q x (.one (.t (.v (.iface T p))))) (_ : Get σ q (.const .nilIface) (.one (.t (.v .nilIface))))
    (hu : P.underlying t = some (.interface (P.methodsAt t))) : Op1 P ops o σ (σ.put o.dst (q, .a (.one (.t (.v (.bool true)))))) :=
  R_bin ho hg hd hx (.const rfl) (fun w => by simp [eqGuard]) (h := fun hq w => by simp [binOp, run_equal_held_nil w t T p hu])
theorem R_remS {t t' : TypeId} {x y : Operand} {k : IntKind} {n m : Int} (r : Int) (ho : o.op = .binOp .rem t x y t') (hg : Grd ops o σ q) (hd : o.dst.all (fun d => Nat.blt d σ.n) = true) (hx : Get σ q x (.one (.t (.v (.int k n))))) (hy : Get σ q y (.one (.t (.v (.int k m)))))
    (hb : q = true → m ≠ 0 ∧ n.tmod m = r) : Op1 P ops o σ (σ.put o.dst (q, .a (.one (.t (.v (.int k r)))))) := R_bin ho hg hd hx hy guard_int (h := fun hq w => by
      obtain ⟨h1, h2⟩ := hb hq
      simp [binOp, Op.intDiv, h1, h2])
theorem R_quoS {t t' : TypeId} {x y : Operand} {k : IntKind} {n m : Int} (r : Int) (ho : o.op = .binOp .quo t x y t') (hg : Grd ops o σ q) (hd : o.dst.all (fun d => Nat.blt d σ.n) = true) (hx : Get σ q x (.one (.t (.v (.int k n))))) (hy : Get σ q y (.one (.t (.v (.int k m)))))
    (hb : q = true → m ≠ 0 ∧ k.wrap (n.tdiv m) = r) : Op1 P ops o σ (σ.put o.dst (q, .a (.one (.t (.v (.int k r)))))) := R_bin ho hg hd hx hy guard_int (h := fun hq w => by
      obtain ⟨h1, h2⟩ := hb hq
      simp [binOp, Op.intDiv, h1, h2])
theorem R_subS {t t' : TypeId} {x y : Operand} {k : IntKind} {n m : Int} (r : Int) (ho : o.op = .binOp .sub t x y t') (hg : Grd ops o σ q) (hd : o.dst.all (fun d => Nat.blt d σ.n) = true) (hx : Get σ q x (.one (.t (.v (.int k n))))) (hy : Get σ q y (.one (.t (.v (.int k m)))))
    (hb : q = true → k.wrap (n - m) = r) : Op1 P ops o σ (σ.put o.dst (q, .a (.one (.t (.v (.int k r)))))) := R_bin ho hg hd hx hy guard_int (h := fun hq w => by
      simp [binOp, Op.intArith, hb hq])
theorem R_neg {t : TypeId} {x : Operand} {n : Int} (ho : o.op = .unOp .neg t x) (hg : Grd ops o σ q) (hd : o.dst.all (fun d => Nat.blt d σ.n) = true) (hx : Get σ q x (.one (.t (.v (.int .i64 n)))))
    (hb : q = true → -9223372036854775808 ≤ -n ∧ -n ≤ 9223372036854775807) : Op1 P ops o σ (σ.put o.dst (q, .a (.one (.t (.v (.int .i64 (-n))))))) :=
  .val hg hd fun I w0 a w hr hq => ⟨.int .i64 (-n), by simp [execOp, ho, hx.int hr hq, Op.unary, Op.intArith, Int.zero_sub, wrap_in (hb hq)], VS_v _⟩
theorem wrapI {n : Int} (h : -9223372036854775808 ≤ n ∧ n ≤ 9223372036854775807) : IntKind.i64.wrap n = n := wrap_in h
/-- A function whose result is one of many. -/
def FrE (P : Program) (f : FuncId) (ins : List V0) (Out : V → Prop) : Prop := Callee P f ∧ ∀ w vs F, Good w [] → V0s false w ins vs F → Calls P f (List.toArray vs) w fun e w' => ∃ out, Out out ∧ FrPost w out e w'
theorem R_calle {f : FuncId} {l : List Operand} {tys : Array TypeId} {ins : List V0} {Out : V → Prop} (h : FrE P f ins Out) (ho : o.op = .call { callee := .value (.func f), args := l.toArray, argTypes := tys }) (hg : o.guard = none) (hd : o.dst.all (fun d => Nat.blt d σ.n) = true)
    (ha : Args σ true l ins) : OpE P ops o σ fun σ' => ∃ out, Out out ∧ σ' = σ.put o.dst (true, inS out) := by
  rintro w0 a w ⟨I, hr⟩ K Q hK
  simp only [Region.wanted, hg, if_true]
  obtain ⟨F, hF⟩ := ha.ok hr rfl
  unfold Oper.wp
  rw [run_enter h.1 ho]
  refine (h.2 w _ F hr.good hF).mono fun e w' hR => ?_
  obtain ⟨out, hout, v, G, rfl, h1, h3, h4⟩ := hR
  have hr' := (hr.later h4).also (G := G) fun b hb => ⟨Vr.lt h1 b hb, fun i hi => by have := (hr.lt i b hi).1; have := h3 b hb; omega⟩
  exact hK _ _ _ ⟨out, hout, rfl⟩ ⟨_, hr'.put hd (VS_also h1 fun b hb => .inr hb)⟩
end
end Go.Q
