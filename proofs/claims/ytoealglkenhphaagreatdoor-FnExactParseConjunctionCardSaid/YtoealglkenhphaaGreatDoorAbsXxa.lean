/- Merged texts. -/
import Derived.Test.YtoealglkenhphaaGreatDoorNilxa
import Derived.WideLaws
import Derived.Test.YtoealglkenhphaaGreatDoorAbsJxa
set_option linter.unusedVariables false
set_option linter.unusedSimpArgs false
namespace Go.Q
open Go.RowKit
section
variable {u v : Nat} {I : Ip} {w : World}
end
theorem Le.trans {σ σ' σ'' : St} (h1 : Le σ σ') (h2 : Le σ' σ'') : Le σ σ'' := fun w0 a w h => h2 w0 a w (h1 w0 a w h)
section
variable {Q : Exit → St → Prop} {σ : St}
theorem ThenQ.ex {K : St → Prop} {i : Nat} (h : Q (.exit i) σ) : ThenQ K Q (.exit i) σ := h
theorem Round1.ex {β1 : Type} {Inv : β1 → Prop} {J : β1 → St} {m : β1 → Nat} {a1 : β1} {i : Nat} (h : Q (.exit i) σ) : Round1 Inv J m a1 Q (.exit i) σ := h
theorem Round2.ex {β1 β2 : Type} {Inv : β1 → β2 → Prop} {J : β1 → β2 → St} {m : β1 → β2 → Nat} {a1 : β1} {a2 : β2} {i : Nat} (h : Q (.exit i) σ) : Round2 Inv J m a1 a2 Q (.exit i) σ := h
theorem Round3.ex {β1 β2 β3 : Type} {Inv : β1 → β2 → β3 → Prop} {J : β1 → β2 → β3 → St} {m : β1 → β2 → β3 → Nat} {a1 : β1} {a2 : β2} {a3 : β3} {i : Nat} (h : Q (.exit i) σ) : Round3 Inv J m a1 a2 a3 Q (.exit i) σ := h
theorem Round4.ex {β1 β2 β3 β4 : Type} {Inv : β1 → β2 → β3 → β4 → Prop} {J : β1 → β2 → β3 → β4 → St} {m : β1 → β2 → β3 → β4 → Nat} {a1 : β1} {a2 : β2} {a3 : β3} {a4 : β4} {i : Nat} (h : Q (.exit i) σ) : Round4 Inv J m a1 a2 a3 a4 Q (.exit i) σ := h
theorem Round5.ex {β1 β2 β3 β4 β5 : Type} {Inv : β1 → β2 → β3 → β4 → β5 → Prop} {J : β1 → β2 → β3 → β4 → β5 → St} {m : β1 → β2 → β3 → β4 → β5 → Nat} {a1 : β1} {a2 : β2} {a3 : β3} {a4 : β4} {a5 : β5} {i : Nat} (h : Q (.exit i) σ) : Round5 Inv J m a1 a2 a3 a4 a5 Q (.exit i) σ := h
end
section
variable {P : Program} {ops : Array Oper} {o : Oper} {σ : St} {q : Bool}
/-- An operation under a guard, by what it does without. -/
theorem R_grd {x : S} (hg : Grd ops o σ q) (hd : o.dst.all (fun d => Nat.blt d σ.n) = true) (h : q = true → Op1 P ops { o with guard := none } σ (σ.put o.dst (true, x))) : Op1 P ops o σ (σ.put o.dst (q, x)) := by
  rintro w0 a w ⟨I, hr⟩ K Q hK
  rw [hg.wanted hr]
  cases q with
  | false => exact hK _ _ ⟨I, hr.put hd rfl⟩
  | true => exact h rfl w0 a w ⟨I, hr⟩ K Q hK
end
end Go.Q
set_option linter.unusedVariables false
set_option linter.unusedSimpArgs false
namespace Go.Q
open Go.RowKit
end Go.Q
set_option linter.unusedVariables false
set_option linter.unusedSimpArgs false
namespace Go.Q
open Go.RowKit
section
variable {P : Program} {ops : Array Oper} {o : Oper} {σ : St} {q : Bool}
theorem guard_str {op : BinOp} {t : TypeId} {x y : Operand} {a b : ByteArray} (w : World) : (eqGuard op t x y (.string a) (.string b)).run P w = .ok () w := by
  unfold eqGuard; split <;> rfl
theorem str_eq (a b : ByteArray) : (a.toList == b.toList) = decide (a = b) := by
  rw [Bool.eq_iff_iff, beq_iff_eq, decide_eq_true_eq]
  exact ⟨fun h => by
    rw [ByteArray.toList_eq, ByteArray.toList_eq] at h
    exact ByteArray.ext (Array.toList_inj.1 h), fun h => by rw [h]⟩
theorem R_cat {t t' : TypeId} {x y : Operand} {a b : ByteArray} (ho : o.op = .binOp .add t x y t') (hg : Grd ops o σ q) (hd : o.dst.all (fun d => Nat.blt d σ.n) = true) (hx : Get σ q x (.one (.t (.v (.string a))))) (hy : Get σ q y (.one (.t (.v (.string b)))))
    (hb : q = true → a.size + b.size ≤ 9223372036854775807) : Op1 P ops o σ (σ.put o.dst (q, .a (.one (.t (.v (.string (a ++ b))))))) :=
  R_bin ho hg hd hx hy guard_str (h := fun hq w => by
    have := hb hq
    simp only [binOp, Op.stringOp]
    rw [if_neg (show ¬ (((a.size + b.size : Nat) : Int) > IntKind.i64.max) by rw [show IntKind.i64.max = 9223372036854775807 from rfl]; omega)]
    rfl)
theorem R_eqstr {t t' : TypeId} {x y : Operand} {a b : ByteArray} (ho : o.op = .binOp .eql t x y t') (hg : Grd ops o σ q) (hd : o.dst.all (fun d => Nat.blt d σ.n) = true) (hx : Get σ q x (.one (.t (.v (.string a))))) (hy : Get σ q y (.one (.t (.v (.string b))))) :
    Op1 P ops o σ (σ.put o.dst (q, .a (.one (.t (.v (.bool (decide (a = b)))))))) :=
  R_bin ho hg hd hx hy guard_str (h := fun hq w => by simp only [binOp, Op.stringOp, str_eq]; rfl)
theorem R_nestr {t t' : TypeId} {x y : Operand} {a b : ByteArray} (ho : o.op = .binOp .neq t x y t') (hg : Grd ops o σ q) (hd : o.dst.all (fun d => Nat.blt d σ.n) = true) (hx : Get σ q x (.one (.t (.v (.string a))))) (hy : Get σ q y (.one (.t (.v (.string b))))) :
    Op1 P ops o σ (σ.put o.dst (q, .a (.one (.t (.v (.bool (!decide (a = b)))))))) :=
  R_bin ho hg hd hx hy guard_str (h := fun hq w => by simp only [binOp, Op.stringOp, str_eq]; rfl)
theorem R_strIndex {t : TypeId} {x y : Operand} {s : ByteArray} {n : Int} {b : UInt8} (ho : o.op = .index t x y) (hg : Grd ops o σ q) (hd : o.dst.all (fun d => Nat.blt d σ.n) = true) (hx : Get σ q x (.one (.t (.v (.string s))))) (hy : Get σ q y (.one (.t (.v (.int .i64 n)))))
    (hu : P.underlying t = some .string) (hi : q = true → 0 ≤ n ∧ s[n.toNat]? = some b) : Op1 P ops o σ (σ.put o.dst (q, .a (.one (.t (.v (.int .u8 b.toNat)))))) :=
  .val hg hd fun I w0 a w hr hq => ⟨_, by
    obtain ⟨h0, h1⟩ := hi hq
    simp [execOp, ho, hx.int hr hq, hy.int hr hq, Instr.index, asIntOf, run_underlying hu, h0, h1], VS_v _⟩
theorem R_strSlice {t : TypeId} {x : Operand} {lo hi : Option Operand} {n m : Nat} {s : ByteArray} (ho : o.op = .slice t x lo hi none) (hg : Grd ops o σ q) (hd : o.dst.all (fun d => Nat.blt d σ.n) = true) (hx : Get σ q x (.one (.t (.v (.string s)))))
    (hl : Bnd σ q lo 0 n) (hh : Bnd σ q hi s.size m) (hu : P.underlying t = some .string) (hb : q = true → n ≤ m ∧ m ≤ s.size) : Op1 P ops o σ (σ.put o.dst (q, .a (.one (.t (.v (.string (s.extract n m))))))) :=
  .val hg hd fun I w0 a w hr hq => ⟨_, by
    obtain ⟨b1, b2⟩ := hb hq
    have b3 : n ≤ s.size := Nat.le_trans b1 b2
    have hs := hx.int hr hq
    have hlo := hl.val hr hq
    have hhi := hh.val hr hq
    rcases hlo with ⟨e1, rfl⟩ | e1 <;> rcases hhi with ⟨e2, rfl⟩ | e2 <;> simp [execOp, ho, hs, e1, e2, Instr.sliceAt, Instr.slice, run_underlying hu, Instr.sliceBounds, Instr.sliceBound, asIntOf, b1, b2, b3], VS_v _⟩
end
end Go.Q
set_option linter.unusedVariables false
set_option linter.unusedSimpArgs false
namespace Go.Q
open Go.RowKit
section
variable {P : Program} {ops : Array Oper} {o : Oper} {σ : St}
end
end Go.Q
set_option linter.unusedVariables false
set_option linter.unusedSimpArgs false
namespace Go.Q
open Go.RowKit
section
variable {P : Program} {ops : Array Oper} {o : Oper} {σ : St} {q : Bool}
theorem run_byteStr {w : World} {n : Int} {v : Value} {G : List Nat} (h : C false w (.sl 1 [[.v (.int .u8 n)]]) v G) : (Conv.bytesToString v).run P w = .ok (.string ⟨#[UInt8.ofNat n.toNat]⟩) w := by
  simp only [C] at h
  obtain ⟨a, len, cap, rfl, e1, e2, e3, e4⟩ := h
  have e1 : len = 1 := by simpa using e1.symm
  subst e1
  rcases e4 with ⟨h0, _⟩ | ⟨b, off, G', rfl, _, hb, _, hR⟩
  · omega
  · simp only [Rws, Ms, C] at hR
    obtain ⟨_, _, _, ⟨c, _, _, hc, ⟨rfl, _⟩, _⟩, _⟩ := hR
    have hl := run_loadCells_list (P := P) w ⟨b, off, none⟩ [.int .u8 n] (fun j u hj => by
      cases j with
      | zero => cases hj; rw [Addr.add_lit]; simpa using hc
      | succ j => cases hj)
    simp only [List.length_singleton] at hl
    simp [Conv.bytesToString, hl]
    rfl
theorem R_byteStr {t t' e : TypeId} {x : Operand} {n : Int} (ho : o.op = .convert t t' x) (hg : Grd ops o σ q) (hd : o.dst.all (fun d => Nat.blt d σ.n) = true) (hx : Get σ q x (.one (.t (.sl 1 [[.v (.int .u8 n)]]))))
    (hu : P.underlying t = some (.slice e)) (he : P.underlying e = some (.int .u8)) (hu' : P.underlying t' = some .string) : Op1 P ops o σ (σ.put o.dst (q, .a (.one (.t (.v (.string ⟨#[UInt8.ofNat n.toNat]⟩)))))) :=
  .val hg hd fun I w0 a w hr hq => by
    obtain ⟨G, h1, _⟩ : VE I w (.t (.sl 1 [[.v (.int .u8 n)]])) (a.eval x) := hx.va hr hq
    have hb := run_byteStr (P := P) h1
    have hs := h1
    simp only [C] at hs
    obtain ⟨ad, len, cap, e0, _⟩ := hs
    exact ⟨_, by
      rw [e0] at hb
      simp [execOp, ho, e0, Go.convert, run_underlying hu, run_underlying hu', run_underlying he, hb], VS_v _⟩
end
end Go.Q
set_option linter.unusedVariables false
set_option linter.unusedSimpArgs false
namespace Go.Q
open Go.RowKit
section
variable {P : Program} {ops : Array Oper} {o : Oper} {σ : St} {q : Bool}
theorem R_nenil0 {t t' : TypeId} {x : Operand} (ho : o.op = .binOp .neq t x (.const .nilIface) t') (hg : Grd ops o σ q) (hd : o.dst.all (fun d => Nat.blt d σ.n) = true) (hx : Get σ q x (.one (.t (.v .nilIface)))) (_ : Get σ q (.const .nilIface) (.one (.t (.v .nilIface))))
    (hu : P.underlying t = some (.interface (P.methodsAt t))) : Op1 P ops o σ (σ.put o.dst (q, .a (.one (.t (.v (.bool false)))))) :=
  R_bin ho hg hd hx (.const rfl) (fun w => by simp [eqGuard]) (h := fun hq w => by simp [binOp, run_equal_nil_nil w t hu])
theorem R_nenil1 {t t' T : TypeId} {x : Operand} {p : Value} (ho : o.op = .binOp .neq t x (.const .nilIface) t') (hg : Grd ops o σ q) (hd : o.dst.all (fun d => Nat.blt d σ.n) = true) (hx : Get σ q x (.one (.t (.v (.iface T p))))) (_ : Get σ q (.const .nilIface) (.one (.t (.v .nilIface))))
    (hu : P.underlying t = some (.interface (P.methodsAt t))) : Op1 P ops o σ (σ.put o.dst (q, .a (.one (.t (.v (.bool true)))))) :=
  R_bin ho hg hd hx (.const rfl) (fun w => by simp [eqGuard]) (h := fun hq w => by simp [binOp, run_equal_held_nil w t T p hu])
theorem wrapI {n : Int} (h : -9223372036854775808 ≤ n ∧ n ≤ 9223372036854775807) : IntKind.i64.wrap n = n := wrap_in h
/-- A function whose result is one of many. -/
def FrE (P : Program) (f : FuncId) (ins : List V0) (Out : V → Prop) : Prop := Callee P f ∧ ∀ w vs F, Good w [] → V0s false w ins vs F → Calls P f (List.toArray vs) w fun e w' => ∃ out, Out out ∧ FrPost w out e w'
theorem R_calle {f : FuncId} {l : List Operand} {tys : Array TypeId} {ins : List V0} {Out : V → Prop} (h : FrE P f ins Out) (ho : o.op = .call { callee := .value (.func f), args := l.toArray, argTypes := tys }) (hg : o.guard = none) (hd : o.dst.all (fun d => Nat.blt d σ.n) = true)
    (ha : Args σ true l ins) : OpE P ops o σ fun σ' => ∃ out, Out out ∧ σ' = σ.put o.dst (true, inS out) := by
  rintro w0 a w ⟨I, hr⟩ K Q hK
  simp only [Region.wanted, hg, if_true]
  obtain ⟨F, hF⟩ := ha.ok hr rfl
  unfold Oper.wp
  rw [run_enter h.1 ho]
  refine (h.2 w _ F hr.good hF).mono fun e w' hR => ?_
  obtain ⟨out, hout, v, G, rfl, h1, h3, h4⟩ := hR
  have hr' := (hr.later h4).also (G := G) fun b hb => ⟨Vr.lt h1 b hb, fun i hi => by have := (hr.lt i b hi).1; have := h3 b hb; omega⟩
  exact hK _ _ _ ⟨out, hout, rfl⟩ ⟨_, hr'.put hd (VS_also h1 fun b hb => .inr hb)⟩
end
end Go.Q
set_option linter.unusedVariables false
set_option linter.unusedSimpArgs false
namespace Go.Q
open Go.RowKit
section
variable {P : Program} {ops : Array Oper} {o : Oper} {σ : St} {q : Bool}
theorem R_max3 {x y z : Operand} {tys : Array TypeId} {n m r : Int} (ho : o.op = .call { callee := .builtin .max, args := #[x, y, z], argTypes := tys }) (hg : Grd ops o σ q) (hd : o.dst.all (fun d => Nat.blt d σ.n) = true)
    (hx : Get σ q x (.one (.t (.v (.int .i64 n))))) (hy : Get σ q y (.one (.t (.v (.int .i64 m))))) (hz : Get σ q z (.one (.t (.v (.int .i64 r))))) : Op1 P ops o σ (σ.put o.dst (q, .a (.one (.t (.v (.int .i64 (max (max n m) r))))))) :=
  .val hg hd fun I w0 a w hr hq => ⟨.int .i64 (max (max n m) r), by
    have e : (if m > n then m else n) = max n m := by split <;> omega
    have e2 : (if r > max n m then r else max n m) = max (max n m) r := by split <;> omega
    simp [execOp, ho, resolve, invoke, builtin, hx.int hr hq, hy.int hr hq, hz.int hr hq, Builtin.max_, Builtin.max2, e, e2], VS_v _⟩
end
end Go.Q
