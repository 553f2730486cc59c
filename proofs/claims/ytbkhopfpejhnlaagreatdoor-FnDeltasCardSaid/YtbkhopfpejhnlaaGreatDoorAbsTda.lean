import Derived.Test.YtbkhopfpejhnlaaGreatDoorB02da
set_option linter.unusedVariables false
set_option linter.unusedSimpArgs false
namespace Go.Q
open Go.RowKit
section
variable {u v : Nat} {I : Ip} {w : World}
end
theorem Le.trans {σ σ' σ'' : St} (h1 : Le σ σ') (h2 : Le σ' σ'') : Le σ σ'' := fun w0 a w h => h2 w0 a w (h1 w0 a w h)
section
variable {Q : Exit → St → Prop} {σ : St}
theorem ThenQ.ex {K : St → Prop} {i : Nat} (h : Q (.exit i) σ) : ThenQ K Q (.exit i) σ := h
theorem Round1.ex {β1 : Type} {Inv : β1 → Prop} {J : β1 → St} {m : β1 → Nat} {a1 : β1} {i : Nat} (h : Q (.exit i) σ) : Round1 Inv J m a1 Q (.exit i) σ := h
theorem Round2.ex {β1 β2 : Type} {Inv : β1 → β2 → Prop} {J : β1 → β2 → St} {m : β1 → β2 → Nat} {a1 : β1} {a2 : β2} {i : Nat} (h : Q (.exit i) σ) : Round2 Inv J m a1 a2 Q (.exit i) σ := h
theorem Round3.ex {β1 β2 β3 : Type} {Inv : β1 → β2 → β3 → Prop} {J : β1 → β2 → β3 → St} {m : β1 → β2 → β3 → Nat} {a1 : β1} {a2 : β2} {a3 : β3} {i : Nat} (h : Q (.exit i) σ) : Round3 Inv J m a1 a2 a3 Q (.exit i) σ := h
theorem Round4.ex {β1 β2 β3 β4 : Type} {Inv : β1 → β2 → β3 → β4 → Prop} {J : β1 → β2 → β3 → β4 → St} {m : β1 → β2 → β3 → β4 → Nat} {a1 : β1} {a2 : β2} {a3 : β3} {a4 : β4} {i : Nat} (h : Q (.exit i) σ) : Round4 Inv J m a1 a2 a3 a4 Q (.exit i) σ := h
theorem Round5.ex {β1 β2 β3 β4 β5 : Type} {Inv : β1 → β2 → β3 → β4 → β5 → Prop} {J : β1 → β2 → β3 → β4 → β5 → St} {m : β1 → β2 → β3 → β4 → β5 → Nat} {a1 : β1} {a2 : β2} {a3 : β3} {a4 : β4} {a5 : β5} {i : Nat} (h : Q (.exit i) σ) : Round5 Inv J m a1 a2 a3 a4 a5 Q (.exit i) σ := h
end
section
variable {P : Program} {ops : Array Oper} {o : Oper} {σ : St} {q : Bool}
end
end Go.Q
namespace Go.Q
open Go.RowKit
end Go.Q
namespace Go.Q
open Go.RowKit
section
variable {P : Program} {ops : Array Oper} {o : Oper} {σ : St} {q : Bool}
theorem guard_str {op : BinOp} {t : TypeId} {x y : Operand} {a b : ByteArray} (w : World) : (eqGuard op t x y (.string a) (.string b)).run P w = .ok () w := by
 unfold eqGuard; split <;> rfl
theorem str_eq (a b : ByteArray) : (a.toList == b.toList) = decide (a = b) := by
 rw [Bool.eq_iff_iff, beq_iff_eq, decide_eq_true_eq]
 exact ⟨fun h => by
  rw [ByteArray.toList_eq, ByteArray.toList_eq] at h
  exact ByteArray.ext (Array.toList_inj.1 h), fun h => by rw [h]⟩
theorem R_cat {t t' : TypeId} {x y : Operand} {a b : ByteArray} (ho : o.op = .binOp .add t x y t') (hg : Grd ops o σ q) (hd : o.dst.all (fun d => Nat.blt d σ.n) = true) (hx : Get σ q x (.one (.t (.v (.string a))))) (hy : Get σ q y (.one (.t (.v (.string b)))))
 (hb : q = true → a.size + b.size ≤ 9223372036854775807) : Op1 P ops o σ (σ.put o.dst (q, .a (.one (.t (.v (.string (a ++ b))))))) :=
 R_bin ho hg hd hx hy guard_str (h := fun hq w => by
  have := hb hq
  simp only [binOp, Op.stringOp]
  rw [if_neg (show ¬ (((a.size + b.size : Nat) : Int) > IntKind.i64.max) by rw [show IntKind.i64.max = 9223372036854775807 from rfl]; omega)]
  rfl)
theorem R_eqstr {t t' : TypeId} {x y : Operand} {a b : ByteArray} (ho : o.op = .binOp .eql t x y t') (hg : Grd ops o σ q) (hd : o.dst.all (fun d => Nat.blt d σ.n) = true) (hx : Get σ q x (.one (.t (.v (.string a))))) (hy : Get σ q y (.one (.t (.v (.string b))))) :
 Op1 P ops o σ (σ.put o.dst (q, .a (.one (.t (.v (.bool (decide (a = b)))))))) :=
 R_bin ho hg hd hx hy guard_str (h := fun hq w => by simp only [binOp, Op.stringOp, str_eq]; rfl)
theorem R_nestr {t t' : TypeId} {x y : Operand} {a b : ByteArray} (ho : o.op = .binOp .neq t x y t') (hg : Grd ops o σ q) (hd : o.dst.all (fun d => Nat.blt d σ.n) = true) (hx : Get σ q x (.one (.t (.v (.string a))))) (hy : Get σ q y (.one (.t (.v (.string b))))) :
 Op1 P ops o σ (σ.put o.dst (q, .a (.one (.t (.v (.bool (!decide (a = b)))))))) :=
 R_bin ho hg hd hx hy guard_str (h := fun hq w => by simp only [binOp, Op.stringOp, str_eq]; rfl)
theorem R_strIndex {t : TypeId} {x y : Operand} {s : ByteArray} {n : Int} {b : UInt8} (ho : o.op = .index t x y) (hg : Grd ops o σ q) (hd : o.dst.all (fun d => Nat.blt d σ.n) = true) (hx : Get σ q x (.one (.t (.v (.string s))))) (hy : Get σ q y (.one (.t (.v (.int .i64 n)))))
 (hu : P.underlying t = some .string) (hi : q = true → 0 ≤ n ∧ s[n.toNat]? = some b) : Op1 P ops o σ (σ.put o.dst (q, .a (.one (.t (.v (.int .u8 b.toNat)))))) :=
 .val hg hd fun I w0 a w hr hq => ⟨_, by
  obtain ⟨h0, h1⟩ := hi hq
  simp [execOp, ho, hx.int hr hq, hy.int hr hq, Instr.index, asIntOf, run_underlying hu, h0, h1], VS_v _⟩
theorem R_strSlice {t : TypeId} {x : Operand} {lo hi : Option Operand} {n m : Nat} {s : ByteArray} (ho : o.op = .slice t x lo hi none) (hg : Grd ops o σ q) (hd : o.dst.all (fun d => Nat.blt d σ.n) = true) (hx : Get σ q x (.one (.t (.v (.string s)))))
 (hl : Bnd σ q lo 0 n) (hh : Bnd σ q hi s.size m) (hu : P.underlying t = some .string) (hb : q = true → n ≤ m ∧ m ≤ s.size) : Op1 P ops o σ (σ.put o.dst (q, .a (.one (.t (.v (.string (s.extract n m))))))) :=
 .val hg hd fun I w0 a w hr hq => ⟨_, by
  obtain ⟨b1, b2⟩ := hb hq
  have b3 : n ≤ s.size := Nat.le_trans b1 b2
  have hs := hx.int hr hq
  have hlo := hl.val hr hq
  have hhi := hh.val hr hq
  rcases hlo with ⟨e1, rfl⟩ | e1 <;> rcases hhi with ⟨e2, rfl⟩ | e2 <;> simp [execOp, ho, hs, e1, e2, Instr.sliceAt, Instr.slice, run_underlying hu, Instr.sliceBounds, Instr.sliceBound, asIntOf, b1, b2, b3], VS_v _⟩
end
end Go.Q
