/- Merged texts. -/
import Derived.Test.YtijkijoempdgnaaDoorNilxa
set_option linter.unusedVariables false
set_option linter.unusedSimpArgs false
namespace Go.Q
open Go.RowKit
section
variable {u v : Nat} {I : Ip} {w : World}
end
theorem Le.trans {σ σ' σ'' : St} (h1 : Le σ σ') (h2 : Le σ' σ'') : Le σ σ'' := fun w0 a w h => h2 w0 a w (h1 w0 a w h)
section
variable {Q : Exit → St → Prop} {σ : St}
end
section
variable {P : Program} {ops : Array Oper} {o : Oper} {σ : St} {q : Bool}
end
end Go.Q
set_option linter.unusedVariables false
set_option linter.unusedSimpArgs false
namespace Go.Q
open Go.RowKit
end Go.Q
set_option linter.unusedVariables false
set_option linter.unusedSimpArgs false
namespace Go.Q
open Go.RowKit
section
variable {P : Program} {ops : Array Oper} {o : Oper} {σ : St} {q : Bool}
theorem guard_str {op : BinOp} {t : TypeId} {x y : Operand} {a b : ByteArray} (w : World) : (eqGuard op t x y (.string a) (.string b)).run P w = .ok () w := by
  unfold eqGuard; split <;> rfl
theorem str_eq (a b : ByteArray) : (a.toList == b.toList) = decide (a = b) := by
  rw [Bool.eq_iff_iff, beq_iff_eq, decide_eq_true_eq]
  exact ⟨fun h => by
    rw [ByteArray.toList_eq, ByteArray.toList_eq] at h
    exact ByteArray.ext (Array.toList_inj.1 h), fun h => by rw [h]⟩
theorem R_cat {t t' : TypeId} {x y : Operand} {a b : ByteArray} (ho : o.op = .binOp .add t x y t') (hg : Grd ops o σ q) (hd : o.dst.all (fun d => Nat.blt d σ.n) = true) (hx : Get σ q x (.one (.t (.v (.string a))))) (hy : Get σ q y (.one (.t (.v (.string b)))))
    (hb : q = true → a.size + b.size ≤ 9223372036854775807) : Op1 P ops o σ (σ.put o.dst (q, .a (.one (.t (.v (.string (a ++ b))))))) :=
  R_bin ho hg hd hx hy guard_str (h := fun hq w => by
    have := hb hq
    simp only [binOp, Op.stringOp]
    rw [if_neg (show ¬ (((a.size + b.size : Nat) : Int) > IntKind.i64.max) by rw [show IntKind.i64.max = 9223372036854775807 from rfl]; omega)]
    rfl)
theorem R_nestr {t t' : TypeId} {x y : Operand} {a b : ByteArray} (ho : o.op = .binOp .neq t x y t') (hg : Grd ops o σ q) (hd : o.dst.all (fun d => Nat.blt d σ.n) = true) (hx : Get σ q x (.one (.t (.v (.string a))))) (hy : Get σ q y (.one (.t (.v (.string b))))) :
    Op1 P ops o σ (σ.put o.dst (q, .a (.one (.t (.v (.bool (!decide (a = b)))))))) :=
  R_bin ho hg hd hx hy guard_str (h := fun hq w => by simp only [binOp, Op.stringOp, str_eq]; rfl)
end
end Go.Q
set_option linter.unusedVariables false
set_option linter.unusedSimpArgs false
namespace Go.Q
open Go.RowKit
section
variable {P : Program} {ops : Array Oper} {o : Oper} {σ : St}
end
end Go.Q
set_option linter.unusedVariables false
set_option linter.unusedSimpArgs false
namespace Go.Q
open Go.RowKit
section
variable {P : Program} {ops : Array Oper} {o : Oper} {σ : St} {q : Bool}
theorem run_byteStr {w : World} {n : Int} {v : Value} {G : List Nat} (h : C false w (.sl 1 [[.v (.int .u8 n)]]) v G) : (Conv.bytesToString v).run P w = .ok (.string ⟨#[UInt8.ofNat n.toNat]⟩) w := by
  simp only [C] at h
  obtain ⟨a, len, cap, rfl, e1, e2, e3, e4⟩ := h
  have e1 : len = 1 := by simpa using e1.symm
  subst e1
  rcases e4 with ⟨h0, _⟩ | ⟨b, off, G', rfl, _, hb, _, hR⟩
  · omega
  · simp only [Rws, Ms, C] at hR
    obtain ⟨_, _, _, ⟨c, _, _, hc, ⟨rfl, _⟩, _⟩, _⟩ := hR
    have hl := run_loadCells_list (P := P) w ⟨b, off, none⟩ [.int .u8 n] (fun j u hj => by
      cases j with
      | zero => cases hj; rw [Addr.add_lit]; simpa using hc
      | succ j => cases hj)
    simp only [List.length_singleton] at hl
    simp [Conv.bytesToString, hl]
    rfl
theorem R_byteStr {t t' e : TypeId} {x : Operand} {n : Int} (ho : o.op = .convert t t' x) (hg : Grd ops o σ q) (hd : o.dst.all (fun d => Nat.blt d σ.n) = true) (hx : Get σ q x (.one (.t (.sl 1 [[.v (.int .u8 n)]]))))
    (hu : P.underlying t = some (.slice e)) (he : P.underlying e = some (.int .u8)) (hu' : P.underlying t' = some .string) : Op1 P ops o σ (σ.put o.dst (q, .a (.one (.t (.v (.string ⟨#[UInt8.ofNat n.toNat]⟩)))))) :=
  .val hg hd fun I w0 a w hr hq => by
    obtain ⟨G, h1, _⟩ : VE I w (.t (.sl 1 [[.v (.int .u8 n)]])) (a.eval x) := hx.va hr hq
    have hb := run_byteStr (P := P) h1
    have hs := h1
    simp only [C] at hs
    obtain ⟨ad, len, cap, e0, _⟩ := hs
    exact ⟨_, by
      rw [e0] at hb
      simp [execOp, ho, e0, Go.convert, run_underlying hu, run_underlying hu', run_underlying he, hb], VS_v _⟩
end
end Go.Q
