/- Merged texts. -/
import Derived.Test.YtoealglkenhphaaDoorAbsTxa
set_option linter.unusedVariables false
set_option linter.unusedSimpArgs false
namespace Go.Q
open Go.RowKit
section
variable {P : Program} {ops : Array Oper} {o : Oper} {σ : St}
end
end Go.Q
set_option linter.unusedVariables false
set_option linter.unusedSimpArgs false
namespace Go.Q
open Go.RowKit
section
variable {P : Program} {ops : Array Oper} {o : Oper} {σ : St} {q : Bool}
theorem run_byteStr {w : World} {n : Int} {v : Value} {G : List Nat} (h : C false w (.sl 1 [[.v (.int .u8 n)]]) v G) : (Conv.bytesToString v).run P w = .ok (.string ⟨#[UInt8.ofNat n.toNat]⟩) w := by
  simp only [C] at h
  obtain ⟨a, len, cap, rfl, e1, e2, e3, e4⟩ := h
  have e1 : len = 1 := by simpa using e1.symm
  subst e1
  rcases e4 with ⟨h0, _⟩ | ⟨b, off, G', rfl, _, hb, _, hR⟩
  · omega
  · simp only [Rws, Ms, C] at hR
    obtain ⟨_, _, _, ⟨c, _, _, hc, ⟨rfl, _⟩, _⟩, _⟩ := hR
    have hl := run_loadCells_list (P := P) w ⟨b, off, none⟩ [.int .u8 n] (fun j u hj => by
      cases j with
      | zero => cases hj; rw [Addr.add_lit]; simpa using hc
      | succ j => cases hj)
    simp only [List.length_singleton] at hl
    simp [Conv.bytesToString, hl]
    rfl
theorem R_byteStr {t t' e : TypeId} {x : Operand} {n : Int} (ho : o.op = .convert t t' x) (hg : Grd ops o σ q) (hd : o.dst.all (fun d => Nat.blt d σ.n) = true) (hx : Get σ q x (.one (.t (.sl 1 [[.v (.int .u8 n)]]))))
    (hu : P.underlying t = some (.slice e)) (he : P.underlying e = some (.int .u8)) (hu' : P.underlying t' = some .string) : Op1 P ops o σ (σ.put o.dst (q, .a (.one (.t (.v (.string ⟨#[UInt8.ofNat n.toNat]⟩)))))) :=
  .val hg hd fun I w0 a w hr hq => by
    obtain ⟨G, h1, _⟩ : VE I w (.t (.sl 1 [[.v (.int .u8 n)]])) (a.eval x) := hx.va hr hq
    have hb := run_byteStr (P := P) h1
    have hs := h1
    simp only [C] at hs
    obtain ⟨ad, len, cap, e0, _⟩ := hs
    exact ⟨_, by
      rw [e0] at hb
      simp [execOp, ho, e0, Go.convert, run_underlying hu, run_underlying hu', run_underlying he, hb], VS_v _⟩
end
end Go.Q
