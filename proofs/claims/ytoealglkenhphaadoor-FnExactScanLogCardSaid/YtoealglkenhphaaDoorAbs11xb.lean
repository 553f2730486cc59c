/- More operations: comparisons, function values, parts of slices. -/
import Derived.Test.YtoealglkenhphaaDoorAbsExb
set_option linter.unusedVariables false
set_option linter.unusedSimpArgs false
namespace Go.Q
open Go.RowKit
section
variable {P : Program} {ops : Array Oper} {o : Oper} {σ : St} {q : Bool}
theorem guard_bool {op : BinOp} {t : TypeId} {x y : Operand} {n m : Bool} (w : World) : (eqGuard op t x y (.bool n) (.bool m)).run P w = .ok () w := by
  unfold eqGuard; split <;> rfl
theorem R_neb {t t' : TypeId} {x y : Operand} {n m : Bool} (ho : o.op = .binOp .neq t x y t') (hg : Grd ops o σ q) (hd : o.dst.all (fun d => Nat.blt d σ.n) = true) (hx : Get σ q x (.one (.t (.v (.bool n))))) (hy : Get σ q y (.one (.t (.v (.bool m))))) (hu : P.underlying t = some .bool) :
    Op1 P ops o σ (σ.put o.dst (q, .a (.one (.t (.v (.bool (!(n == m)))))))) := R_bin ho hg hd hx hy guard_bool (h := fun _ w => by simp [binOp, run_equal_bool w t n m hu])
/-- Plain cells, written out. -/
def plain : List E → Option (List Value)
  | [] => some []
  | e :: r => match e with
    | .t (.v x) => (match plain r with | some l => some (x :: l) | none => none)
    | _ => none
/-! ### Function values -/
def GetsT (σ : St) (q : Bool) : List Operand → List T → Prop
  | [], ts => ts = []
  | x :: r, ts => ∃ t tr, ts = t :: tr ∧ Get σ q x (.one (.t t)) ∧ GetsT σ q r tr
theorem GetsT.ok {I : Ip} {w0 : Base} {w : World} {a : Act} (hr : RelI I w0 σ a w) : ∀ {l : List Operand} {ts : List T}, GetsT σ true l ts → ∃ G, Cs false w ts (l.map a.eval) G ∧ ∀ b ∈ G, I.Z b
  | [], ts, h => by cases h; exact ⟨[], by simp [Cs], by simp⟩
  | x :: r, ts, ⟨t, tr, e, h1, h2⟩ => by
    subst e
    obtain ⟨G1, g1, g2⟩ := h1.va hr rfl
    obtain ⟨G2, g3, g4⟩ := GetsT.ok hr h2
    refine ⟨G1 ++ G2, by simp only [List.map_cons, Cs]; exact ⟨_, _, G1, G2, rfl, g1, g3, rfl⟩, fun b hb => ?_⟩
    rcases List.mem_append.1 hb with hb | hb
    · exact g2 b hb
    · exact g4 b hb
theorem GetsT.nil : GetsT σ q [] [] := rfl
theorem GetsT.cons {x : Operand} {r : List Operand} {t : T} {tr : List T} (h : Get σ q x (.one (.t t))) (hr : GetsT σ q r tr) : GetsT σ q (x :: r) (t :: tr) := ⟨t, tr, rfl, h, hr⟩
/-! ### Parts of slices -/
theorem Rws.drop {oo : Bool} {w : World} {b k : Nat} : ∀ {rs : List (List T)} {off : Nat} {F : List Nat}, Rws oo w b k off rs F → ∀ j, j ≤ rs.length → ∃ G, Rws oo w b k (off + j * k) (rs.drop j) G ∧ ∀ x ∈ G, x ∈ F
  | rs, off, F, h, 0, _ => ⟨F, by simpa using h, fun x hx => hx⟩
  | [], off, F, h, j + 1, hj => by simp at hj
  | r :: rs, off, F, h, j + 1, hj => by
    simp only [Rws] at h
    obtain ⟨G1, G2, h1, h2, h3, rfl⟩ := h
    obtain ⟨G, g1, g2⟩ := Rws.drop h3 j (by simpa using hj)
    refine ⟨G, ?_, fun x hx => by simp [g2 x hx]⟩
    rw [show off + (j + 1) * k = off + k + j * k by rw [Nat.succ_mul]; omega]
    exact g1
theorem Rws.take {oo : Bool} {w : World} {b k : Nat} : ∀ {rs : List (List T)} {off : Nat} {F : List Nat}, Rws oo w b k off rs F → ∀ j, ∃ G, Rws oo w b k off (rs.take j) G ∧ ∀ x ∈ G, x ∈ F
  | rs, off, F, h, 0 => ⟨[], by simp [Rws], by simp⟩
  | [], off, F, h, j + 1 => ⟨F, by simpa using h, fun x hx => hx⟩
  | r :: rs, off, F, h, j + 1 => by
    simp only [Rws] at h
    obtain ⟨G1, G2, h1, h2, h3, rfl⟩ := h
    obtain ⟨G, g1, g2⟩ := Rws.take h3 j
    refine ⟨G1 ++ G, ?_, fun x hx => ?_⟩
    · rw [List.take_succ_cons]
      simp only [Rws]
      exact ⟨G1, G, h1, h2, g1, rfl⟩
    · rcases List.mem_append.1 hx with hx | hx
      · simp [hx]
      · simp [g2 x hx]
inductive Bnd (σ : St) (q : Bool) : Option Operand → Nat → Nat → Prop where
  | no {d : Nat} : Bnd σ q none d d
  | yes {x : Operand} {d m : Nat} {n : Int} (h : Get σ q x (.one (.t (.v (.int .i64 n))))) (hn : q = true → n = (m : Int)) : Bnd σ q (some x) d m
theorem Bnd.val {x : Option Operand} {d n : Nat} (h : Bnd σ q x d n) {I : Ip} {w0 : Base} {w : World} {a : Act} (hr : RelI I w0 σ a w) (hq : q = true) : x.map a.eval = none ∧ n = d ∨ x.map a.eval = some (.int .i64 (n : Int)) := by
  cases h with
  | no => exact .inl ⟨rfl, rfl⟩
  | yes h hn => exact .inr (by simp [h.int hr hq, hn hq])
end
end Go.Q
