/- A row cut short, cleared from a place on, sorted. -/
import Derived.Test.YtoealglkenhphaaGreatAbsHxa
set_option linter.unusedVariables false
set_option linter.unusedSimpArgs false
namespace Go.Q
open Go.RowKit
section
variable {P : Program} {ops : Array Oper} {o : Oper} {σ : St} {q : Bool}
theorem R_load_prq {id k i p : Nat} {t : TypeId} {x : Operand} {rows : List (List T)} {row : List T} {ag : Bool} {n : Nat} (ho : o.op = .load t x) (hg : Grd ops o σ q) (hd : o.dst.all (fun d => Nat.blt d σ.n) = true) (hx : Get σ q x (.one (.pr id k i p))) (hs : look σ.res id = some (.row k rows)) (hi : q = true → rows[i]? = some row) (ht : tyB P t ag n = true)
    (hn : Nat.ble (p + n) row.length = true) (h1 : (ag || Nat.beq n 1) = true) : Op1 P ops o σ (σ.put o.dst (q, .a (mkA ag (((row.drop p).take n).map (toE id))))) := by
  cases q with
  | true => exact R_load_pr ho hg hd hx hs (hi rfl) ht hn h1
  | false => exact .val hg hd fun I w0 a w hr hq => by cases hq
theorem isV_map {α : Type} {f : α → List T} (h : ∀ x, (f x).all T.isV = true) : ∀ l : List α, (l.map f).flatten.all T.isV = true
  | [] => rfl
  | x :: l => by rw [List.map_cons, List.flatten_cons, List.all_append, h x, isV_map h l]; rfl
theorem isV_part {α : Type} {f : α → List T} (h : ∀ x, (f x).all T.isV = true) (l : List α) (n m : Nat) : (((l.map f).take m).drop n).flatten.all T.isV = true := by
  rw [← List.map_take, ← List.map_drop]; exact isV_map h _
/-- A part of the row, to be read. -/
theorem R_slice_vwr {id : Nat} {t e : TypeId} {x : Operand} {lo hi : Option Operand} {k n m : Nat} {ag : Bool} {rows : List (List T)} (ho : o.op = .slice t x lo hi none) (hg : Grd ops o σ q) (hd : o.dst.all (fun d => Nat.blt d σ.n) = true) (hx : Get σ q x (.one (.rf id))) (hs : look σ.res id = some (.row k rows))
    (hl : Bnd σ q lo 0 n) (hh : Bnd σ q hi rows.length m) (hu : P.underlying t = some (.slice e)) (hk : tyB P e ag k = true) (hb : q = true → n ≤ m ∧ m ≤ rows.length) : Op1 P ops o σ (σ.put o.dst (q, .a (.one (.vw id (.sl k ((rows.take m).drop n)))))) :=
  .val hg hd fun I w0 a w hr hq => by
    have hv : VE I w (.rf id) (a.eval x) := hx.va hr hq
    have hC : C true w (.sl k rows) (I.hd id) (I.F id) := hr.res id _ hs
    obtain ⟨v', F', g1, g2, g3⟩ := slice_C hu hk (C.read hC) (hl.val hr hq) (hh.val hr hq) (hb hq).2 (hb hq).1
    rw [← hv.1] at g1
    exact ⟨v', by simp [execOp, ho, g1], F', g2, g3⟩
/-! ### Rows of nil slices -/
theorem Rws_nils {w : World} {b k' : Nat} : ∀ {n off : Nat} {G : List Nat}, Rws true w b 1 off (List.replicate n [.v (.slice none 0 0)]) G → Rws true w b 1 off (List.replicate n [.sl k' []]) G
  | 0, _, _, h => h
  | n + 1, off, G, h => by
    rw [List.replicate_succ] at h ⊢
    simp only [Rws] at h ⊢
    obtain ⟨G1, G2, h1, h2, h3, rfl⟩ := h
    refine ⟨G1, G2, rfl, ?_, Rws_nils h3, rfl⟩
    simp only [Ms] at h2 ⊢
    obtain ⟨c, G3, G4, h4, h5, h6, rfl⟩ := h2
    refine ⟨c, G3, G4, h4, ?_, h6, rfl⟩
    simp only [C] at h5
    obtain ⟨rfl, rfl, _⟩ := h5
    unfold C
    exact ⟨none, 0, 0, rfl, rfl, Nat.le_refl _, Nat.zero_le _, .inl ⟨rfl, rfl, fun _ => rfl⟩⟩
theorem C_nils {w : World} {n k' : Nat} {v : Value} {F : List Nat} (h : C true w (.sl 1 (List.replicate n [.v (.slice none 0 0)])) v F) : C true w (.sl 1 (List.replicate n [.sl k' []])) v F := by
  simp only [C] at h ⊢
  obtain ⟨a, len, cap, h1, h2, h3, h4, h5⟩ := h
  refine ⟨a, len, cap, h1, by simpa using h2, h3, h4, ?_⟩
  rcases h5 with h5 | ⟨b, off, G, h6, h7, h8, h9, h10⟩
  · exact .inl h5
  · exact .inr ⟨b, off, G, h6, h7, h8, h9, Rws_nils h10⟩
theorem RelI.rerow {I : Ip} {w0 : Base} {w : World} {a : Act} (h : RelI I w0 σ a w) {id : Nat} {r0 r : R} (h0 : look σ.res id = some r0) (hv : RR I w id r0 → RR I w id r) : RelI I w0 ⟨σ.n, σ.slots, setR σ.res id r⟩ a w := by
  have key : ∀ i r', look (setR σ.res id r) i = some r' → (i = id ∧ r' = r) ∨ look σ.res i = some r' := fun i r' hi => by
    rcases look_setR _ _ _ _ _ hi with ⟨h1, h2, _⟩ | ⟨_, h2⟩
    · exact .inl ⟨h1, h2⟩
    · exact .inr h2
  refine ⟨h.ext, h.defers, h.size, h.slots, fun i r' hi => ?_, h.old, h.lt, fun i r' hi => ?_, h.apart⟩
  · rcases key i r' hi with ⟨rfl, rfl⟩ | hi
    · exact hv (h.res _ _ h0)
    · exact h.res i r' hi
  · rcases key i r' hi with ⟨rfl, rfl⟩ | hi
    · exact h.own _ _ h0
    · exact h.own i r' hi
theorem Le.nilRow {n0 : Nat} {sl : List (Nat × (Bool × S))} {rs : List (Nat × R)} {id m : Nat} (k' : Nat) (hs : look rs id = some (.row 1 (List.replicate m [.v (.slice none 0 0)]))) : Le ⟨n0, sl, rs⟩ ⟨n0, sl, setR rs id (.row 1 (List.replicate m [.sl k' []]))⟩ := fun w0 a w ⟨I, hr⟩ =>
  ⟨I, hr.rerow (r := .row 1 (List.replicate m [.sl k' []])) hs fun h => C_nils h⟩
end
end Go.Q
