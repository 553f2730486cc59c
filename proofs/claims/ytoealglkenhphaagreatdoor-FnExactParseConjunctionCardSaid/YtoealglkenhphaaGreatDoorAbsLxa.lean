/- Merged texts. -/
import Derived.Test.YtoealglkenhphaaGreatDoorAbsJxa
set_option linter.unusedVariables false
set_option linter.unusedSimpArgs false
namespace Go.Q
open Go.RowKit
section
variable {P : Program} {ops : Array Oper} {o : Oper} {σ : St} {q : Bool}
/-- What an operation leaves: a slot; a new thing, or a thing changed. -/
structure Eff where
  d : Nat
  x : Bool × S
  o : Option (Nat × R)
  ch : Bool
  ad : List (Nat × R)
def Eff.run (y : Eff) (σ : St) : St := match y.o with
  | some (id, r) => bif y.ch then ⟨σ.n, (y.d, y.x) :: (σ.pur id).slots, (id, r) :: (σ.pur id).res⟩ else ⟨σ.n, (y.d, y.x) :: σ.slots, (id, r) :: σ.res⟩
  | none => ⟨σ.n, (y.d, y.x) :: σ.slots, addsR y.ad σ.res⟩
def Eff.has (y : Eff) (id : Nat) : Bool := y.x.2.has id || match y.o with | some (j, r) => Nat.beq j id || r.has id | none => y.ad.any fun z => Nat.beq z.1 id || z.2.has id
/-- What the operation needs is in σ. -/
def LocK (P : Program) (ops : Array Oper) (o : Oper) (σ : St) (y : Eff) : Prop := ∀ σ', Sup σ σ' → (∀ id r, y.o = some (id, r) → y.ch = false → σ'.has id = false) → (y.o = none → ∀ z ∈ y.ad, σ'.has z.1 = false) → Op1 P ops o σ' (y.run σ')
theorem Op1.look {σ' σ2 : St} (h : Op1 P ops o σ σ') (hn : σ2.n = σ'.n) (hs : ∀ i x, look σ2.slots i = some x → look σ'.slots i = some x) (hr : ∀ i x, look σ2.res i = some x → look σ'.res i = some x) : Op1 P ops o σ σ2 := fun w0 a w hr0 K Q hK =>
  h w0 a w hr0 K Q fun a' w' h' => hK a' w' (Rel.of_look h' hn hs hr)
theorem LocK.of {d : Nat} {x : Bool × S} (hd : o.dst = some d) (h : ∀ σ', Sup σ σ' → Op1 P ops o σ' (σ'.put o.dst x)) : LocK P ops o σ ⟨d, x, none, false, []⟩ := fun σ' hs _ _ => by
  have := h σ' hs
  rw [hd] at this
  exact this
theorem LocK.of1 {d id : Nat} {r : R} {x : Bool × S} (hd : o.dst = some d) (h : ∀ σ', Sup σ σ' → σ'.has id = false → Op1 P ops o σ' ((σ'.add id r).put o.dst x)) : LocK P ops o σ ⟨d, x, some (id, r), false, []⟩ := fun σ' hs hf _ => by
  have := h σ' hs (hf id r rfl rfl)
  rw [hd] at this
  exact this
inductive Vd (B : Nat → List Nat) (N : Nat) : List Nat → Prop where
  | nil : Vd B N []
  | cons {i : Nat} {π : List Nat} (h : Vd B N π) (hB : ∀ j ∈ B i, j ∈ π) (hi : i ∉ π) (hN : i < N) : Vd B N (i :: π)
theorem Vd.closed {B : Nat → List Nat} {N : Nat} {π : List Nat} (h : Vd B N π) : ∀ b ∈ π, ∀ j ∈ B b, j ∈ π := by
  induction h with
  | nil => intro b hb; cases hb
  | cons h hB hi hN ih =>
    intro b hb j hj
    rcases List.mem_cons.1 hb with rfl | hb
    · exact List.mem_cons_of_mem _ (hB j hj)
    · exact List.mem_cons_of_mem _ (ih b hb j hj)
/-- The operations that change things, with the things' names. -/
def chs : Nat → List Eff → List (Nat × Nat)
  | _, [] => []
  | k, y :: r => match y.o with
    | some (id, _) => bif y.ch then (k, id) :: chs (k + 1) r else chs (k + 1) r
    | none => chs (k + 1) r
section
variable {ys : List Eff} {B : Nat → List Nat} {N : Nat}
end
/-! ### What is known -/
def chOk (B : Nat → List Nat) (C : List (Nat × Nat)) (b : Option Nat) (i : Nat) (h : Nat → Bool) : Bool := C.all fun c => !(h c.2) || (Nat.beq c.1 i || memN (B c.1) i) || (match b with | some b => Nat.beq c.1 b || memN (B b) c.1 | none => false)
/-- What is known ahead of the operation i, of the operations (the last one first) that M lets through. -/
def knw (B : Nat → List Nat) (C : List (Nat × Nat)) (M : Nat → Bool) (i : Nat) : Nat → List Eff → St → St
  | k, y :: r, σ => let σ' := knw B C M i (k - 1) r σ
    bif M (k - 1) then ⟨σ'.n, bif chOk B C (some (k - 1)) i (fun j => y.x.2.has j) then (y.d, y.x) :: σ'.slots else σ'.slots, match y.o with | some (id, r) => bif chOk B C (some (k - 1)) i (fun j => Nat.beq id j || r.has j) then (id, r) :: σ'.res else σ'.res | none => addsR (y.ad.filter fun z => chOk B C (some (k - 1)) i fun j => Nat.beq z.1 j || z.2.has j) σ'.res⟩ else σ'
  | _, [], σ => ⟨σ.n, σ.slots.filter fun x => chOk B C none i fun j => x.2.2.has j, σ.res.filter fun x => chOk B C none i fun j => Nat.beq x.1 j || x.2.has j⟩
section
variable {B : Nat → List Nat} {C : List (Nat × Nat)} {M : Nat → Bool} {N : Nat}
/-- What is asked of the operations. -/
def effB (B : Nat → List Nat) (N : Nat) (σ : St) (ys : List Eff) : Bool :=
  ys.all (fun y => (look σ.slots y.d).isNone) && disN (ys.map (·.d)) && disN (σ.slots.map (·.1)) && disN (σ.res.map (·.1)) && ((List.range N).all fun j => !(memN (B j) N)) &&
  (List.range ys.length).all fun i => match ys[i]? with
    | some ⟨_, _, some (id, _), false, _⟩ => !σ.has id && (List.range ys.length).all fun b => Nat.beq b i || (match ys[b]? with | some z => !(z.has id) || memN (B b) i | none => true)
    | some ⟨_, _, none, _, ad⟩ => disN (ad.map (·.1)) && ad.all fun v => !σ.has v.1 && (List.range ys.length).all fun b => Nat.beq b i || (match ys[b]? with | some z => !(z.has v.1) || memN (B b) i | none => true)
    | _ => true
end
/-! ### The region -/
def StepsK (P : Program) (ops : Array Oper) (B : Nat → List Nat) (C : List (Nat × Nat)) (ys : List Eff) (σ : St) : Nat → List Oper → List Eff → Prop
  | i, o :: l, y :: r => LocK P ops o (knw B C (memN (B i)) i i (ys.take i).reverse σ) y ∧ StepsK P ops B C ys σ (i + 1) l r
  | _, _, _ => True
theorem StepsK.at {ops : Array Oper} {B : Nat → List Nat} {C : List (Nat × Nat)} {ys : List Eff} {σ : St} : ∀ (l : List Oper) (r : List Eff) (k : Nat), StepsK P ops B C ys σ k l r → ∀ i o y, l[i]? = some o → r[i]? = some y → LocK P ops o (knw B C (memN (B (k + i))) (k + i) (k + i) (ys.take (k + i)).reverse σ) y
  | [], r, k, h, i, o, y, hl, hr => by simp at hl
  | o' :: l, [], k, h, i, o, y, hl, hr => by simp at hr
  | o' :: l, y' :: r, k, h, 0, o, y, hl, hr => by simp at hl hr; subst hl; subst hr; exact h.1
  | o' :: l, y' :: r, k, h, i + 1, o, y, hl, hr => by
    have := StepsK.at l r (k + 1) h.2 i o y (by simpa using hl) (by simpa using hr)
    rwa [show k + 1 + i = k + (i + 1) by omega] at this
structure DrawK (P : Program) (w0 : Base) (Q : Exit → St → Prop) (N : Nat) (B : Nat → List Nat) (C : List (Nat × Nat)) (l : List Oper) (n : Nat) (sl : List (Nat × (Bool × S))) (rs : List (Nat × R)) (acc : List Eff) (k : Nat) (rest : List Oper) : Prop where
  pf : acc.length = k → rest = l.drop k → ∃ more : List Eff, (acc.reverse ++ more).length = N ∧
    StepsK P l.toArray B C (acc.reverse ++ more) ⟨n, sl, rs⟩ k rest more ∧ effB B N ⟨n, sl, rs⟩ (acc.reverse ++ more) = true ∧ chs 0 (acc.reverse ++ more) = C ∧
    AWl P w0 l.toArray Q (l.drop N) (knw B C (fun _ => true) N N (acc.reverse ++ more).reverse ⟨n, sl, rs⟩)
variable {w0 : Base} {Q : Exit → St → Prop} {N : Nat} {B : Nat → List Nat} {C : List (Nat × Nat)} {l : List Oper} {n : Nat} {sl : List (Nat × (Bool × S))} {rs : List (Nat × R)} {acc : List Eff} {k : Nat} {rest : List Oper}
theorem DrawK.step {y : Eff} (hl : LocK P l.toArray o (knw B C (memN (B k)) k k acc ⟨n, sl, rs⟩) y) (h : DrawK P w0 Q N B C l n sl rs (y :: acc) (k + 1) rest) : DrawK P w0 Q N B C l n sl rs acc k (o :: rest) := ⟨fun ha hr => by
  have hd : rest = l.drop (k + 1) := by
    have := congrArg (List.drop 1) hr
    simpa using this
  obtain ⟨more, h1, h2, h3, h4, h5⟩ := h.pf (by simp [ha]) hd
  have e : (y :: acc).reverse ++ more = acc.reverse ++ (y :: more) := by simp
  rw [e] at h1 h2 h3 h4 h5
  refine ⟨y :: more, h1, ⟨?_, h2⟩, h3, h4, h5⟩
  have : ((acc.reverse ++ (y :: more)).take k).reverse = acc := by
    rw [List.take_append_of_le_length (by simp [ha]), List.take_of_length_le (by simp [ha]), List.reverse_reverse]
  rw [this]
  exact hl⟩
theorem DrawK.fin (hk : Nat.beq k N = true) (hU : effB B N ⟨n, sl, rs⟩ acc.reverse = true) (hC : chs 0 acc.reverse = C) (h : AWl P w0 l.toArray Q rest (knw B C (fun _ => true) N k acc ⟨n, sl, rs⟩)) : DrawK P w0 Q N B C l n sl rs acc k rest := ⟨fun ha hr => by
  have hk' := Nat.eq_of_beq_eq_true hk
  subst hk'
  refine ⟨[], by simp [ha], by unfold StepsK; split <;> first | trivial | (rename_i h; cases h), by rw [List.append_nil]; exact hU, by rw [List.append_nil]; exact hC, ?_⟩
  rw [List.append_nil, List.reverse_reverse, ← hr]
  exact h⟩
end
end Go.Q
set_option linter.unusedVariables false
set_option linter.unusedSimpArgs false
namespace Go.Q
open Go.RowKit
section
variable {P : Program}
theorem Op1.le {ops : Array Oper} {o : Oper} {σ σ' σ2 : St} (h : Op1 P ops o σ σ2) (hs : Sup σ' σ2) : Op1 P ops o σ σ' := fun w0 a w hr K Q' hK => h w0 a w hr K Q' fun a' w' hr' => hK a' w' (Rel.of_look hr' hs.n.symm (fun t x h => hs.slots t x h) (fun t x h => hs.res t x h))
def FinS (P : Program) (w0 : Base) (Q : Exit → St → Prop) (M e : Nat) (B : Nat → List Nat) (l : List Oper) (n : Nat) (sl : List (Nat × (Bool × S))) (rs : List (Nat × R)) (outs : List Out) : Prop :=
  delS (outs.map (·.1)) sl = sl ∧ outB B ⟨n, sl, rs⟩ outs = true ∧ ∃ σA σ1 σF, (∀ o, l[M]? = some o → Op1 P l.toArray o (stL (fun _ => true) 0 outs ⟨n, sl, rs⟩) σA) ∧ (∀ o, l[M]? = some o → Op1 P l.toArray o (stL (fun j => !(Nat.beq j e)) 0 outs ⟨n, sl, rs⟩) σ1) ∧
  (∀ o, l[e]? = some o → Op1 P l.toArray o σ1 σF) ∧ Sup σF σA ∧ AWl P w0 l.toArray Q (l.drop (M + 1)) σF
theorem FinS.mk {w0 : Base} {Q : Exit → St → Prop} {M e : Nat} {B : Nat → List Nat} {l : List Oper} {n : Nat} {sl : List (Nat × (Bool × S))} {rs : List (Nat × R)} {outs : List Out} {oM oE : Oper} {σA σ1 σE : St} (σF : St) (hd : delS (outs.map (·.1)) sl = sl) (hU : outB B ⟨n, sl, rs⟩ outs = true) (hM : l[M]? = some oM) (hE : l[e]? = some oE)
    (hA : Op1 P l.toArray oM (stL (fun _ => true) 0 outs ⟨n, sl, rs⟩) σA) (h1 : Op1 P l.toArray oM (stL (fun j => !(Nat.beq j e)) 0 outs ⟨n, sl, rs⟩) σ1) (hEE : Op1 P l.toArray oE σ1 σE) (hF : Sup σF σA) (hF2 : Sup σF σE) (hfin : AWl P w0 l.toArray Q (l.drop (M + 1)) σF) : FinS P w0 Q M e B l n sl rs outs :=
  ⟨hd, hU, σA, σ1, σF, fun o h => by rw [hM] at h; cases h; exact hA, fun o h => by rw [hM] at h; cases h; exact h1, fun o h => by rw [hE] at h; cases h; exact hEE.le hF2, hF, hfin⟩
end
end Go.Q
