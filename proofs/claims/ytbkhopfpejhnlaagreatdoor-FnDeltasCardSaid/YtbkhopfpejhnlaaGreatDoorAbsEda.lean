import Derived.Test.YtbkhopfpejhnlaaGreatDoorAbsDda
set_option linter.unusedVariables false
set_option linter.unusedSimpArgs false
namespace Go.Q
open Go.RowKit
section
variable {P : Program} {ops : Array Oper} {o : Oper} {σ σ' : St} {q : Bool}
theorem Loc.of1 {d id : Nat} {r : R} {x : Bool × S} (hd : o.dst = some d) (h : ∀ σ', Sup σ σ' → σ'.has id = false → Op1 P ops o σ' ((σ'.add id r).put o.dst x)) : Loc P ops o σ (d, x, [(id, r)]) := fun σ' hs hf => by
 have := h σ' hs (hf (id, r) (by simp))
 rw [hd] at this
 exact this
theorem adds_addsR (l : List (Nat × R)) (σ : St) : St.adds σ l = ⟨σ.n, σ.slots, addsR l σ.res⟩ := adds_eq l σ.n σ.slots σ.res
theorem Loc.ofs {d : Nat} {rl : List (Nat × R)} {x : Bool × S} (hd : o.dst = some d) (h : ∀ σ', Sup σ σ' → (∀ z ∈ rl, σ'.has z.1 = false) → Op1 P ops o σ' ((σ'.adds rl).put o.dst x)) : Loc P ops o σ (d, x, rl) := fun σ' hs hf => by
 have := h σ' hs hf
 rw [hd, adds_addsR] at this
 exact this
def nthB : List (List Nat) → Nat → List Nat
 | [], _ => []
 | x :: l, i => bif Nat.beq i 0 then x else nthB l (i - 1)
def stR (L : Nat → Bool) : Nat → List Out → St → St
 | k, y :: r, σ => let σ' := stR L (k - 1) r σ; bif L (k - 1) then ⟨σ'.n, (y.1, y.2.1) :: σ'.slots, addsR y.2.2 σ'.res⟩ else σ'
 | _, [], σ => σ
theorem stL_append (L : Nat → Bool) : ∀ (l1 l2 : List Out) (i : Nat) (σ : St), stL L i (l1 ++ l2) σ = stL L (i + l1.length) l2 (stL L i l1 σ)
 | [], l2, i, σ => by simp [stL]
 | y :: r, l2, i, σ => by
  rw [List.cons_append, stL, stL_append L r l2, stL]
  congr 1
  simp; omega
theorem stR_eq (L : Nat → Bool) : ∀ (r : List Out) (σ : St), stR L r.length r σ = stL L 0 r.reverse σ
 | [], σ => rfl
 | y :: r, σ => by
  rw [stR, List.reverse_cons, stL_append, show (y :: r).length - 1 = r.length by simp, stR_eq L r σ]
  simp only [List.length_reverse, Nat.zero_add, stL]
theorem stL_false (L : Nat → Bool) : ∀ (l : List Out) (i : Nat) (σ : St), (∀ j, i ≤ j → L j = false) → stL L i l σ = σ
 | [], _, _, _ => rfl
 | y :: r, i, σ, h => by
  rw [stL, h i (Nat.le_refl _)]
  exact stL_false L r (i + 1) σ fun j hj => h j (by omega)
def dstsN (l : List Oper) (N : Nat) : List Nat := (l.take N).filterMap (·.dst)
structure DrawC (P : Program) (w0 : Base) (Q : Exit → St → Prop) (N : Nat) (B : Nat → List Nat) (l : List Oper) (n : Nat) (sl : List (Nat × (Bool × S))) (rs : List (Nat × R)) (acc : List Out) (k : Nat) (rest : List Oper) : Prop where
 pf : acc.length = k → rest = l.drop k → ∃ more : List Out, (acc.reverse ++ more).length = N ∧ dstsN rest (N - k) = more.map (·.1) ∧
  Steps P l.toArray B (acc.reverse ++ more) ⟨n, delS (dstsN l N) sl, rs⟩ k rest more ∧ outB B ⟨n, sl, rs⟩ (acc.reverse ++ more) = true ∧ AWl P w0 l.toArray Q (l.drop N) (stL (fun _ => true) 0 (acc.reverse ++ more) ⟨n, sl, rs⟩)
variable {w0 : Base} {Q : Exit → St → Prop} {N : Nat} {B : Nat → List Nat} {l : List Oper} {n : Nat} {sl : List (Nat × (Bool × S))} {rs : List (Nat × R)} {acc : List Out} {k : Nat} {rest : List Oper}
theorem AW.drawn {id : Nat} (N : Nat) (B : Nat → List Nat) (hm : P.follows .mixedOrders = true) (hB : planC l.toArray N = true) (hO : ordB l B N = true) (h : DrawC P w0 Q N B l n sl rs [] 0 l) : AW P w0 (.region id l.toArray true) Q ⟨n, sl, rs⟩ := by
 obtain ⟨more, h1, h2, h3, h4, h5⟩ := h.pf rfl rfl
 simp only [List.reverse_nil, List.nil_append, Nat.sub_zero] at h1 h2 h3 h4 h5
 rw [h2] at h3
 exact AW.draw N B more hm hB hO h1 h3 h4 h5
theorem DrawC.step {y : Out} (hN : Nat.blt k N = true) (hlt : ((B k).all fun j => Nat.blt j k) = true) (ho : o.dst = some y.1) (hl : Loc P l.toArray o (stR (memN (B k)) k acc ⟨n, delS (dstsN l N) sl, rs⟩) y) (h : DrawC P w0 Q N B l n sl rs (y :: acc) (k + 1) rest) : DrawC P w0 Q N B l n sl rs acc k (o :: rest) := ⟨fun ha hr => by
 have hd : rest = l.drop (k + 1) := by
  have := congrArg (List.drop 1) hr
  simpa using this
 obtain ⟨more, h1, h2, h3, h4, h5⟩ := h.pf (by simp [ha]) hd
 have e : (y :: acc).reverse ++ more = acc.reverse ++ (y :: more) := by simp
 rw [e] at h1 h3 h4 h5
 have hN' : k < N := Nat.le_of_ble_eq_true hN
 refine ⟨y :: more, h1, ?_, ⟨?_, h3⟩, h4, h5⟩
 · rw [show N - k = (N - (k + 1)) + 1 by omega]
   simp only [dstsN, List.take_succ_cons, List.filterMap_cons, ho, List.map_cons] at h2 ⊢
   rw [h2]
 · have : stL (memN (B k)) 0 (acc.reverse ++ (y :: more)) ⟨n, delS (dstsN l N) sl, rs⟩ = stR (memN (B k)) k acc ⟨n, delS (dstsN l N) sl, rs⟩ := by
    rw [stL_append, ← ha, stR_eq, stL_false]
    intro j hj
    rw [List.length_reverse, Nat.zero_add, ha] at hj
    cases hm : memN (B acc.length) j with
    | false => rfl
    | true =>
     have h1 := List.all_eq_true.1 hlt j (by rw [← ha]; exact memN_iff.1 hm)
     have h2 : j < k := Nat.le_of_ble_eq_true h1
     omega
   rw [this]
   exact hl⟩
def finSl : List Out → List (Nat × (Bool × S)) → List (Nat × (Bool × S))
 | [], sl => sl
 | y :: r, sl => (y.1, y.2.1) :: finSl r sl
def finRs : List Out → List (Nat × R) → List (Nat × R)
 | [], rs => rs
 | y :: r, rs => addsR y.2.2 (finRs r rs)
theorem fin_eq : ∀ (acc : List Out) (k : Nat), stR (fun _ => true) k acc ⟨n, sl, rs⟩ = ⟨n, finSl acc sl, finRs acc rs⟩
 | [], k => by cases k <;> rfl
 | y :: r, k => by rw [stR, fin_eq r]; rfl
theorem DrawC.fin (hk : Nat.beq k N = true) (hU : outB B ⟨n, sl, rs⟩ acc.reverse = true) (h : AWl P w0 l.toArray Q rest ⟨n, finSl acc sl, finRs acc rs⟩) : DrawC P w0 Q N B l n sl rs acc k rest := ⟨fun ha hr => by
 have hk' := Nat.eq_of_beq_eq_true hk
 subst hk'
 refine ⟨[], by simp [ha], by simp [dstsN], by unfold Steps; split <;> first | trivial | (rename_i h; cases h), by rw [List.append_nil]; exact hU, ?_⟩
 rw [List.append_nil, ← stR_eq, fin_eq, ← hr]
 exact h⟩
end
end Go.Q
