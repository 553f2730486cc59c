import Derived.Test.YtbkhopfpejhnlaaGreatDoorAbsEda
import Derived.Test.YtbkhopfpejhnlaaGreatDoorAbs13da
import Derived.Test.YtbkhopfpejhnlaaGreatDoorAbsIda
set_option linter.unusedVariables false
set_option linter.unusedSimpArgs false
namespace Go.Q
open Go.RowKit
section
variable {P : Program}
def disN : List Nat → Bool
 | [] => true
 | x :: l => l.all (fun y => !(Nat.beq x y)) && disN l
theorem Sup.sub0 {σ σ' : St} (hn : σ'.n = σ.n) (hs : SubS0 σ σ'.slots) (hr : SubR0 σ σ'.res) : Sup σ' σ := ⟨hn.symm, fun i x h => look_SubS0 hs i x h, fun i x h => look_SubR0 hr i x h⟩
def StepsF (P : Program) (ops : Array Oper) (B : Nat → List Nat) (outs : List Out) (X : Nat → Bool) (σ σ2 : St) : Nat → List Oper → List Out → Prop
 | i, o :: l, y :: r => Loc P ops o (stL (memN (B i)) 0 outs (bif X i then σ2 else σ)) y ∧ StepsF P ops B outs X σ σ2 (i + 1) l r
 | _, _, _ => True
theorem StepsF.at {ops : Array Oper} {B : Nat → List Nat} {outs : List Out} {X : Nat → Bool} {σ σ2 : St} : ∀ (l : List Oper) (r : List Out) (k : Nat), StepsF P ops B outs X σ σ2 k l r → ∀ i o y, l[i]? = some o → r[i]? = some y → Loc P ops o (stL (memN (B (k + i))) 0 outs (bif X (k + i) then σ2 else σ)) y
 | [], r, k, h, i, o, y, hl, hr => by simp at hl
 | o' :: l, [], k, h, i, o, y, hl, hr => by simp at hr
 | o' :: l, y' :: r, k, h, 0, o, y, hl, hr => by simp at hl hr; subst hl; subst hr; exact h.1
 | o' :: l, y' :: r, k, h, i + 1, o, y, hl, hr => by
  have := StepsF.at l r (k + 1) h.2 i o y (by simpa using hl) (by simpa using hr)
  rwa [show k + 1 + i = k + (i + 1) by omega] at this
end
end Go.Q
namespace Go.Q
open Go.RowKit
section
variable {P : Program} {ops : Array Oper} {o : Oper} {σ : St} {q : Bool}
structure DrawG (P : Program) (N : Nat) (B : Nat → List Nat) (l : List Oper) (n : Nat) (sl : List (Nat × (Bool × S))) (rs : List (Nat × R)) (Fin : List Out → Prop) (acc : List Out) (k : Nat) (rest : List Oper) : Prop where
 pf : acc.length = k → rest = l.drop k → ∃ more : List Out, (acc.reverse ++ more).length = N ∧
  Steps P l.toArray B (acc.reverse ++ more) ⟨n, sl, rs⟩ k rest more ∧ Fin (acc.reverse ++ more)
variable {N : Nat} {B : Nat → List Nat} {l : List Oper} {n : Nat} {sl : List (Nat × (Bool × S))} {rs : List (Nat × R)} {Fin : List Out → Prop} {acc : List Out} {k : Nat} {rest : List Oper}
theorem DrawG.step {y : Out} (hN : Nat.blt k N = true) (hlt : ((B k).all fun j => Nat.blt j k) = true) (hl : Loc P l.toArray o (stR (memN (B k)) k acc ⟨n, sl, rs⟩) y) (h : DrawG P N B l n sl rs Fin (y :: acc) (k + 1) rest) : DrawG P N B l n sl rs Fin acc k (o :: rest) := ⟨fun ha hr => by
 have hd : rest = l.drop (k + 1) := by
  have := congrArg (List.drop 1) hr
  simpa using this
 obtain ⟨more, h1, h3, h4⟩ := h.pf (by simp [ha]) hd
 have e : (y :: acc).reverse ++ more = acc.reverse ++ (y :: more) := by simp
 rw [e] at h1 h3 h4
 refine ⟨y :: more, h1, ⟨?_, h3⟩, h4⟩
 have : stL (memN (B k)) 0 (acc.reverse ++ (y :: more)) ⟨n, sl, rs⟩ = stR (memN (B k)) k acc ⟨n, sl, rs⟩ := by
  rw [stL_append, ← ha, stR_eq, stL_false]
  intro j hj
  rw [List.length_reverse, Nat.zero_add, ha] at hj
  cases hm : memN (B acc.length) j with
  | false => rfl
  | true =>
   have h1 := List.all_eq_true.1 hlt j (by rw [← ha]; exact memN_iff.1 hm)
   have h2 : j < k := Nat.le_of_ble_eq_true h1
   omega
 rw [this]
 exact hl⟩
theorem DrawG.fin (hk : Nat.beq k N = true) (h : Fin acc.reverse) : DrawG P N B l n sl rs Fin acc k rest := ⟨fun ha hr => by
 have hk' := Nat.eq_of_beq_eq_true hk
 refine ⟨[], by simp [ha, hk'], by unfold Steps; split <;> first | trivial | (rename_i h; cases h), by rw [List.append_nil]; exact h⟩⟩
def FinA (P : Program) (w0 : Base) (Q : Exit → St → Prop) (N : Nat) (B : Nat → List Nat) (l : List Oper) (σ : St) (o : Oper) (nid d : Nat) (r : R) (x : Bool × S) (outs : List Out) : Prop :=
 (outs.all (fun y => y.2.2.isEmpty) = true ∧ outs.map (fun y => y.2.1.2.pur nid) = outs.map (fun y => y.2.1.2) ∧ outs.all (fun y => (look σ.slots y.1).isNone && !(Nat.beq y.1 d)) = true ∧ disN (outs.map (·.1)) = true) ∧
 (∀ σ', Sup (stL (memN (B N)) 0 outs σ) σ' → Op1 P l.toArray o σ' ((σ'.chg nid r).put o.dst x)) ∧
 AWl P w0 l.toArray Q (l.drop (N + 1)) (stL (fun _ => true) 0 outs ((σ.chg nid r).put (some d) x))
theorem stL_all : ∀ (outs : List Out) (i : Nat) (σ : St), stL (fun _ => true) i outs σ = ⟨σ.n, finSl outs.reverse σ.slots, finRs outs.reverse σ.res⟩ := fun outs i σ => by
 have h := fin_eq (n := σ.n) (sl := σ.slots) (rs := σ.res) outs.reverse outs.reverse.length
 rw [stR_eq, List.reverse_reverse] at h
 have key : ∀ (os : List Out) (i j : Nat) (σ : St), stL (fun _ => true) i os σ = stL (fun _ => true) j os σ := by
  intro os
  induction os with
  | nil => intro i j σ; rfl
  | cons y os ih => intro i j σ; rw [stL, stL]; exact ih _ _ _
 rw [key outs i 0 σ]
 exact h
theorem FinA.mk {w0 : Base} {Q : Exit → St → Prop} {nid d : Nat} {r : R} {x : Bool × S} (h1 : (acc.reverse.all (fun y => y.2.2.isEmpty) && (acc.reverse.all (fun y => (look σ.slots y.1).isNone && !(Nat.beq y.1 d)) && disN (acc.reverse.map (·.1)))) = true) (h2 : acc.reverse.map (fun y => y.2.1.2.pur nid) = acc.reverse.map (fun y => y.2.1.2))
 (h3 : ∀ σ', Sup (stR (memN (B N)) N acc σ) σ' → Op1 P l.toArray o σ' ((σ'.chg nid r).put o.dst x)) (hk : Nat.beq acc.length N = true)
 (h4 : AWl P w0 l.toArray Q (l.drop (N + 1)) ⟨σ.n, finSl acc ((d, x) :: (σ.chg nid r).slots), finRs acc (σ.chg nid r).res⟩) : FinA P w0 Q N B l σ o nid d r x acc.reverse := by
 simp only [Bool.and_eq_true] at h1
 have hk' := Nat.eq_of_beq_eq_true hk
 refine ⟨⟨h1.1, h2, by simpa only [Bool.and_eq_true] using h1.2.1, h1.2.2⟩, fun σ' hs => h3 σ' ?_, ?_⟩
 · rw [← hk', stR_eq, hk']; exact hs
 · rw [stL_all, List.reverse_reverse]; exact h4
end
end Go.Q
