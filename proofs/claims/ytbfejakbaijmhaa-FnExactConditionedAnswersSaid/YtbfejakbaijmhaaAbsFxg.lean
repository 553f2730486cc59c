/- Regions that draw their order and hold one store that may come early. -/
import Derived.Test.YtbfejakbaijmhaaAbs11xg
import Derived.Test.YtbfejakbaijmhaaAbs13xg
set_option linter.unusedVariables false
set_option linter.unusedSimpArgs false
namespace Go.Q
open Go.RowKit
section
variable {P : Program}
theorem stL_res0 (L : Nat → Bool) : ∀ (outs : List Out) (i : Nat) (σ : St), (∀ y ∈ outs, y.2.2 = []) → (stL L i outs σ).res = σ.res
  | [], _, _, _ => rfl
  | y :: r, i, σ, h => by
    rw [stL, stL_res0 L r (i + 1) _ fun z hz => h z (by simp [hz])]
    cases L i with
    | false => rfl
    | true => simp only [cond_true]; rw [h y (by simp)]; rfl
theorem stL_look {L : Nat → Bool} {outs : List Out} {σ : St} (hno : ∀ y ∈ outs, look σ.slots y.1 = none) (hun : ∀ (i j : Nat) (y z : Out), outs[i]? = some y → outs[j]? = some z → y.1 = z.1 → i = j) (t : Nat) (x : Bool × S) :
    look (stL L 0 outs σ).slots t = some x ↔ (∃ j y, outs[j]? = some y ∧ L j = true ∧ y.1 = t ∧ y.2.1 = x) ∨ look σ.slots t = some x := by
  by_cases hex : ∃ j y, outs[j]? = some y ∧ L j = true ∧ y.1 = t
  · obtain ⟨j, y, hy, hj, rfl⟩ := hex
    have e := stL_slot (L := L) outs 0 σ j y hy (by rw [Nat.zero_add]; exact hj) rfl rfl fun k z hk e => hun k j z y hk hy e
    rw [e, hno y (List.mem_of_getElem? hy)]
    constructor
    · intro h; exact .inl ⟨j, y, hy, hj, rfl, Option.some.inj h⟩
    · rintro (⟨k, z, hz, _, h1, h2⟩ | h)
      · have := hun k j z y hz hy h1
        subst this
        rw [hy] at hz; cases hz; rw [h2]
      · cases h
  · rw [stL_slot_base outs 0 σ fun j z hz hj e => hex ⟨j, z, hz, by rw [Nat.zero_add] at hj; exact hj, e⟩]
    constructor
    · exact .inr
    · rintro (⟨j, z, hz, hj, h1, _⟩ | h)
      · exact absurd ⟨j, z, hz, hj, h1⟩ hex
      · exact h
theorem stL_sup {L M : Nat → Bool} {outs : List Out} {σ σ' : St} (hs : Sup σ σ') (hno : ∀ y ∈ outs, look σ.slots y.1 = none) (hno' : ∀ y ∈ outs, look σ'.slots y.1 = none) (hun : ∀ (i j : Nat) (y z : Out), outs[i]? = some y → outs[j]? = some z → y.1 = z.1 → i = j) (hnr : ∀ y ∈ outs, y.2.2 = [])
    (hLM : ∀ j, L j = true → M j = true) : Sup (stL L 0 outs σ) (stL M 0 outs σ') := by
  refine ⟨by rw [stL_n, stL_n]; exact hs.n, fun t x h => ?_, fun t x h => ?_⟩
  · rw [stL_look hno hun] at h
    rw [stL_look hno' hun]
    rcases h with ⟨j, y, h1, h2, h3, h4⟩ | h
    · exact .inl ⟨j, y, h1, hLM j h2, h3, h4⟩
    · exact .inr (hs.slots _ _ h)
  · rw [stL_res0 _ _ _ _ hnr] at h ⊢
    exact hs.res _ _ h
def disN : List Nat → Bool
  | [] => true
  | x :: l => l.all (fun y => !(Nat.beq x y)) && disN l
theorem disN_inj : ∀ {outs : List Out}, disN (outs.map (·.1)) = true → ∀ (i j : Nat) (y z : Out), outs[i]? = some y → outs[j]? = some z → y.1 = z.1 → i = j
  | [], _, i, j, y, z, h, _, _ => by simp at h
  | u :: r, h, i, j, y, z, h1, h2, e => by
    simp only [List.map_cons, disN, Bool.and_eq_true, List.all_map, List.all_eq_true] at h
    have key : ∀ v ∈ r, u.1 ≠ v.1 := fun v hv e => by have := h.1 v hv; simp [e] at this
    match i, j, h1, h2 with
    | 0, 0, _, _ => rfl
    | 0, j + 1, h1, h2 => simp at h1 h2; subst h1; exact absurd e (key z (List.mem_of_getElem? h2))
    | i + 1, 0, h1, h2 => simp at h1 h2; subst h2; exact absurd e.symm (key y (List.mem_of_getElem? h1))
    | i + 1, j + 1, h1, h2 => rw [disN_inj h.2 i j y z (by simpa using h1) (by simpa using h2) e]
theorem Sup.sub0 {σ σ' : St} (hn : σ'.n = σ.n) (hs : SubS0 σ σ'.slots) (hr : SubR0 σ σ'.res) : Sup σ' σ := ⟨hn.symm, fun i x h => look_SubS0 hs i x h, fun i x h => look_SubR0 hr i x h⟩
def StepsF (P : Program) (ops : Array Oper) (B : Nat → List Nat) (outs : List Out) (X : Nat → Bool) (σ σ2 : St) : Nat → List Oper → List Out → Prop
  | i, o :: l, y :: r => Loc P ops o (stL (memN (B i)) 0 outs (bif X i then σ2 else σ)) y ∧ StepsF P ops B outs X σ σ2 (i + 1) l r
  | _, _, _ => True
theorem StepsF.at {ops : Array Oper} {B : Nat → List Nat} {outs : List Out} {X : Nat → Bool} {σ σ2 : St} : ∀ (l : List Oper) (r : List Out) (k : Nat), StepsF P ops B outs X σ σ2 k l r → ∀ i o y, l[i]? = some o → r[i]? = some y → Loc P ops o (stL (memN (B (k + i))) 0 outs (bif X (k + i) then σ2 else σ)) y
  | [], r, k, h, i, o, y, hl, hr => by simp at hl
  | o' :: l, [], k, h, i, o, y, hl, hr => by simp at hr
  | o' :: l, y' :: r, k, h, 0, o, y, hl, hr => by simp at hl hr; subst hl; subst hr; exact h.1
  | o' :: l, y' :: r, k, h, i + 1, o, y, hl, hr => by
    have := StepsF.at l r (k + 1) h.2 i o y (by simpa using hl) (by simpa using hr)
    rwa [show k + 1 + i = k + (i + 1) by omega] at this
end
end Go.Q
