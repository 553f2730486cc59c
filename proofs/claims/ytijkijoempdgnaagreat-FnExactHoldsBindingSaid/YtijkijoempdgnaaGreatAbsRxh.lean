/- Two names of a state exchanged: what holds stays. Exits that end a round. -/
import Derived.Test.YtijkijoempdgnaaGreatB29xh
set_option linter.unusedVariables false
set_option linter.unusedSimpArgs false
namespace Go.Q
open Go.RowKit
def swN (u v i : Nat) : Nat := bif Nat.beq i u then v else bif Nat.beq i v then u else i
theorem swN_if (u v i : Nat) : swN u v i = if i = u then v else if i = v then u else i := by
  unfold swN
  have e : ∀ a b : Nat, Nat.beq a b = decide (a = b) := fun a b => by
    cases h : Nat.beq a b with
    | true => simp [Nat.eq_of_beq_eq_true h]
    | false => simp [Nat.ne_of_beq_eq_false h]
  rw [e, e]
  by_cases h1 : i = u
  · simp [h1]
  · by_cases h2 : i = v
    · simp [h1, h2]
    · simp [h1, h2]
theorem swN_swN (u v i : Nat) : swN u v (swN u v i) = i := by
  rw [swN_if, swN_if]
  by_cases h1 : i = u
  · subst h1
    rw [if_pos rfl]
    by_cases h2 : v = i
    · rw [if_pos h2, h2]
    · rw [if_neg h2, if_pos rfl]
  · rw [if_neg h1]
    by_cases h2 : i = v
    · subst h2; rw [if_pos rfl, if_pos rfl]
    · rw [if_neg h2, if_neg h1, if_neg h2]
theorem swN_inj {u v i j : Nat} (h : swN u v i = swN u v j) : i = j := by
  have := congrArg (swN u v) h
  rwa [swN_swN, swN_swN] at this
def swE (u v : Nat) : E → E
  | .t x => .t x
  | .rf id => .rf (swN u v id)
  | .vw id x => .vw (swN u v id) x
  | .pp id o => .pp (swN u v id) o
  | .pr id k i j => .pr (swN u v id) k i j
  | .sb id k i j => .sb (swN u v id) k i j
  | .tl id k j => .tl (swN u v id) k j
  | .pf id k m => .pf (swN u v id) k m
  | .no => .no
def swEs (u v : Nat) : List E → List E
  | [] => []
  | e :: r => swE u v e :: swEs u v r
def swA (u v : Nat) : A → A
  | .one e => .one (swE u v e)
  | .agg l => .agg (swEs u v l)
def swAs (u v : Nat) : List A → List A
  | [] => []
  | e :: r => swA u v e :: swAs u v r
def swS (u v : Nat) : S → S
  | .a x => .a (swA u v x)
  | .tup l => .tup (swAs u v l)
def swR (u v : Nat) : R → R
  | .row k rows => .row k rows
  | .box cs => .box (swEs u v cs)
  | .hdr none x => .hdr none x
  | .hdr (some j) x => .hdr (some (swN u v j)) x
def swSl (u v : Nat) : List (Nat × (Bool × S)) → List (Nat × (Bool × S))
  | [] => []
  | (i, p, x) :: r => (i, p, swS u v x) :: swSl u v r
def swRl (u v : Nat) : List (Nat × R) → List (Nat × R)
  | [] => []
  | (i, x) :: r => (swN u v i, swR u v x) :: swRl u v r
def St.sw (u v : Nat) (σ : St) : St := ⟨σ.n, swSl u v σ.slots, swRl u v σ.res⟩
def Ip.sw (u v : Nat) (I : Ip) : Ip := ⟨I.Z, fun i => I.F (swN u v i), fun i => I.hd (swN u v i), fun i => I.B (swN u v i)⟩
section
variable {u v : Nat} {I : Ip} {w : World}
theorem VE.sw {e : E} {c : Value} (h : VE I w e c) : VE (I.sw u v) w (swE u v e) c := by
  cases e <;> simp only [VE, swE, Ip.sw, swN_swN] at h ⊢ <;> exact h
theorem VEs.sw : ∀ {l : List E} {cs : List Value}, VEs I w l cs → VEs (I.sw u v) w (swEs u v l) cs
  | [], _, h => h
  | e :: r, cs, h => by
    obtain ⟨c, cr, h1, h2, h3⟩ := h
    exact ⟨c, cr, h1, h2.sw, VEs.sw h3⟩
theorem VA.sw {x : A} {c : Value} (h : VA I w x c) : VA (I.sw u v) w (swA u v x) c := by
  cases x with
  | one e => exact VE.sw (show VE I w e c from h)
  | agg l => obtain ⟨cs, h1, h2⟩ := h; exact ⟨cs, h1, h2.sw⟩
theorem VAs.sw : ∀ {l : List A} {cs : List Value}, VAs I w l cs → VAs (I.sw u v) w (swAs u v l) cs
  | [], _, h => h
  | e :: r, cs, h => by
    obtain ⟨c, cr, h1, h2, h3⟩ := h
    exact ⟨c, cr, h1, h2.sw, VAs.sw h3⟩
theorem VS.sw {p : Bool} {x : S} {c : Value} (h : VS I w (p, x) c) : VS (I.sw u v) w (p, swS u v x) c := by
  unfold VS at h ⊢
  simp only at h ⊢
  split at h
  · rename_i hp
    rw [if_pos hp]
    cases x with
    | a x => exact VA.sw h
    | tup l => obtain ⟨vs, h1, h2⟩ := h; exact ⟨vs, h1, h2.sw⟩
  · rename_i hp
    rw [if_neg hp]; exact h
theorem RR.sw {id : Nat} {r : R} (h : RR I w id r) : RR (I.sw u v) w (swN u v id) (swR u v r) := by
  cases r with
  | row k rows => unfold RR swR Ip.sw; simp only [swN_swN]; exact h
  | box cs =>
    obtain ⟨h1, vs, e, h2, h3⟩ := h
    unfold RR swR
    simp only
    refine ⟨by simpa only [Ip.sw, swN_swN] using h1, vs, e, by simpa only [Ip.sw, swN_swN] using h2, h3.sw⟩
  | hdr j x =>
    obtain ⟨h1, h2⟩ := h
    cases j with
    | none => exact ⟨by simpa only [Ip.sw, swN_swN] using h1, fun i hi => by cases hi⟩
    | some j =>
      refine ⟨by simpa only [Ip.sw, swN_swN] using h1, fun i hi => ?_⟩
      cases hi
      simpa only [Ip.sw, swN_swN] using h2 j rfl
end
theorem look_swSl (u v : Nat) : ∀ (l : List (Nat × (Bool × S))) (i : Nat) (y : Bool × S), look (swSl u v l) i = some y → ∃ x, look l i = some (y.1, x) ∧ y.2 = swS u v x
  | [], _, _, h => by cases h
  | (k, p, x) :: r, i, y, h => by
    rw [swSl, look_cons] at h
    by_cases e : k = i
    · rw [if_pos e] at h
      cases h
      exact ⟨x, by rw [look_cons, if_pos e], rfl⟩
    · rw [if_neg e] at h
      obtain ⟨x', h1, h2⟩ := look_swSl u v r i y h
      exact ⟨x', by rw [look_cons, if_neg e]; exact h1, h2⟩
theorem look_swRl (u v : Nat) : ∀ (l : List (Nat × R)) (i : Nat) (y : R), look (swRl u v l) i = some y → ∃ x, look l (swN u v i) = some x ∧ y = swR u v x
  | [], _, _, h => by cases h
  | (k, x) :: r, i, y, h => by
    rw [swRl, look_cons] at h
    by_cases e : swN u v k = i
    · rw [if_pos e] at h
      cases h
      exact ⟨x, by rw [look_cons, if_pos (by rw [← e, swN_swN])], rfl⟩
    · rw [if_neg e] at h
      obtain ⟨x', h1, h2⟩ := look_swRl u v r i y h
      exact ⟨x', by rw [look_cons, if_neg (fun h => e (by rw [h, swN_swN]))]; exact h1, h2⟩
theorem Le.sw (u v : Nat) (σ : St) : Le σ (σ.sw u v) := by
  rintro w0 a w ⟨I, h⟩
  refine ⟨I.sw u v, ⟨h.ext, h.defers, h.size, fun i x hx => ?_, fun id r hr => ?_, h.old, fun id b hb => h.lt (swN u v id) b hb, fun id r hr => ?_, fun i j hij b hb => ?_⟩⟩
  · obtain ⟨y, h1, h2⟩ := look_swSl u v σ.slots i x hx
    have := (h.slots i _ h1).sw (u := u) (v := v)
    rw [← h2] at this
    exact this
  · obtain ⟨y, h1, h2⟩ := look_swRl u v σ.res id r hr
    have := (h.res _ _ h1).sw (u := u) (v := v)
    rw [swN_swN, ← h2] at this
    exact this
  · obtain ⟨y, h1, h2⟩ := look_swRl u v σ.res id r hr
    exact h.own _ _ h1
  · exact h.apart (swN u v i) (swN u v j) (fun e => hij (swN_inj e)) b hb
theorem Le.trans {σ σ' σ'' : St} (h1 : Le σ σ') (h2 : Le σ' σ'') : Le σ σ'' := fun w0 a w h => h2 w0 a w (h1 w0 a w h)
section
variable {Q : Exit → St → Prop} {σ : St}
end
section
variable {P : Program} {ops : Array Oper} {o : Oper} {σ : St} {q : Bool}
end
end Go.Q
