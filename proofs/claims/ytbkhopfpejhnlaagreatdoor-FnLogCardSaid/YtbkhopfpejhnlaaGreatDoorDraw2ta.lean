import Derived.Test.YtbkhopfpejhnlaaGreatDoorDraw1ta
import Derived.Test.YtbkhopfpejhnlaaGreatDoorAbsNta
set_option linter.unusedVariables false
set_option linter.unusedSimpArgs false
namespace Go.Q
open Go.RowKit
section
variable {P : Program}
def EndP (Φ : St → Prop) : Exit → St → Prop
 | .normal, σ => ∃ σt, Φ σt ∧ Le σ σt
 | _, _ => False
theorem EndP.run {ops : Array Oper} {o : Oper} {σ : St} {Φ : St → Prop} (h : ∀ w0, AWl P w0 ops (EndP Φ) [o] σ) {w0 : Base} {a : Act} {w : World} (hr : Rel w0 σ a w) (K : Act → World → Prop) (Q : Exit → Act → World → Prop) (hK : ∀ a' w' σ', Φ σ' → Rel w0 σ' a' w' → K a' w') :
 if Region.wanted o (yielded ops a.tmps) then o.wp P a w K Q else K (a.put o.dst undef) w := by
 have h1 := h w0 a w hr
 unfold wpList at h1
 have hN : ∀ a' w', wpList P ops (lift w0 (EndP Φ)) [] a' w' → K a' w' := fun a' w' h => by
  obtain ⟨σ', ⟨σt, h2, h4⟩, h3⟩ := h
  exact hK a' w' σt h2 (h4 w0 a' w' h3)
 have hF : ∀ e a' w', e ≠ Exit.normal → lift w0 (EndP Φ) e a' w' → False := fun e a' w' he h => by
  obtain ⟨σ', h2, h3⟩ := h
  cases e <;> first | exact he rfl | exact h2
 have hL : LetsOut (lift w0 (EndP Φ)) → False := fun ⟨a', w', h⟩ => hF _ a' w' (by simp) h
 split
 · rename_i hw
   rw [if_pos hw] at h1
   rcases h1 with h1 | ⟨_, h1⟩
   · unfold Oper.wp at *
     generalize (execOp a.eval o).run P w = r at *
     cases r with
     | ok n w' =>
      cases n <;> simp only [Oper.upon] at h1 ⊢ <;>
       first
        | exact hN _ _ h1
        | exact Calls.mono h1 (fun e w'' he => by cases e <;> first | exact hN _ _ he | exact (hL he).elim | exact (hF _ _ _ (by simp) he).elim)
        | exact Rows.mono h1 (fun _ _ he => hN _ _ he)
     | halt x w' => cases x <;> simp only [Oper.upon] at h1 ⊢ <;> first | exact h1.elim | exact (hF _ _ _ (by simp) h1).elim
   · exact (hL h1).elim
 · rename_i hw
   rw [if_neg hw] at h1
   exact hN _ _ h1
def Stp (P : Program) (l : List Oper) (o : Oper) (Φ : St → Prop) (σ : St) : Prop := ∀ w0 a w, Rel w0 σ a w → ∀ (K : Act → World → Prop) (Q : Exit → Act → World → Prop), (∀ a' w' σ', Φ σ' → Rel w0 σ' a' w' → K a' w') →
 if Region.wanted o (yielded l.toArray a.tmps) then o.wp P a w K Q else K (a.put o.dst undef) w
structure Dg (P : Program) (l : List Oper) (acc : List (Nat × (St → Prop))) (es : List (Nat × Nat × Nat)) (Fin : (Nat → St → Prop) → Prop) : Prop where
 pf : ∃ st : Nat → St → Prop, (∀ k Φ, look acc k = some Φ → st k = Φ) ∧ (∀ e ∈ es, ∀ o, l[e.2.1]? = some o → ∀ σ, st e.1 σ → Stp P l o (st e.2.2) σ) ∧ Fin st
variable {l : List Oper} {acc : List (Nat × (St → Prop))} {es : List (Nat × Nat × Nat)} {Fin : (Nat → St → Prop) → Prop}
theorem Dg.new {a i b : Nat} {Φ Φ' : St → Prop} {o : Oper} (ha : look acc a = some Φ) (ho : l[i]? = some o) (hb : look acc b = none) (hE : ∀ σ, Φ σ → Stp P l o Φ' σ) (h : Dg P l ((b, Φ') :: acc) es Fin) : Dg P l acc ((a, i, b) :: es) Fin := by
 obtain ⟨st, h1, h2, h3⟩ := h.pf
 have hne : b ≠ a := fun e => by subst e; rw [hb] at ha; cases ha
 have h1' : ∀ k σ, look acc k = some σ → st k = σ := fun k σ hk => h1 k σ (by
  rw [look_cons, if_neg (fun e => ?_)]
  · exact hk
  · subst e; rw [hb] at hk; cases hk)
 refine ⟨st, h1', fun e he o' ho' σ hσ => ?_, h3⟩
 rcases List.mem_cons.1 he with rfl | he
 · simp only at ho' hσ ⊢
   rw [ho] at ho'; cases ho'
   rw [h1' a Φ ha] at hσ
   rw [h1 b Φ' (by rw [look_cons, if_pos rfl])]
   exact hE σ hσ
 · exact h2 e he o' ho' σ hσ
theorem Dg.old {a i b : Nat} {Φ Φ' : St → Prop} {o : Oper} (ha : look acc a = some Φ) (ho : l[i]? = some o) (hb : look acc b = some Φ') (hE : ∀ σ, Φ σ → Stp P l o Φ' σ) (h : Dg P l acc es Fin) : Dg P l acc ((a, i, b) :: es) Fin := by
 obtain ⟨st, h1, h2, h3⟩ := h.pf
 refine ⟨st, h1, fun e he o' ho' σ hσ => ?_, h3⟩
 rcases List.mem_cons.1 he with rfl | he
 · simp only at ho' hσ ⊢
   rw [ho] at ho'; cases ho'
   rw [h1 a Φ ha] at hσ
   rw [h1 b Φ' hb]
   exact hE σ hσ
 · exact h2 e he o' ho' σ hσ
theorem Dg.fin {w0 : Base} {Q : Exit → St → Prop} {N k : Nat} {Φ : St → Prop} (hk : look acc k = some Φ) (h : ∀ σ', Φ σ' → AWl P w0 l.toArray Q (l.drop N) σ') : Dg P l acc [] (fun st => ∀ σ', st k σ' → AWl P w0 l.toArray Q (l.drop N) σ') :=
 ⟨fun i => (look acc i).getD fun _ => False, fun i σ' hi => by simp [hi], fun e he => (by cases he), by simpa [hk] using h⟩
theorem EndQ.eq {σ σ' s : St} (h : Le σ σ') (e : s = σ') : EndQ s .normal σ := by subst e; exact h
theorem Stp.run {o : Oper} {σ σt : St} {Φ : St → Prop} (h : ∀ w0, AWl P w0 l.toArray (EndQ σt) [o] σ) (hΦ : Φ σt) : Stp P l o Φ σ := fun w0 a w hr K Q hK => EndQ.run h hr K Q fun a' w' hr' => hK a' w' σt hΦ hr'
theorem Stp.opE {o : Oper} {σ : St} {Φ Ψ : St → Prop} (h : OpE P l.toArray o σ Ψ) (hL : ∀ σ', Ψ σ' → ∃ σt, Φ σt ∧ Le σ' σt) : Stp P l o Φ σ := fun w0 a w hr K Q hK => h w0 a w hr K Q fun σ' a' w' hσ' hr' => by
 obtain ⟨σt, h1, h2⟩ := hL σ' hσ'
 exact hK a' w' σt h1 (h2 w0 a' w' hr')
def Nd0  (p : Prop) (s : St) : St → Prop := fun σ => p ∧ σ = s
def Nd1 {α1 : Type} (p : α1 → Prop) (s : α1 → St) : St → Prop := fun σ => ∃ z1, p z1 ∧ σ = s z1
def Nd2 {α1 : Type} {α2 : Type} (p : α1 → α2 → Prop) (s : α1 → α2 → St) : St → Prop := fun σ => ∃ z1 z2, p z1 z2 ∧ σ = s z1 z2
def Nd3 {α1 : Type} {α2 : Type} {α3 : Type} (p : α1 → α2 → α3 → Prop) (s : α1 → α2 → α3 → St) : St → Prop := fun σ => ∃ z1 z2 z3, p z1 z2 z3 ∧ σ = s z1 z2 z3
theorem Dg.new0 {a i b : Nat}  {p : Prop} {s s' : St} {o : Oper} (ha : look acc a = some (Nd0 p s)) (ho : l[i]? = some o) (hb : look acc b = none) (hE : ∀ w0, p → AWl P w0 l.toArray (EndQ (s')) [o] (s)) (h : Dg P l ((b, Nd0 p s') :: acc) es Fin) : Dg P l acc ((a, i, b) :: es) Fin :=
 Dg.new ha ho hb (fun σ h => by obtain ⟨hp, rfl⟩ := h; exact Stp.run (fun w0 => hE w0  hp) ⟨hp, rfl⟩) h
theorem Dg.old0 {a i b : Nat}  {p : Prop} {s s' : St} {o : Oper} (ha : look acc a = some (Nd0 p s)) (ho : l[i]? = some o) (hb : look acc b = some (Nd0 p s')) (hE : ∀ w0, p → AWl P w0 l.toArray (EndQ (s')) [o] (s)) (h : Dg P l acc es Fin) : Dg P l acc ((a, i, b) :: es) Fin :=
 Dg.old ha ho hb (fun σ h => by obtain ⟨hp, rfl⟩ := h; exact Stp.run (fun w0 => hE w0  hp) ⟨hp, rfl⟩) h
theorem Dg.fin0 {w0 : Base} {Q : Exit → St → Prop} {N k : Nat}  {p : Prop} {s : St} (hk : look acc k = some (Nd0 p s)) (h : p → AWl P w0 l.toArray Q (l.drop N) (s)) : Dg P l acc [] (fun st => ∀ σ', st k σ' → AWl P w0 l.toArray Q (l.drop N) σ') :=
 Dg.fin hk fun σ h' => by obtain ⟨hp, rfl⟩ := h'; exact h  hp
theorem Dg.drw0 {a i b : Nat}  {β : Type} {p : Prop} {s : St} {q : β → Prop} {f s' : β → St} {o : Oper} (ha : look acc a = some (Nd0 p s)) (ho : l[i]? = some o) (hE : p → OpE P l.toArray o (s) (fun σ' => ∃ y, q y ∧ σ' = f y)) (hb : look acc b = none) (hL : ∀ y, p → q y → EndQ (s' y) .normal (f y)) (h : Dg P l ((b, Nd1 (fun y => p ∧ q y) s') :: acc) es Fin) : Dg P l acc ((a, i, b) :: es) Fin :=
 Dg.new ha ho hb (fun σ h => by
  obtain ⟨hp, rfl⟩ := h
  refine Stp.opE (hE  hp) ?_
  rintro _ ⟨y, hy, rfl⟩
  exact ⟨_, ⟨y, ⟨hp, hy⟩, rfl⟩, hL y hp hy⟩) h
theorem Dg.odr0 {a i b : Nat}  {β : Type} {p : Prop} {s : St} {q : β → Prop} {f s' : β → St} {o : Oper} (ha : look acc a = some (Nd0 p s)) (ho : l[i]? = some o) (hE : p → OpE P l.toArray o (s) (fun σ' => ∃ y, q y ∧ σ' = f y)) (hb : look acc b = some (Nd1 (fun y => p ∧ q y) s')) (hL : ∀ y, p → q y → EndQ (s' y) .normal (f y)) (h : Dg P l acc es Fin) : Dg P l acc ((a, i, b) :: es) Fin :=
 Dg.old ha ho hb (fun σ h => by
  obtain ⟨hp, rfl⟩ := h
  refine Stp.opE (hE  hp) ?_
  rintro _ ⟨y, hy, rfl⟩
  exact ⟨_, ⟨y, ⟨hp, hy⟩, rfl⟩, hL y hp hy⟩) h
theorem Dg.new1 {a i b : Nat} {α1 : Type} {p : α1 → Prop} {s s' : α1 → St} {o : Oper} (ha : look acc a = some (Nd1 p s)) (ho : l[i]? = some o) (hb : look acc b = none) (hE : ∀ w0, ∀ z1, p z1 → AWl P w0 l.toArray (EndQ (s' z1)) [o] (s z1)) (h : Dg P l ((b, Nd1 p s') :: acc) es Fin) : Dg P l acc ((a, i, b) :: es) Fin :=
 Dg.new ha ho hb (fun σ h => by obtain ⟨z1, hp, rfl⟩ := h; exact Stp.run (fun w0 => hE w0 z1 hp) ⟨z1, hp, rfl⟩) h
theorem Dg.old1 {a i b : Nat} {α1 : Type} {p : α1 → Prop} {s s' : α1 → St} {o : Oper} (ha : look acc a = some (Nd1 p s)) (ho : l[i]? = some o) (hb : look acc b = some (Nd1 p s')) (hE : ∀ w0, ∀ z1, p z1 → AWl P w0 l.toArray (EndQ (s' z1)) [o] (s z1)) (h : Dg P l acc es Fin) : Dg P l acc ((a, i, b) :: es) Fin :=
 Dg.old ha ho hb (fun σ h => by obtain ⟨z1, hp, rfl⟩ := h; exact Stp.run (fun w0 => hE w0 z1 hp) ⟨z1, hp, rfl⟩) h
theorem Dg.fin1 {w0 : Base} {Q : Exit → St → Prop} {N k : Nat} {α1 : Type} {p : α1 → Prop} {s : α1 → St} (hk : look acc k = some (Nd1 p s)) (h : ∀ z1, p z1 → AWl P w0 l.toArray Q (l.drop N) (s z1)) : Dg P l acc [] (fun st => ∀ σ', st k σ' → AWl P w0 l.toArray Q (l.drop N) σ') :=
 Dg.fin hk fun σ h' => by obtain ⟨z1, hp, rfl⟩ := h'; exact h z1 hp
theorem Dg.drw1 {a i b : Nat} {α1 : Type} {β : Type} {p : α1 → Prop} {s : α1 → St} {q : α1 → β → Prop} {f s' : α1 → β → St} {o : Oper} (ha : look acc a = some (Nd1 p s)) (ho : l[i]? = some o) (hE : ∀ z1, p z1 → OpE P l.toArray o (s z1) (fun σ' => ∃ y, q z1 y ∧ σ' = f z1 y)) (hb : look acc b = none) (hL : ∀ z1 y, p z1 → q z1 y → EndQ (s' z1 y) .normal (f z1 y)) (h : Dg P l ((b, Nd2 (fun z1 y => p z1 ∧ q z1 y) s') :: acc) es Fin) : Dg P l acc ((a, i, b) :: es) Fin :=
 Dg.new ha ho hb (fun σ h => by
  obtain ⟨z1, hp, rfl⟩ := h
  refine Stp.opE (hE z1 hp) ?_
  rintro _ ⟨y, hy, rfl⟩
  exact ⟨_, ⟨z1, y, ⟨hp, hy⟩, rfl⟩, hL z1 y hp hy⟩) h
theorem Dg.odr1 {a i b : Nat} {α1 : Type} {β : Type} {p : α1 → Prop} {s : α1 → St} {q : α1 → β → Prop} {f s' : α1 → β → St} {o : Oper} (ha : look acc a = some (Nd1 p s)) (ho : l[i]? = some o) (hE : ∀ z1, p z1 → OpE P l.toArray o (s z1) (fun σ' => ∃ y, q z1 y ∧ σ' = f z1 y)) (hb : look acc b = some (Nd2 (fun z1 y => p z1 ∧ q z1 y) s')) (hL : ∀ z1 y, p z1 → q z1 y → EndQ (s' z1 y) .normal (f z1 y)) (h : Dg P l acc es Fin) : Dg P l acc ((a, i, b) :: es) Fin :=
 Dg.old ha ho hb (fun σ h => by
  obtain ⟨z1, hp, rfl⟩ := h
  refine Stp.opE (hE z1 hp) ?_
  rintro _ ⟨y, hy, rfl⟩
  exact ⟨_, ⟨z1, y, ⟨hp, hy⟩, rfl⟩, hL z1 y hp hy⟩) h
theorem Dg.new2 {a i b : Nat} {α1 : Type} {α2 : Type} {p : α1 → α2 → Prop} {s s' : α1 → α2 → St} {o : Oper} (ha : look acc a = some (Nd2 p s)) (ho : l[i]? = some o) (hb : look acc b = none) (hE : ∀ w0, ∀ z1 z2, p z1 z2 → AWl P w0 l.toArray (EndQ (s' z1 z2)) [o] (s z1 z2)) (h : Dg P l ((b, Nd2 p s') :: acc) es Fin) : Dg P l acc ((a, i, b) :: es) Fin :=
 Dg.new ha ho hb (fun σ h => by obtain ⟨z1, z2, hp, rfl⟩ := h; exact Stp.run (fun w0 => hE w0 z1 z2 hp) ⟨z1, z2, hp, rfl⟩) h
theorem Dg.old2 {a i b : Nat} {α1 : Type} {α2 : Type} {p : α1 → α2 → Prop} {s s' : α1 → α2 → St} {o : Oper} (ha : look acc a = some (Nd2 p s)) (ho : l[i]? = some o) (hb : look acc b = some (Nd2 p s')) (hE : ∀ w0, ∀ z1 z2, p z1 z2 → AWl P w0 l.toArray (EndQ (s' z1 z2)) [o] (s z1 z2)) (h : Dg P l acc es Fin) : Dg P l acc ((a, i, b) :: es) Fin :=
 Dg.old ha ho hb (fun σ h => by obtain ⟨z1, z2, hp, rfl⟩ := h; exact Stp.run (fun w0 => hE w0 z1 z2 hp) ⟨z1, z2, hp, rfl⟩) h
theorem Dg.fin2 {w0 : Base} {Q : Exit → St → Prop} {N k : Nat} {α1 : Type} {α2 : Type} {p : α1 → α2 → Prop} {s : α1 → α2 → St} (hk : look acc k = some (Nd2 p s)) (h : ∀ z1 z2, p z1 z2 → AWl P w0 l.toArray Q (l.drop N) (s z1 z2)) : Dg P l acc [] (fun st => ∀ σ', st k σ' → AWl P w0 l.toArray Q (l.drop N) σ') :=
 Dg.fin hk fun σ h' => by obtain ⟨z1, z2, hp, rfl⟩ := h'; exact h z1 z2 hp
theorem Dg.drw2 {a i b : Nat} {α1 : Type} {α2 : Type} {β : Type} {p : α1 → α2 → Prop} {s : α1 → α2 → St} {q : α1 → α2 → β → Prop} {f s' : α1 → α2 → β → St} {o : Oper} (ha : look acc a = some (Nd2 p s)) (ho : l[i]? = some o) (hE : ∀ z1 z2, p z1 z2 → OpE P l.toArray o (s z1 z2) (fun σ' => ∃ y, q z1 z2 y ∧ σ' = f z1 z2 y)) (hb : look acc b = none) (hL : ∀ z1 z2 y, p z1 z2 → q z1 z2 y → EndQ (s' z1 z2 y) .normal (f z1 z2 y)) (h : Dg P l ((b, Nd3 (fun z1 z2 y => p z1 z2 ∧ q z1 z2 y) s') :: acc) es Fin) : Dg P l acc ((a, i, b) :: es) Fin :=
 Dg.new ha ho hb (fun σ h => by
  obtain ⟨z1, z2, hp, rfl⟩ := h
  refine Stp.opE (hE z1 z2 hp) ?_
  rintro _ ⟨y, hy, rfl⟩
  exact ⟨_, ⟨z1, z2, y, ⟨hp, hy⟩, rfl⟩, hL z1 z2 y hp hy⟩) h
theorem Dg.new3 {a i b : Nat} {α1 : Type} {α2 : Type} {α3 : Type} {p : α1 → α2 → α3 → Prop} {s s' : α1 → α2 → α3 → St} {o : Oper} (ha : look acc a = some (Nd3 p s)) (ho : l[i]? = some o) (hb : look acc b = none) (hE : ∀ w0, ∀ z1 z2 z3, p z1 z2 z3 → AWl P w0 l.toArray (EndQ (s' z1 z2 z3)) [o] (s z1 z2 z3)) (h : Dg P l ((b, Nd3 p s') :: acc) es Fin) : Dg P l acc ((a, i, b) :: es) Fin :=
 Dg.new ha ho hb (fun σ h => by obtain ⟨z1, z2, z3, hp, rfl⟩ := h; exact Stp.run (fun w0 => hE w0 z1 z2 z3 hp) ⟨z1, z2, z3, hp, rfl⟩) h
theorem Dg.fin3 {w0 : Base} {Q : Exit → St → Prop} {N k : Nat} {α1 : Type} {α2 : Type} {α3 : Type} {p : α1 → α2 → α3 → Prop} {s : α1 → α2 → α3 → St} (hk : look acc k = some (Nd3 p s)) (h : ∀ z1 z2 z3, p z1 z2 z3 → AWl P w0 l.toArray Q (l.drop N) (s z1 z2 z3)) : Dg P l acc [] (fun st => ∀ σ', st k σ' → AWl P w0 l.toArray Q (l.drop N) σ') :=
 Dg.fin hk fun σ h' => by obtain ⟨z1, z2, z3, hp, rfl⟩ := h'; exact h z1 z2 z3 hp
end
end Go.Q
