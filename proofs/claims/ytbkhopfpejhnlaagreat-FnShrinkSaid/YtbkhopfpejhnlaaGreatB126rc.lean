import Derived.Test.YtbkhopfpejhnlaaGreatDraw1rc
import Derived.Test.YtbkhopfpejhnlaaGreatB34rc
import Derived.Test.YtbkhopfpejhnlaaGreatOpenBrc
set_option linter.unusedVariables false
set_option linter.unusedSimpArgs false
namespace Go.Q
open Go.RowKit
section
variable {P : Program}
def EndP (Φ : St → Prop) : Exit → St → Prop
 | .normal, σ => ∃ σt, Φ σt ∧ Le σ σt
 | _, _ => False
theorem EndP.run {ops : Array Oper} {o : Oper} {σ : St} {Φ : St → Prop} (h : ∀ w0, AWl P w0 ops (EndP Φ) [o] σ) {w0 : Base} {a : Act} {w : World} (hr : Rel w0 σ a w) (K : Act → World → Prop) (Q : Exit → Act → World → Prop) (hK : ∀ a' w' σ', Φ σ' → Rel w0 σ' a' w' → K a' w') :
 if Region.wanted o (yielded ops a.tmps) then o.wp P a w K Q else K (a.put o.dst undef) w := by
 have h1 := h w0 a w hr
 unfold wpList at h1
 have hN : ∀ a' w', wpList P ops (lift w0 (EndP Φ)) [] a' w' → K a' w' := fun a' w' h => by
  obtain ⟨σ', ⟨σt, h2, h4⟩, h3⟩ := h
  exact hK a' w' σt h2 (h4 w0 a' w' h3)
 have hF : ∀ e a' w', e ≠ Exit.normal → lift w0 (EndP Φ) e a' w' → False := fun e a' w' he h => by
  obtain ⟨σ', h2, h3⟩ := h
  cases e <;> first | exact he rfl | exact h2
 have hL : LetsOut (lift w0 (EndP Φ)) → False := fun ⟨a', w', h⟩ => hF _ a' w' (by simp) h
 split
 · rename_i hw
   rw [if_pos hw] at h1
   rcases h1 with h1 | ⟨_, h1⟩
   · unfold Oper.wp at *
     generalize (execOp a.eval o).run P w = r at *
     cases r with
     | ok n w' =>
      cases n <;> simp only [Oper.upon] at h1 ⊢ <;>
       first
        | exact hN _ _ h1
        | exact Calls.mono h1 (fun e w'' he => by cases e <;> first | exact hN _ _ he | exact (hL he).elim | exact (hF _ _ _ (by simp) he).elim)
        | exact Rows.mono h1 (fun _ _ he => hN _ _ he)
     | halt x w' => cases x <;> simp only [Oper.upon] at h1 ⊢ <;> first | exact h1.elim | exact (hF _ _ _ (by simp) h1).elim
   · exact (hL h1).elim
 · rename_i hw
   rw [if_neg hw] at h1
   exact hN _ _ h1
def Stp (P : Program) (l : List Oper) (o : Oper) (Φ : St → Prop) (σ : St) : Prop := ∀ w0 a w, Rel w0 σ a w → ∀ (K : Act → World → Prop) (Q : Exit → Act → World → Prop), (∀ a' w' σ', Φ σ' → Rel w0 σ' a' w' → K a' w') →
 if Region.wanted o (yielded l.toArray a.tmps) then o.wp P a w K Q else K (a.put o.dst undef) w
structure Dg (P : Program) (l : List Oper) (acc : List (Nat × (St → Prop))) (es : List (Nat × Nat × Nat)) (Fin : (Nat → St → Prop) → Prop) : Prop where
 pf : ∃ st : Nat → St → Prop, (∀ k Φ, look acc k = some Φ → st k = Φ) ∧ (∀ e ∈ es, ∀ o, l[e.2.1]? = some o → ∀ σ, st e.1 σ → Stp P l o (st e.2.2) σ) ∧ Fin st
variable {l : List Oper} {acc : List (Nat × (St → Prop))} {es : List (Nat × Nat × Nat)} {Fin : (Nat → St → Prop) → Prop}
theorem Dg.new {a i b : Nat} {Φ Φ' : St → Prop} {o : Oper} (ha : look acc a = some Φ) (ho : l[i]? = some o) (hb : look acc b = none) (hE : ∀ σ, Φ σ → Stp P l o Φ' σ) (h : Dg P l ((b, Φ') :: acc) es Fin) : Dg P l acc ((a, i, b) :: es) Fin := by
 obtain ⟨st, h1, h2, h3⟩ := h.pf
 have hne : b ≠ a := fun e => by subst e; rw [hb] at ha; cases ha
 have h1' : ∀ k σ, look acc k = some σ → st k = σ := fun k σ hk => h1 k σ (by
  rw [look_cons, if_neg (fun e => ?_)]
  · exact hk
  · subst e; rw [hb] at hk; cases hk)
 refine ⟨st, h1', fun e he o' ho' σ hσ => ?_, h3⟩
 rcases List.mem_cons.1 he with rfl | he
 · simp only at ho' hσ ⊢
   rw [ho] at ho'; cases ho'
   rw [h1' a Φ ha] at hσ
   rw [h1 b Φ' (by rw [look_cons, if_pos rfl])]
   exact hE σ hσ
 · exact h2 e he o' ho' σ hσ
theorem Dg.old {a i b : Nat} {Φ Φ' : St → Prop} {o : Oper} (ha : look acc a = some Φ) (ho : l[i]? = some o) (hb : look acc b = some Φ') (hE : ∀ σ, Φ σ → Stp P l o Φ' σ) (h : Dg P l acc es Fin) : Dg P l acc ((a, i, b) :: es) Fin := by
 obtain ⟨st, h1, h2, h3⟩ := h.pf
 refine ⟨st, h1, fun e he o' ho' σ hσ => ?_, h3⟩
 rcases List.mem_cons.1 he with rfl | he
 · simp only at ho' hσ ⊢
   rw [ho] at ho'; cases ho'
   rw [h1 a Φ ha] at hσ
   rw [h1 b Φ' hb]
   exact hE σ hσ
 · exact h2 e he o' ho' σ hσ
theorem Dg.fin {w0 : Base} {Q : Exit → St → Prop} {N k : Nat} {Φ : St → Prop} (hk : look acc k = some Φ) (h : ∀ σ', Φ σ' → AWl P w0 l.toArray Q (l.drop N) σ') : Dg P l acc [] (fun st => ∀ σ', st k σ' → AWl P w0 l.toArray Q (l.drop N) σ') :=
 ⟨fun i => (look acc i).getD fun _ => False, fun i σ' hi => by simp [hi], fun e he => (by cases he), by simpa [hk] using h⟩
theorem EndQ.eq {σ σ' s : St} (h : Le σ σ') (e : s = σ') : EndQ s .normal σ := by subst e; exact h
theorem Stp.run {o : Oper} {σ σt : St} {Φ : St → Prop} (h : ∀ w0, AWl P w0 l.toArray (EndQ σt) [o] σ) (hΦ : Φ σt) : Stp P l o Φ σ := fun w0 a w hr K Q hK => EndQ.run h hr K Q fun a' w' hr' => hK a' w' σt hΦ hr'
theorem Stp.opE {o : Oper} {σ : St} {Φ Ψ : St → Prop} (h : OpE P l.toArray o σ Ψ) (hL : ∀ σ', Ψ σ' → ∃ σt, Φ σt ∧ Le σ' σt) : Stp P l o Φ σ := fun w0 a w hr K Q hK => h w0 a w hr K Q fun σ' a' w' hσ' hr' => by
 obtain ⟨σt, h1, h2⟩ := hL σ' hσ'
 exact hK a' w' σt h1 (h2 w0 a' w' hr')
def Nd0  (p : Prop) (s : St) : St → Prop := fun σ => p ∧ σ = s
def Nd1 {α1 : Type} (p : α1 → Prop) (s : α1 → St) : St → Prop := fun σ => ∃ z1, p z1 ∧ σ = s z1
def Nd2 {α1 : Type} {α2 : Type} (p : α1 → α2 → Prop) (s : α1 → α2 → St) : St → Prop := fun σ => ∃ z1 z2, p z1 z2 ∧ σ = s z1 z2
def Nd3 {α1 : Type} {α2 : Type} {α3 : Type} (p : α1 → α2 → α3 → Prop) (s : α1 → α2 → α3 → St) : St → Prop := fun σ => ∃ z1 z2 z3, p z1 z2 z3 ∧ σ = s z1 z2 z3
def Nd4 {α1 : Type} {α2 : Type} {α3 : Type} {α4 : Type} (p : α1 → α2 → α3 → α4 → Prop) (s : α1 → α2 → α3 → α4 → St) : St → Prop := fun σ => ∃ z1 z2 z3 z4, p z1 z2 z3 z4 ∧ σ = s z1 z2 z3 z4
theorem Dg.new0 {a i b : Nat}  {p : Prop} {s s' : St} {o : Oper} (ha : look acc a = some (Nd0 p s)) (ho : l[i]? = some o) (hb : look acc b = none) (hE : ∀ w0, p → AWl P w0 l.toArray (EndQ (s')) [o] (s)) (h : Dg P l ((b, Nd0 p s') :: acc) es Fin) : Dg P l acc ((a, i, b) :: es) Fin :=
 Dg.new ha ho hb (fun σ h => by obtain ⟨hp, rfl⟩ := h; exact Stp.run (fun w0 => hE w0  hp) ⟨hp, rfl⟩) h
theorem Dg.old0 {a i b : Nat}  {p : Prop} {s s' : St} {o : Oper} (ha : look acc a = some (Nd0 p s)) (ho : l[i]? = some o) (hb : look acc b = some (Nd0 p s')) (hE : ∀ w0, p → AWl P w0 l.toArray (EndQ (s')) [o] (s)) (h : Dg P l acc es Fin) : Dg P l acc ((a, i, b) :: es) Fin :=
 Dg.old ha ho hb (fun σ h => by obtain ⟨hp, rfl⟩ := h; exact Stp.run (fun w0 => hE w0  hp) ⟨hp, rfl⟩) h
theorem Dg.fin0 {w0 : Base} {Q : Exit → St → Prop} {N k : Nat}  {p : Prop} {s : St} (hk : look acc k = some (Nd0 p s)) (h : p → AWl P w0 l.toArray Q (l.drop N) (s)) : Dg P l acc [] (fun st => ∀ σ', st k σ' → AWl P w0 l.toArray Q (l.drop N) σ') :=
 Dg.fin hk fun σ h' => by obtain ⟨hp, rfl⟩ := h'; exact h  hp
theorem Dg.drw0 {a i b : Nat}  {β : Type} {p : Prop} {s : St} {q : β → Prop} {f s' : β → St} {o : Oper} (ha : look acc a = some (Nd0 p s)) (ho : l[i]? = some o) (hE : p → OpE P l.toArray o (s) (fun σ' => ∃ y, q y ∧ σ' = f y)) (hb : look acc b = none) (hL : ∀ y, p → q y → EndQ (s' y) .normal (f y)) (h : Dg P l ((b, Nd1 (fun y => p ∧ q y) s') :: acc) es Fin) : Dg P l acc ((a, i, b) :: es) Fin :=
 Dg.new ha ho hb (fun σ h => by
  obtain ⟨hp, rfl⟩ := h
  refine Stp.opE (hE  hp) ?_
  rintro _ ⟨y, hy, rfl⟩
  exact ⟨_, ⟨y, ⟨hp, hy⟩, rfl⟩, hL y hp hy⟩) h
theorem Dg.odr0 {a i b : Nat}  {β : Type} {p : Prop} {s : St} {q : β → Prop} {f s' : β → St} {o : Oper} (ha : look acc a = some (Nd0 p s)) (ho : l[i]? = some o) (hE : p → OpE P l.toArray o (s) (fun σ' => ∃ y, q y ∧ σ' = f y)) (hb : look acc b = some (Nd1 (fun y => p ∧ q y) s')) (hL : ∀ y, p → q y → EndQ (s' y) .normal (f y)) (h : Dg P l acc es Fin) : Dg P l acc ((a, i, b) :: es) Fin :=
 Dg.old ha ho hb (fun σ h => by
  obtain ⟨hp, rfl⟩ := h
  refine Stp.opE (hE  hp) ?_
  rintro _ ⟨y, hy, rfl⟩
  exact ⟨_, ⟨y, ⟨hp, hy⟩, rfl⟩, hL y hp hy⟩) h
theorem Dg.new1 {a i b : Nat} {α1 : Type} {p : α1 → Prop} {s s' : α1 → St} {o : Oper} (ha : look acc a = some (Nd1 p s)) (ho : l[i]? = some o) (hb : look acc b = none) (hE : ∀ w0, ∀ z1, p z1 → AWl P w0 l.toArray (EndQ (s' z1)) [o] (s z1)) (h : Dg P l ((b, Nd1 p s') :: acc) es Fin) : Dg P l acc ((a, i, b) :: es) Fin :=
 Dg.new ha ho hb (fun σ h => by obtain ⟨z1, hp, rfl⟩ := h; exact Stp.run (fun w0 => hE w0 z1 hp) ⟨z1, hp, rfl⟩) h
theorem Dg.fin1 {w0 : Base} {Q : Exit → St → Prop} {N k : Nat} {α1 : Type} {p : α1 → Prop} {s : α1 → St} (hk : look acc k = some (Nd1 p s)) (h : ∀ z1, p z1 → AWl P w0 l.toArray Q (l.drop N) (s z1)) : Dg P l acc [] (fun st => ∀ σ', st k σ' → AWl P w0 l.toArray Q (l.drop N) σ') :=
 Dg.fin hk fun σ h' => by obtain ⟨z1, hp, rfl⟩ := h'; exact h z1 hp
theorem Dg.drw1 {a i b : Nat} {α1 : Type} {β : Type} {p : α1 → Prop} {s : α1 → St} {q : α1 → β → Prop} {f s' : α1 → β → St} {o : Oper} (ha : look acc a = some (Nd1 p s)) (ho : l[i]? = some o) (hE : ∀ z1, p z1 → OpE P l.toArray o (s z1) (fun σ' => ∃ y, q z1 y ∧ σ' = f z1 y)) (hb : look acc b = none) (hL : ∀ z1 y, p z1 → q z1 y → EndQ (s' z1 y) .normal (f z1 y)) (h : Dg P l ((b, Nd2 (fun z1 y => p z1 ∧ q z1 y) s') :: acc) es Fin) : Dg P l acc ((a, i, b) :: es) Fin :=
 Dg.new ha ho hb (fun σ h => by
  obtain ⟨z1, hp, rfl⟩ := h
  refine Stp.opE (hE z1 hp) ?_
  rintro _ ⟨y, hy, rfl⟩
  exact ⟨_, ⟨z1, y, ⟨hp, hy⟩, rfl⟩, hL z1 y hp hy⟩) h
theorem Dg.odr1 {a i b : Nat} {α1 : Type} {β : Type} {p : α1 → Prop} {s : α1 → St} {q : α1 → β → Prop} {f s' : α1 → β → St} {o : Oper} (ha : look acc a = some (Nd1 p s)) (ho : l[i]? = some o) (hE : ∀ z1, p z1 → OpE P l.toArray o (s z1) (fun σ' => ∃ y, q z1 y ∧ σ' = f z1 y)) (hb : look acc b = some (Nd2 (fun z1 y => p z1 ∧ q z1 y) s')) (hL : ∀ z1 y, p z1 → q z1 y → EndQ (s' z1 y) .normal (f z1 y)) (h : Dg P l acc es Fin) : Dg P l acc ((a, i, b) :: es) Fin :=
 Dg.old ha ho hb (fun σ h => by
  obtain ⟨z1, hp, rfl⟩ := h
  refine Stp.opE (hE z1 hp) ?_
  rintro _ ⟨y, hy, rfl⟩
  exact ⟨_, ⟨z1, y, ⟨hp, hy⟩, rfl⟩, hL z1 y hp hy⟩) h
theorem Dg.new2 {a i b : Nat} {α1 : Type} {α2 : Type} {p : α1 → α2 → Prop} {s s' : α1 → α2 → St} {o : Oper} (ha : look acc a = some (Nd2 p s)) (ho : l[i]? = some o) (hb : look acc b = none) (hE : ∀ w0, ∀ z1 z2, p z1 z2 → AWl P w0 l.toArray (EndQ (s' z1 z2)) [o] (s z1 z2)) (h : Dg P l ((b, Nd2 p s') :: acc) es Fin) : Dg P l acc ((a, i, b) :: es) Fin :=
 Dg.new ha ho hb (fun σ h => by obtain ⟨z1, z2, hp, rfl⟩ := h; exact Stp.run (fun w0 => hE w0 z1 z2 hp) ⟨z1, z2, hp, rfl⟩) h
theorem Dg.fin2 {w0 : Base} {Q : Exit → St → Prop} {N k : Nat} {α1 : Type} {α2 : Type} {p : α1 → α2 → Prop} {s : α1 → α2 → St} (hk : look acc k = some (Nd2 p s)) (h : ∀ z1 z2, p z1 z2 → AWl P w0 l.toArray Q (l.drop N) (s z1 z2)) : Dg P l acc [] (fun st => ∀ σ', st k σ' → AWl P w0 l.toArray Q (l.drop N) σ') :=
 Dg.fin hk fun σ h' => by obtain ⟨z1, z2, hp, rfl⟩ := h'; exact h z1 z2 hp
theorem Dg.drw2 {a i b : Nat} {α1 : Type} {α2 : Type} {β : Type} {p : α1 → α2 → Prop} {s : α1 → α2 → St} {q : α1 → α2 → β → Prop} {f s' : α1 → α2 → β → St} {o : Oper} (ha : look acc a = some (Nd2 p s)) (ho : l[i]? = some o) (hE : ∀ z1 z2, p z1 z2 → OpE P l.toArray o (s z1 z2) (fun σ' => ∃ y, q z1 z2 y ∧ σ' = f z1 z2 y)) (hb : look acc b = none) (hL : ∀ z1 z2 y, p z1 z2 → q z1 z2 y → EndQ (s' z1 z2 y) .normal (f z1 z2 y)) (h : Dg P l ((b, Nd3 (fun z1 z2 y => p z1 z2 ∧ q z1 z2 y) s') :: acc) es Fin) : Dg P l acc ((a, i, b) :: es) Fin :=
 Dg.new ha ho hb (fun σ h => by
  obtain ⟨z1, z2, hp, rfl⟩ := h
  refine Stp.opE (hE z1 z2 hp) ?_
  rintro _ ⟨y, hy, rfl⟩
  exact ⟨_, ⟨z1, z2, y, ⟨hp, hy⟩, rfl⟩, hL z1 z2 y hp hy⟩) h
theorem Dg.new3 {a i b : Nat} {α1 : Type} {α2 : Type} {α3 : Type} {p : α1 → α2 → α3 → Prop} {s s' : α1 → α2 → α3 → St} {o : Oper} (ha : look acc a = some (Nd3 p s)) (ho : l[i]? = some o) (hb : look acc b = none) (hE : ∀ w0, ∀ z1 z2 z3, p z1 z2 z3 → AWl P w0 l.toArray (EndQ (s' z1 z2 z3)) [o] (s z1 z2 z3)) (h : Dg P l ((b, Nd3 p s') :: acc) es Fin) : Dg P l acc ((a, i, b) :: es) Fin :=
 Dg.new ha ho hb (fun σ h => by obtain ⟨z1, z2, z3, hp, rfl⟩ := h; exact Stp.run (fun w0 => hE w0 z1 z2 z3 hp) ⟨z1, z2, z3, hp, rfl⟩) h
theorem Dg.fin3 {w0 : Base} {Q : Exit → St → Prop} {N k : Nat} {α1 : Type} {α2 : Type} {α3 : Type} {p : α1 → α2 → α3 → Prop} {s : α1 → α2 → α3 → St} (hk : look acc k = some (Nd3 p s)) (h : ∀ z1 z2 z3, p z1 z2 z3 → AWl P w0 l.toArray Q (l.drop N) (s z1 z2 z3)) : Dg P l acc [] (fun st => ∀ σ', st k σ' → AWl P w0 l.toArray Q (l.drop N) σ') :=
 Dg.fin hk fun σ h' => by obtain ⟨z1, z2, z3, hp, rfl⟩ := h'; exact h z1 z2 z3 hp
theorem Dg.drw3 {a i b : Nat} {α1 : Type} {α2 : Type} {α3 : Type} {β : Type} {p : α1 → α2 → α3 → Prop} {s : α1 → α2 → α3 → St} {q : α1 → α2 → α3 → β → Prop} {f s' : α1 → α2 → α3 → β → St} {o : Oper} (ha : look acc a = some (Nd3 p s)) (ho : l[i]? = some o) (hE : ∀ z1 z2 z3, p z1 z2 z3 → OpE P l.toArray o (s z1 z2 z3) (fun σ' => ∃ y, q z1 z2 z3 y ∧ σ' = f z1 z2 z3 y)) (hb : look acc b = none) (hL : ∀ z1 z2 z3 y, p z1 z2 z3 → q z1 z2 z3 y → EndQ (s' z1 z2 z3 y) .normal (f z1 z2 z3 y)) (h : Dg P l ((b, Nd4 (fun z1 z2 z3 y => p z1 z2 z3 ∧ q z1 z2 z3 y) s') :: acc) es Fin) : Dg P l acc ((a, i, b) :: es) Fin :=
 Dg.new ha ho hb (fun σ h => by
  obtain ⟨z1, z2, z3, hp, rfl⟩ := h
  refine Stp.opE (hE z1 z2 z3 hp) ?_
  rintro _ ⟨y, hy, rfl⟩
  exact ⟨_, ⟨z1, z2, z3, y, ⟨hp, hy⟩, rfl⟩, hL z1 z2 z3 y hp hy⟩) h
theorem Dg.new4 {a i b : Nat} {α1 : Type} {α2 : Type} {α3 : Type} {α4 : Type} {p : α1 → α2 → α3 → α4 → Prop} {s s' : α1 → α2 → α3 → α4 → St} {o : Oper} (ha : look acc a = some (Nd4 p s)) (ho : l[i]? = some o) (hb : look acc b = none) (hE : ∀ w0, ∀ z1 z2 z3 z4, p z1 z2 z3 z4 → AWl P w0 l.toArray (EndQ (s' z1 z2 z3 z4)) [o] (s z1 z2 z3 z4)) (h : Dg P l ((b, Nd4 p s') :: acc) es Fin) : Dg P l acc ((a, i, b) :: es) Fin :=
 Dg.new ha ho hb (fun σ h => by obtain ⟨z1, z2, z3, z4, hp, rfl⟩ := h; exact Stp.run (fun w0 => hE w0 z1 z2 z3 z4 hp) ⟨z1, z2, z3, z4, hp, rfl⟩) h
theorem Dg.fin4 {w0 : Base} {Q : Exit → St → Prop} {N k : Nat} {α1 : Type} {α2 : Type} {α3 : Type} {α4 : Type} {p : α1 → α2 → α3 → α4 → Prop} {s : α1 → α2 → α3 → α4 → St} (hk : look acc k = some (Nd4 p s)) (h : ∀ z1 z2 z3 z4, p z1 z2 z3 z4 → AWl P w0 l.toArray Q (l.drop N) (s z1 z2 z3 z4)) : Dg P l acc [] (fun st => ∀ σ', st k σ' → AWl P w0 l.toArray Q (l.drop N) σ') :=
 Dg.fin hk fun σ h' => by obtain ⟨z1, z2, z3, z4, hp, rfl⟩ := h'; exact h z1 z2 z3 z4 hp
end
end Go.Q
set_option maxHeartbeats 1000000
set_option maxRecDepth 100000
namespace Go.Q
open Go.RowKit Go.D
theorem C.bytes {w : World} {l : List Int} {v : Value} {F : List Nat} (h : C false w (.sl 1 (byR l)) v F) : ∃ a len cap, v = .slice a len cap ∧ l.length = len ∧ len ≤ 9223372036854775807 ∧ ∀ i, i < len → ∃ b off x, a = some ⟨b, off, none⟩ ∧ b ∈ F ∧ l[i]? = some x ∧ w.cell? ⟨b, off + i, none⟩ = some (.int .u8 x) := by
 simp only [C] at h
 obtain ⟨a, len, cap, rfl, h2, h3, h4, h5⟩ := h
 rw [byR, List.length_map] at h2
 refine ⟨a, len, cap, rfl, h2, by unfold maxLen at h4; omega, fun i hi => ?_⟩
 rcases h5 with ⟨h5, _⟩ | ⟨b, off, G, rfl, rfl, h7, h8, h9⟩
 · omega
 · obtain ⟨s1, xs, s2, s3, s4⟩ := h9.flat
   have hf : (byR l).flatten = l.map fun x => T.v (.int .u8 x) := by
    unfold byR
    clear h9 s1 s2 s3 h2
    induction l with
    | nil => rfl
    | cons x l ih => rw [List.map_cons, List.flatten_cons, ih]; rfl
   rw [hf] at s2
   have key : ∀ (m : List Int) {cs : List Value} {G : List Nat}, Cs false w (m.map fun x => T.v (.int .u8 x)) cs G → cs = m.map fun x => .int .u8 x := by
    intro m
    induction m with
    | nil => intro cs G h; unfold Cs at h; exact h.1
    | cons x m ih => intro cs G h; rw [List.map_cons] at h; unfold Cs at h; obtain ⟨c, cr, G1, G2, rfl, g1, g2, rfl⟩ := h; rw [ih g2]; unfold C at g1; rw [g1.1]; rfl
   have e := key l s2
   subst e
   exact ⟨b, off, l[i]'(by omega), rfl, by simp, List.getElem?_eq_getElem _, s4 i _ (by simp [List.getElem?_eq_getElem, h2, hi])⟩
theorem Chg.setCell (w : World) (p : Addr) (u : Value) : Chg w (w.setCell p u) [p.block] := ⟨rfl, rfl, rfl, by simp [World.setCell], fun k _ hn => heap_setCell_other w p k u (fun e => hn (by simp [e]))⟩
theorem Chg.more {w w1 w2 : World} {G : List Nat} (h : Chg w w1 G) (h2 : Chg w1 w2 G) : Chg w w2 G := ⟨h2.os.trans h.os, h2.tape.trans h.tape, h2.output.trans h.output, Nat.le_trans h.size h2.size, fun k hk hn => (h2.block k (Nat.lt_of_lt_of_le hk h.size) hn).trans (h.block k hk hn)⟩
theorem cu_end {w w' : World} {gb : Nat} {v : Value} {i z : Int} {t : TypeId} {G : List Nat} {bs : List Int} (hc : Chg w w' [gb]) (hC : C false w (.sl 1 (byR bs)) v G) (hZ : ∀ b ∈ G, b < w.heap.size ∧ b ≠ gb) (hi : 0 ≤ i) (hb : ∀ n ∈ bs, 0 ≤ n ∧ n < 256) (B : Box w' gb [v, .int .i64 i, .int .i64 z] t) : CuOk w' (gb, v) :=
 ⟨⟨i, z, t, G, bs, B, hC.congr fun b hm => hc.block b (hZ b hm).1 (by simpa using (hZ b hm).2), fun b hm => ⟨Nat.lt_of_lt_of_le (hZ b hm).1 hc.size, (hZ b hm).2⟩, hi, hb⟩, ⟨_, t, B⟩⟩
theorem and255 (u : Int) : 0 ≤ bits .and .i64 u 255 ∧ bits .and .i64 u 255 < 256 := by
 have h : bits .and .i64 u 255 = ((BitVec.ofInt 64 u &&& BitVec.ofInt 64 255).toNat : Int) := by
  have hlt : (BitVec.ofInt 64 u &&& BitVec.ofInt 64 255).toNat < 2 ^ 63 := by
   rw [BitVec.toNat_and]
   exact Nat.lt_of_le_of_lt Nat.and_le_right (by decide)
  have hw : ∀ m : Nat, m < 2 ^ 63 → IntKind.wrap .i64 (m : Int) = m := fun m hm => wrap_in ⟨by omega, by omega⟩
  exact hw _ hlt
 rw [h, BitVec.toNat_and]
 have : (BitVec.ofInt 64 u).toNat &&& (BitVec.ofInt 64 255).toNat ≤ 255 := Nat.and_le_right
 omega
end Go.Q
namespace Go.Proofs.YtbkhopfpejhnlaaGreat
open Go.RowKit Go.Q Go.D
set_option maxHeartbeats 1000000 in
theorem specl1New : FnN Tryz.prog 39 := by
 refine ⟨⟨_, Tryz.func39, by kernel_rfl, by kernel_rfl⟩, fun w v F bs hG hC hb => ?_⟩
 obtain ⟨a, len, cap, rfl, n1, n2, c1⟩ := hC.bytes
 clear hC
 go_enter Tryz.func39, Tryz.ntmps39
 go_wp2
 go_loopw [3, 4] (fun h i wr => ∃ (k : Nat) (d : Int), k ≤ len ∧ i = .int .i64 k ∧ h = .int .i64 d ∧ wr = w) (fun _ i _ => len - (intOf i).toNat)
 case atStart => exact ⟨0, _, by omega, rfl, rfl, rfl⟩
 case round =>
  obtain ⟨k, d, hk, rfl, rfl, rfl⟩ := hrel
  by_cases hlt : k < len
  · by_cases hlt' : k < 4000
    · obtain ⟨b, off, x, rfl, _, hx, hc⟩ := c1 k hlt
      have hbx := hb x (List.mem_of_getElem? hx)
      go_wp2
      go_roundw
      case rel => exact ⟨k + 1, _, by omega, by go_num, rfl, trivial⟩
      case measure => simp [intOf]; omega
    · go_wp2
      go_ret
      exact ⟨_, 0, d, _, rfl, Nat.le_refl _, thaw_new, heap_alloc_new _ _, by omega, (Ext.refl _).alloc _⟩
  · go_wp2
    go_ret
    exact ⟨_, 0, d, _, rfl, Nat.le_refl _, thaw_new, heap_alloc_new _ _, by omega, (Ext.refl _).alloc _⟩
set_option maxHeartbeats 1000000 in
theorem specl1Byte : FnD Tryz.prog 100 [] (fun x : Int => 0 ≤ x ∧ x < 256) (fun x => .a (.one (.v (.int .i64 x)))) := by
 refine ⟨⟨_, Tryz.func100, by kernel_rfl, by kernel_rfl⟩, fun w g vs F hG hC hv hgF => ?_⟩
 obtain ⟨rfl, rfl⟩ := hv
 obtain ⟨gb, v⟩ := g
 obtain ⟨⟨i, h, t, G, bs, hcell, hC, hZ, hi, hb⟩, hth⟩ := hC
 simp only at hcell hC hZ hth
 obtain ⟨a, len, cap, rfl, n1, n2, c1⟩ := hC.bytes
 have B0 : Box w gb [.slice a len cap, .int .i64 i, .int .i64 h] t := hcell
 have e0 := B0.at 2 rfl
 have f0 := B0.thaw 2
 show Calls _ _ #[_] _ _
 go_enter Tryz.func100, Tryz.ntmps100
 go_wp2_with fail
 generalize wrap64 (wrap64 (h * 6364136223846793005) + 1442695040888963407) = z
 have B1 := B0.set 2 (.int .i64 z)
 have hz1 : ∀ b, b ≠ gb → (w.setCell ⟨gb, 2, none⟩ (.int .i64 z)).heap[b]? = w.heap[b]? := fun b hb => heap_setCell_other w _ b _ hb
 have hsz : (w.setCell ⟨gb, 2, none⟩ (.int .i64 z)).heap.size = w.heap.size := by simp [World.setCell]
 have hch := Chg.setCell w ⟨gb, 2, none⟩ (.int .i64 z)
 generalize w.setCell ⟨gb, 2, none⟩ (.int .i64 z) = w1 at B1 hz1 hsz hch ⊢
 simp only [List.set_cons_succ, List.set_cons_zero] at B1
 have e3 := Later.cell (B1.at 2 rfl)
 refine wp_region_later (by kernel_rfl) (by kernel_rfl) ?_
 repeat (go_big_quiet_step (fail))
 refine wpQuiet_nil ?_
 rintro _ ⟨y, rfl⟩
 have hX0 := and255 (bits BinOp.xor IntKind.i64 (z / 8589934592) (z / 35184372088832))
 generalize bits BinOp.and IntKind.i64 _ 255 = X at hX0 ⊢
 have B2 := B1.mono y.2
 have x2 := y.2
 generalize y.1 = w2 at B2 x2 ⊢
 clear e3 y
 have e1 := Later.cell (B2.at 0 rfl)
 have e2 := Later.cell (B2.at 1 rfl)
 go_wp2_with fail
 refine wp_region_later (by kernel_rfl) (by kernel_rfl) ?_
 repeat (go_big_quiet_step (fail))
 refine wpQuiet_nil ?_
 rintro _ ⟨y, rfl⟩
 have B3 := B2.mono y.2
 have x3 := x2.trans y.2
 generalize y.1 = w3 at B3 x3 ⊢
 clear e1 e2 y
 by_cases hlt : i < len
 · obtain ⟨k, rfl⟩ : ∃ k : Nat, i = (k : Int) := ⟨i.toNat, by omega⟩
   obtain ⟨b, off, x, rfl, hbG, hbx, hc⟩ := c1 k (by omega)
   have hxb := hb x (List.mem_of_getElem? hbx)
   have hbz := hZ b hbG
   have hc3 : w3.cell? ⟨b, off + k, none⟩ = some (.int .u8 x) := by
    unfold World.cell? at hc ⊢
    rw [x3.block (by rw [hsz]; exact hbz.1), hz1 b hbz.2]
    exact hc
   have e1 := Later.cell (B3.at 0 rfl)
   have e2 := Later.cell (B3.at 1 rfl)
   have e4 := Later.cell hc3
   go_wp2_with fail
   refine wp_region_later (by kernel_rfl) (by kernel_rfl) ?_
   repeat (go_big_quiet_step (fail))
   refine wpQuiet_nil ?_
   rintro _ ⟨y, rfl⟩
   have hX1 := and255 (X + x)
   generalize bits BinOp.and IntKind.i64 _ 255 = X1 at hX1 ⊢
   have B4 := B3.mono y.2
   have x4 := x3.trans y.2
   generalize y.1 = w4 at B4 x4 ⊢
   clear e1 e2 e4 y
   have e1 := B4.at 1 rfl
   have f1 := B4.thaw 1
   go_wp2_with fail
   go_ret
   have B5 := B4.set 1 (.int .i64 ((k : Int) + 1))
   have hch5 : Chg w _ [gb] := (hch.later x4).more (Chg.setCell w4 ⟨gb, 1, none⟩ (.int .i64 ((k : Int) + 1)))
   exact ⟨X1, .int .i64 X1, [], rfl, hX1, by unfold Vr V0r C; exact ⟨rfl, rfl, rfl⟩, List.nodup_nil, by simp, hch5, cu_end hch5 hC hZ (by omega) hb B5⟩
 · go_wp2_with fail
   go_ret
   exact ⟨X, .int .i64 X, [], rfl, hX0, by unfold Vr V0r C; exact ⟨rfl, rfl, rfl⟩, List.nodup_nil, by simp, hch.later x3, cu_end (hch.later x3) hC hZ hi hb B3⟩
end Go.Proofs.YtbkhopfpejhnlaaGreat
set_option maxHeartbeats 1000000
set_option maxRecDepth 100000
namespace Go.Q
open Go.RowKit Go.D
end Go.Q
namespace Go.Proofs.YtbkhopfpejhnlaaGreat
open Go.RowKit Go.Q Go.D
set_option maxRecDepth 100000 in
theorem specl1Below (n : Int) : FnD Tryz.prog 62 [.one (.v (.int .i64 n))] (fun x : Int => (n ≤ 0 ∧ x = 0) ∨ (0 ≤ x ∧ x < n)) (fun x => .a (.one (.v (.int .i64 x)))) := by
 refine FnD.walk Tryz.func62 U (by kernel_rfl) Tryz.ntmps62 U (fun g => rfl) fun w0 g => ?_
 refine AW.sr ?_
 refine AWl.ac ?_
 refine AWl.nil (AW.seq ?_)
 refine AW.sr ?_
 refine AWl.mv ?_
 refine AWl.p (R_le U (.no U) U (.tm U) (.const U)) U ?_
 refine AWl.nil ?_
 refine AW.cond (.tm U) (fun h10 => ?_) (fun h10 => ?_)
 · skip
   try simp at h10
   refine AW.sr ?_
   refine AWl.ac ?_
   refine AWl.nil (AW.ret ?_)
   apply DRes.mk (x := 0) rfl
   case h =>
    refine Res.one U (.tmp U .nil) U ?_
    rfl
   case hp => exact .inl ⟨by omega, rfl⟩
 · skip
   try simp at h10
   refine AW.skip ?_
   refine AW.seq ?_
   refine AW.sr ?_
   refine AWl.mv ?_
   refine AWl.p (R_le U (.no U) U (.tm U) (.const U)) U ?_
   refine AWl.nil ?_
   refine AW.cond (.tm U) (fun h12 => ?_) (fun h12 => ?_)
   · skip
     try simp at h12
     refine AW.sr ?_
     refine AWl.mv ?_
     refine AWl.opE (R_calld 1400 (specl1Byte) U U U (.tm U) U U .nil (fun _ => rfl) (fun _ => rfl)) ?_
     rintro _ ⟨z14, hz14, rfl⟩
     try dsimp only at hz14
     refine AWl.mv ?_
     refine AWl.p (R_rem U (.no U) U (.tm U) (.tm U) (fun _ => by omega)) U ?_
     refine AWl.av ?_
     refine AWl.nil (AW.ret ?_)
     apply DRes.mk rfl
     case h =>
      refine Res.one U (.tmp U .nil) U ?_
      rfl
     case hp => exact .inr ⟨Int.emod_nonneg _ (by omega), Int.emod_lt_of_pos _ (by omega)⟩
   · skip
     try simp at h12
     refine AW.skip ?_
     refine AW.sr ?_
     refine AWl.mv ?_
     refine AWl.opE (R_calld 1800 (specl1Byte) U U U (.tm U) U U .nil (fun _ => rfl) (fun _ => rfl)) ?_
     rintro _ ⟨z18, hz18, rfl⟩
     try dsimp only at hz18
     refine AWl.av ?_
     refine AWl.nil (AW.seq ?_)
     refine AW.le (σ' := ⟨_, [(0, _), (1, _), (4, _), (5, _)], [(888888, _)]⟩) (Le.sub0 U ⟨U, U, U, U, Y⟩ ⟨U, Y⟩) ?_
     refine AW.region ?_
     refine AWl.mv ?_
     refine AWl.opE (R_calld 2000 (specl1Byte) U U U (.tm U) U U .nil (fun _ => rfl) (fun _ => rfl)) ?_
     rintro _ ⟨z20, hz20, rfl⟩
     try dsimp only at hz20
     refine AWl.av ?_
     refine AWl.nil (AW.sr ?_)
     refine AWl.mv ?_
     refine AWl.opE (R_calld 2200 (specl1Byte) U U U (.tm U) U U .nil (fun _ => rfl) (fun _ => rfl)) ?_
     rintro _ ⟨z22, hz22, rfl⟩
     try dsimp only at hz22
     refine AWl.av ?_
     refine AWl.nil (AW.sr ?_)
     refine AWl.mv ?_
     refine AWl.opE (R_calld 2400 (specl1Byte) U U U (.tm U) U U .nil (fun _ => rfl) (fun _ => rfl)) ?_
     rintro _ ⟨z24, hz24, rfl⟩
     try dsimp only at hz24
     refine AWl.av ?_
     refine AWl.nil (AW.seq ?_)
     refine AW.le (σ' := ⟨_, [(0, _), (1, _), (4, _), (5, _), (6, _), (7, _), (8, _)], [(888888, _)]⟩) (Le.sub0 U ⟨U, U, U, U, U, U, U, Y⟩ ⟨U, Y⟩) ?_
     refine AW.region ?_
     refine AWl.mv ?_
     refine AWl.p (R_mul U (.no U) U (.tm U) (.const U) (fun _ => by omega)) U ?_
     refine AWl.mv ?_
     refine AWl.p (R_mul U (.no U) U (.tm U) (.const U) (fun _ => by omega)) U ?_
     refine AWl.p (R_add U (.no U) U (.tm U) (.tm U) (fun _ => by omega)) U ?_
     refine AWl.mv ?_
     refine AWl.p (R_mul U (.no U) U (.tm U) (.const U) (fun _ => by omega)) U ?_
     refine AWl.p (R_add U (.no U) U (.tm U) (.tm U) (fun _ => by omega)) U ?_
     refine AWl.mv ?_
     refine AWl.p (R_add U (.no U) U (.tm U) (.tm U) (fun _ => by omega)) U ?_
     refine AWl.mv ?_
     refine AWl.p (R_rem U (.no U) U (.tm U) (.tm U) (fun _ => by omega)) U ?_
     refine AWl.av ?_
     refine AWl.nil (AW.ret ?_)
     apply DRes.mk rfl
     case h =>
      refine Res.one U (.tmp U .nil) U ?_
      rfl
     case hp => exact .inr ⟨Int.emod_nonneg _ (by omega), Int.emod_lt_of_pos _ (by omega)⟩
set_option maxRecDepth 100000 in
theorem specl1Once (n : Int) : FnD Tryz.prog 61 [.one (.v (.int .i64 n))] (fun _ : Bool => True) (fun x => .a (.one (.v (.bool x)))) := by
 refine FnD.walk Tryz.func61 U (by kernel_rfl) Tryz.ntmps61 U (fun g => rfl) fun w0 g => ?_
 refine AW.sr ?_
 refine AWl.ac ?_
 refine AWl.nil (AW.sr ?_)
 refine AWl.mv ?_
 refine AWl.mv ?_
 refine AWl.opE (R_calld 700 (specl1Below n) U U U (.tm U) U U (.cons (.tm U) U .nil) (fun _ => rfl) (fun _ => rfl)) ?_
 rintro _ ⟨z7, hz7, rfl⟩
 try dsimp only at hz7
 refine AWl.p (R_eq U (.no U) U (.tm U) (.const U)) U ?_
 refine AWl.av ?_
 refine AWl.nil (AW.ret ?_)
 apply DRes.mk rfl
 case h =>
  refine Res.one U (.tmp U .nil) U ?_
  rfl
 case hp => exact trivial
set_option maxRecDepth 100000 in
theorem specl1PickInt (l : List Int) (hl : 0 < l.length) : FnD Tryz.prog 96 [.one (.sl 1 (l.map cInt))] (fun x : Int => x ∈ l) (fun x => .a (.one (.v (.int .i64 x)))) := by
 refine FnD.walk Tryz.func96 U (by kernel_rfl) Tryz.ntmps96 U (fun g => rfl) fun w0 g => ?_
 refine AW.sr ?_
 refine AWl.ac ?_
 refine AWl.nil (AW.sr ?_)
 refine AWl.mv ?_
 refine AWl.mv ?_
 refine AWl.mv ?_
 refine AWl.p (by exact R_lenm U (.no U) U (.tm U) (by exact .t) Tryz.underlying24) U ?_
 refine AWl.opE (R_calld 900 (specl1Below _) U U U (.tm U) U U (.cons (.tm U) U .nil) (fun _ => rfl) (fun _ => rfl)) ?_
 rintro _ ⟨z9, hz9, rfl⟩
 try dsimp only at hz9
 refine AWl.p ((by exact R_indexAddr U (.no U) U (.tm U) (.tm U) Tryz.underlying24 ty3 (fun _ => ⟨by simp at hz9; omega, map_get (List.getElem?_eq_getElem (i := z9.toNat) (show z9.toNat < l.length by simp at hz9; omega))⟩))) U ?_
 refine AWl.p (by exact R_load U (.no U) U (.tm U) ty3 U U) U ?_
 refine AWl.av ?_
 refine AWl.nil (AW.ret ?_)
 apply DRes.mk rfl
 case h =>
  refine Res.one U (.tmp U .nil) U ?_
  rfl
 case hp => exact List.getElem_mem _
end Go.Proofs.YtbkhopfpejhnlaaGreat
