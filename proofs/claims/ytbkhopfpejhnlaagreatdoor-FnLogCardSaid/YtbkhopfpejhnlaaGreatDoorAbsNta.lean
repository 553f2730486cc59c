import Derived.Test.YtbkhopfpejhnlaaGreatDoorAbsKta
set_option linter.unusedVariables false
set_option linter.unusedSimpArgs false
namespace Go.Q
open Go.RowKit
section
variable {P : Program}
theorem stL_congr {L L' : Nat → Bool} : ∀ (os : List Out) (i : Nat) (σ : St), (∀ j, j < os.length → L (i + j) = L' (i + j)) → stL L i os σ = stL L' i os σ
 | [], _, _, _ => rfl
 | y :: os, i, σ, h => by
  rw [stL, stL]
  have h0 := h 0 (by simp)
  rw [Nat.add_zero] at h0
  rw [h0]
  exact stL_congr os (i + 1) _ fun j hj => by rw [show i + 1 + j = i + (j + 1) by omega]; exact h (j + 1) (by simp; omega)
theorem Op1.le {ops : Array Oper} {o : Oper} {σ σ' σ2 : St} (h : Op1 P ops o σ σ2) (hs : Sup σ' σ2) : Op1 P ops o σ σ' := fun w0 a w hr K Q' hK => h w0 a w hr K Q' fun a' w' hr' => hK a' w' (Rel.of_look hr' hs.n.symm (fun t x h => hs.slots t x h) (fun t x h => hs.res t x h))
def FinS (P : Program) (w0 : Base) (Q : Exit → St → Prop) (M e : Nat) (B : Nat → List Nat) (l : List Oper) (n : Nat) (sl : List (Nat × (Bool × S))) (rs : List (Nat × R)) (outs : List Out) : Prop :=
 delS (outs.map (·.1)) sl = sl ∧ outB B ⟨n, sl, rs⟩ outs = true ∧ ∃ σA σ1 σF, (∀ o, l[M]? = some o → Op1 P l.toArray o (stL (fun _ => true) 0 outs ⟨n, sl, rs⟩) σA) ∧ (∀ o, l[M]? = some o → Op1 P l.toArray o (stL (fun j => !(Nat.beq j e)) 0 outs ⟨n, sl, rs⟩) σ1) ∧
 (∀ o, l[e]? = some o → Op1 P l.toArray o σ1 σF) ∧ Sup σF σA ∧ AWl P w0 l.toArray Q (l.drop (M + 1)) σF
theorem FinS.mk {w0 : Base} {Q : Exit → St → Prop} {M e : Nat} {B : Nat → List Nat} {l : List Oper} {n : Nat} {sl : List (Nat × (Bool × S))} {rs : List (Nat × R)} {outs : List Out} {oM oE : Oper} {σA σ1 σE : St} (σF : St) (hd : delS (outs.map (·.1)) sl = sl) (hU : outB B ⟨n, sl, rs⟩ outs = true) (hM : l[M]? = some oM) (hE : l[e]? = some oE)
 (hA : Op1 P l.toArray oM (stL (fun _ => true) 0 outs ⟨n, sl, rs⟩) σA) (h1 : Op1 P l.toArray oM (stL (fun j => !(Nat.beq j e)) 0 outs ⟨n, sl, rs⟩) σ1) (hEE : Op1 P l.toArray oE σ1 σE) (hF : Sup σF σA) (hF2 : Sup σF σE) (hfin : AWl P w0 l.toArray Q (l.drop (M + 1)) σF) : FinS P w0 Q M e B l n sl rs outs :=
 ⟨hd, hU, σA, σ1, σF, fun o h => by rw [hM] at h; cases h; exact hA, fun o h => by rw [hM] at h; cases h; exact h1, fun o h => by rw [hE] at h; cases h; exact hEE.le hF2, hF, hfin⟩
end
end Go.Q
namespace Go.Q
open Go.RowKit
section
variable {P : Program}
def EndQ (σt : St) : Exit → St → Prop
 | .normal, σ => Le σ σt
 | _, _ => False
theorem EndQ.run {ops : Array Oper} {o : Oper} {σ σt : St} (h : ∀ w0, AWl P w0 ops (EndQ σt) [o] σ) {w0 : Base} {a : Act} {w : World} (hr : Rel w0 σ a w) (K : Act → World → Prop) (Q : Exit → Act → World → Prop) (hK : ∀ a' w', Rel w0 σt a' w' → K a' w') :
 if Region.wanted o (yielded ops a.tmps) then o.wp P a w K Q else K (a.put o.dst undef) w := by
 have h1 := h w0 a w hr
 unfold wpList at h1
 have hN : ∀ a' w', wpList P ops (lift w0 (EndQ σt)) [] a' w' → K a' w' := fun a' w' h => by
  obtain ⟨σ', h2, h3⟩ := h
  exact hK a' w' (h2 w0 a' w' h3)
 have hF : ∀ e a' w', e ≠ Exit.normal → lift w0 (EndQ σt) e a' w' → False := fun e a' w' he h => by
  obtain ⟨σ', h2, h3⟩ := h
  cases e <;> first | exact he rfl | exact h2
 have hL : LetsOut (lift w0 (EndQ σt)) → False := fun ⟨a', w', h⟩ => hF _ a' w' (by simp) h
 split
 · rename_i hw
   rw [if_pos hw] at h1
   rcases h1 with h1 | ⟨_, h1⟩
   · unfold Oper.wp at *
     generalize (execOp a.eval o).run P w = r at *
     cases r with
     | ok n w' =>
      cases n <;> simp only [Oper.upon] at h1 ⊢ <;>
       first
        | exact hN _ _ h1
        | exact Calls.mono h1 (fun e w'' he => by cases e <;> first | exact hN _ _ he | exact (hL he).elim | exact (hF _ _ _ (by simp) he).elim)
        | exact Rows.mono h1 (fun _ _ he => hN _ _ he)
     | halt x w' => cases x <;> simp only [Oper.upon] at h1 ⊢ <;> first | exact h1.elim | exact (hF _ _ _ (by simp) h1).elim
   · exact (hL h1).elim
 · rename_i hw
   rw [if_neg hw] at h1
   exact hN _ _ h1
def dagB (l : List Oper) (N : Nat) (ms : List (List Nat)) (es : List (Nat × Nat × Nat)) (k : Nat) : Bool :=
 (List.range ms.length).all (fun a => match ms[a]? with
  | none => false
  | some m => ((List.range N).all (fun i => memN m i || (match l[i]? with
   | none => false
   | some o => !((deps o).all (memN m)) || es.any (fun e => Nat.beq e.1 a && Nat.beq e.2.1 i && (match ms[e.2.2]? with
    | none => false
    | some m' => (List.range N).all fun j => memN m' j == (Nat.beq j i || memN m j)))))) &&
   (Nat.beq a k || (List.range N).any (fun i => !(memN m i)))) &&
 (match ms with | [] :: _ => true | _ => false)
theorem AW.dag {w0 : Base} {Q : Exit → St → Prop} {σ : St} {id : Nat} {l : List Oper} (N k : Nat) (ms : List (List Nat)) (es : List (Nat × Nat × Nat)) (st : Nat → St) (hm : P.follows .mixedOrders = true) (hB : planC l.toArray N = true) (hP : dagB l N ms es k = true)
 (hes : ∀ e ∈ es, ∀ o, l[e.2.1]? = some o → ∀ w0, AWl P w0 l.toArray (EndQ (st e.2.2)) [o] (st e.1)) (hσ : Le σ (st 0)) (hfin : AWl P w0 l.toArray Q (l.drop N) (st k)) : AW P w0 (.region id l.toArray true) Q σ := by
 intro a w hr
 refine wp_region_any hm ?_
 simp only [dagB, Bool.and_eq_true] at hP
 obtain ⟨hP, hms⟩ := hP
 have hms0 : ms[0]? = some [] := by
  match ms, hms with
  | [] :: _, _ => rfl
 have hlN : N ≤ l.length := by
  have hB' := hB
  simp only [planC, Bool.and_eq_true, decide_eq_true_eq] at hB'
  simpa using hB'.1.1.1
 have hdep : ∀ i o, i < N → l[i]? = some o → ∀ j ∈ deps o, j < N := fun i o hi ho j hj => by
  have hB' := hB
  simp only [planC, Bool.and_eq_true, decide_eq_true_eq] at hB'
  have := List.all_eq_true.1 hB'.1.1.2 i (List.mem_range.2 hi)
  have ho' : l.toArray[i]? = some o := by simpa using ho
  rw [ho'] at this
  have := List.all_eq_true.1 this j hj
  simp only [decide_eq_true_eq] at this
  omega
 have hat : ∀ (b : Nat) (m : List Nat), ms[b]? = some m → ((∀ i, i < N → memN m i = false → ∀ o, l[i]? = some o → (∀ j ∈ deps o, memN m j = true) → ∃ e ∈ es, e.1 = b ∧ e.2.1 = i ∧ ∃ m', ms[e.2.2]? = some m' ∧ ∀ j, j < N → memN m' j = (Nat.beq j i || memN m j)) ∧ ((∀ i, i < N → memN m i = true) → b = k)) := by
  intro b m hb
  have := List.all_eq_true.1 hP b (List.mem_range.2 (List.getElem?_eq_some_iff.1 hb).1)
  rw [hb] at this
  simp only [Bool.and_eq_true] at this
  refine ⟨fun i hi hu o ho hd => ?_, fun hall => ?_⟩
  · have := List.all_eq_true.1 this.1 i (List.mem_range.2 hi)
    rw [hu, Bool.false_or, ho] at this
    simp only [Bool.or_eq_true, Bool.not_eq_true'] at this
    rcases this with h | h
    · rw [List.all_eq_true.2 hd] at h; cases h
    · obtain ⟨e, he, h⟩ := List.any_eq_true.1 h
      simp only [Bool.and_eq_true] at h
      obtain ⟨⟨h1, h2⟩, h3⟩ := h
      refine ⟨e, he, Nat.eq_of_beq_eq_true h1, Nat.eq_of_beq_eq_true h2, ?_⟩
      split at h3
      · cases h3
      · rename_i m' hm'
        exact ⟨m', hm', fun j hj => by simpa using List.all_eq_true.1 h3 j (List.mem_range.2 hj)⟩
  · have h2 := this.2
    simp only [Bool.or_eq_true] at h2
    rcases h2 with h | h
    · exact Nat.eq_of_beq_eq_true h
    · obtain ⟨i, hi, h⟩ := List.any_eq_true.1 h
      rw [hall i (List.mem_range.1 hi)] at h; cases h
 have H := wpAny_inv (P := P) (Q := lift w0 Q) (J := fun listed a w => ∃ b m, ms[b]? = some m ∧ (∀ j, j < N → memN m j = listed.getD j false) ∧ Rel w0 (st b) a w) hB (fun i o hi ho listed a w inv hd hu hJ => ?_) (fun listed a w hall hJ => ?_)
  (unl N (Array.replicate l.toArray.size false)) (Array.replicate l.toArray.size false) a { w with drawn := w.drawn + 1 } rfl
  ⟨by simp, fun j oj _ hl => (by rw [getD_replicate_false] at hl; cases hl), fun t _ ht => getD_in (by simpa using ht) (getD_replicate_false _ _)⟩ ?_
 · have hu : unl N (Array.replicate l.toArray.size false) = N := by
    unfold unl
    rw [List.countP_eq_length.2 (fun j _ => by rw [getD_replicate_false]; rfl), List.length_range]
   rw [hu, show N + (l.toArray.size - N) = l.toArray.size by simp; omega] at H
   exact H
 · obtain ⟨b, m, hb, hmj, hr⟩ := hJ
   have ho0 : l[i]? = some o := by simpa using ho
   obtain ⟨e, he, rfl, rfl, m', hm', hj'⟩ := (hat b m hb).1 i hi (by rw [hmj i hi]; exact hu) o ho0 fun j hj => by rw [hmj j (hdep i o hi ho0 j hj)]; exact hd j hj
   intro K Q' hK
   refine EndQ.run (hes e he o ho0) hr K Q' fun a' w' hr' => hK a' w' ⟨e.2.2, m', hm', fun j hj => ?_, hr'⟩
   rw [hj' j hj, hmj j hj]
   by_cases ej : j = e.2.1
   · subst ej
     have : e.2.1 < listed.size := by rw [inv.size]; simp; omega
     simp [this, Nat.beq_refl]
   · rw [beq_false ej, Bool.false_or, getD_set_ne false (fun h => ej h.symm)]
 · obtain ⟨b, m, hb, hmj, hr⟩ := hJ
   have := (hat b m hb).2 fun i hi => by rw [hmj i hi]; exact hall i hi
   subst this
   exact hfin a w hr
 · refine ⟨0, [], hms0, fun j _ => by rw [getD_replicate_false]; rfl, ?_⟩
   obtain ⟨I, hI⟩ := hσ w0 a w hr
   exact ⟨I, hI.later (Ext.refl w).drawn⟩
structure Dag (P : Program) (l : List Oper) (acc : List (Nat × St)) (es : List (Nat × Nat × Nat)) (Fin : (Nat → St) → Prop) : Prop where
 pf : ∃ st : Nat → St, (∀ k σ, look acc k = some σ → st k = σ) ∧ (∀ e ∈ es, ∀ o, l[e.2.1]? = some o → ∀ w0, AWl P w0 l.toArray (EndQ (st e.2.2)) [o] (st e.1)) ∧ Fin st
variable {l : List Oper} {acc : List (Nat × St)} {es : List (Nat × Nat × Nat)} {Fin : (Nat → St) → Prop}
theorem Dag.new {a i b : Nat} {σ σ' : St} {o : Oper} (ha : look acc a = some σ) (ho : l[i]? = some o) (hb : look acc b = none) (hE : ∀ w0, AWl P w0 l.toArray (EndQ σ') [o] σ) (h : Dag P l ((b, σ') :: acc) es Fin) : Dag P l acc ((a, i, b) :: es) Fin := by
 obtain ⟨st, h1, h2, h3⟩ := h.pf
 have hne : b ≠ a := fun e => by subst e; rw [hb] at ha; cases ha
 have h1' : ∀ k σ, look acc k = some σ → st k = σ := fun k σ hk => h1 k σ (by
  rw [look_cons, if_neg (fun e => ?_)]
  · exact hk
  · subst e; rw [hb] at hk; cases hk)
 refine ⟨st, h1', fun e he o' ho' w0 => ?_, h3⟩
 rcases List.mem_cons.1 he with rfl | he
 · simp only at ho' ⊢
   rw [ho] at ho'; cases ho'
   rw [h1' a σ ha, h1 b σ' (by rw [look_cons, if_pos rfl])]
   exact hE w0
 · exact h2 e he o' ho' w0
theorem Dag.old {a i b : Nat} {σ σ' : St} {o : Oper} (ha : look acc a = some σ) (ho : l[i]? = some o) (hb : look acc b = some σ') (hE : ∀ w0, AWl P w0 l.toArray (EndQ σ') [o] σ) (h : Dag P l acc es Fin) : Dag P l acc ((a, i, b) :: es) Fin := by
 obtain ⟨st, h1, h2, h3⟩ := h.pf
 refine ⟨st, h1, fun e he o' ho' w0 => ?_, h3⟩
 rcases List.mem_cons.1 he with rfl | he
 · simp only at ho' ⊢
   rw [ho] at ho'; cases ho'
   rw [h1 a σ ha, h1 b σ' hb]
   exact hE w0
 · exact h2 e he o' ho' w0
theorem Dag.fin {w0 : Base} {Q : Exit → St → Prop} {N k : Nat} {σ : St} (hk : look acc k = some σ) (h : AWl P w0 l.toArray Q (l.drop N) σ) : Dag P l acc [] (fun st => AWl P w0 l.toArray Q (l.drop N) (st k)) :=
 ⟨fun i => (look acc i).getD ⟨0, [], []⟩, fun i σ' hi => by simp [hi], fun e he => (by cases he), by simpa [hk] using h⟩
theorem AW.dagn {w0 : Base} {Q : Exit → St → Prop} {σ : St} {id : Nat} (N k : Nat) (ms : List (List Nat)) (es : List (Nat × Nat × Nat)) (hm : P.follows .mixedOrders = true) (hB : planC l.toArray N = true) (hP : dagB l N ms es k = true)
 (h : Dag P l [(0, σ)] es (fun st => AWl P w0 l.toArray Q (l.drop N) (st k))) : AW P w0 (.region id l.toArray true) Q σ := by
 obtain ⟨st, h1, h2, h3⟩ := h.pf
 exact AW.dag N k ms es st hm hB hP h2 (by rw [h1 0 σ U]; exact Le.refl _) h3
end
end Go.Q
