import Derived.Test.YtamnfkfjfelbbaaDraw2xw
import Derived.Test.YtamnfkfjfelbbaaAbsJxw
set_option linter.unusedVariables false
set_option linter.unusedSimpArgs false
namespace Go.Q
open Go.RowKit
section
variable {P : Program} {l : List Oper}
inductive Ahead (D : Nat → Prop) : Act → Act → Prop where
 | refl (a : Act) : Ahead D a a
 | put {a a' : Act} (d : Nat) (v : Value) (hd : D d) (h : Ahead D a a') : Ahead D a (a'.put (some d) v)
theorem put_comm (a : Act) {d e : Nat} (h : d ≠ e) (u v : Value) : (a.put (some d) u).put (some e) v = (a.put (some e) v).put (some d) u := by
 simp only [Act.put]
 rw [Array.setIfInBounds_comm _ _ h]
theorem put_put (a : Act) (d : Nat) (u v : Value) : (a.put (some d) u).put (some d) v = a.put (some d) v := by
 simp only [Act.put]
 rw [Array.setIfInBounds_setIfInBounds]
theorem Ahead.mono {D D' : Nat → Prop} {a a' : Act} (h : Ahead D a a') (hD : ∀ d, D d → D' d) : Ahead D' a a' := by
 induction h with
 | refl => exact .refl _
 | put d v hd _ ih => exact .put d v (hD d hd) ih
theorem Ahead.trans {D : Nat → Prop} {a b c : Act} (h1 : Ahead D a b) (h2 : Ahead D b c) : Ahead D a c := by
 induction h2 with
 | refl => exact h1
 | put d v hd _ ih => exact .put d v hd ih
theorem Ahead.none {D : Nat → Prop} {a a' : Act} (h : Ahead D a a') (hD : ∀ d, ¬ D d) : a' = a := by
 induction h with
 | refl => rfl
 | put d v hd _ ih => exact (hD d hd).elim
theorem Ahead.other {D : Nat → Prop} {a a' : Act} (h : Ahead D a a') (e : Option Nat) (v : Value) (he : ∀ d, e = some d → ¬ D d) : Ahead D (a.put e v) (a'.put e v) := by
 cases e with
 | none => exact h
 | some e =>
  induction h with
  | refl => exact .refl _
  | put d u hd _ ih => rw [put_comm _ (fun (x : d = e) => he e rfl (x ▸ hd))]; exact .put d u hd ih
theorem Ahead.self {D : Nat → Prop} {a a' : Act} (h : Ahead D a a') (e : Nat) (v : Value) : Ahead (fun d => D d ∧ d ≠ e) (a.put (some e) v) (a'.put (some e) v) := by
 induction h with
 | refl => exact .refl _
 | put d u hd _ ih =>
  by_cases x : d = e
  · subst x; rw [put_put]; exact ih
  · rw [put_comm _ x]; exact .put d u ⟨hd, x⟩ ih
theorem Ahead.exec {D : Nat → Prop} {ops : Array Oper} {o : Oper} {a a' : Act} (h : Ahead D a a') (hs : ∀ cs b, o.op ≠ .select cs b) (hD : ∀ d, D d → d ∉ o.looksAt ops) : execOp a'.eval o = execOp a.eval o ∧ Region.wanted o (yielded ops a'.tmps) = Region.wanted o (yielded ops a.tmps) := by
 induction h with
 | refl => exact ⟨rfl, rfl⟩
 | put d v hd _ ih =>
  exact ⟨(execOp_put (ops := ops) o hs _ (some d) v (fun e he => by cases he; exact hD d hd)).trans ih.1, (wanted_put o _ (some d) v (fun e he => by cases he; exact hD d hd)).trans ih.2⟩
theorem wp_ahead {o : Oper} {a a' : Act} {w : World} {K K' : Act → World → Prop} {Q : Exit → Act → World → Prop} (hex : execOp a'.eval o = execOp a.eval o) (h : o.wp P a' w K' (fun e _ w1 => Q e a w1)) (hK : ∀ v w1, K' (a'.put o.dst v) w1 → K (a.put o.dst v) w1)
 (hD : ∀ d v w1, ¬ K' (({ a' with defers := d :: a'.defers } : Act).put o.dst v) w1) : o.wp P a w K Q := by
 have hL : LetsOut (fun e (_ : Act) w1 => Q e a w1) → LetsOut Q := fun ⟨_, w1, h⟩ => ⟨a, w1, h⟩
 unfold Oper.wp at *
 rw [hex] at h
 generalize (execOp a.eval o).run P w = r at *
 cases r with
 | ok n w' =>
  cases n <;> simp only [Oper.upon] at h ⊢ <;>
   first
    | exact hK _ _ h
    | exact (hD _ _ _ h).elim
    | exact Calls.mono h (fun e w'' he => by cases e <;> first | exact hK _ _ he | exact he | exact hL he)
    | exact Rows.mono h (fun _ _ he => hK _ _ he)
    | exact h
 | halt x w' => cases x <;> simp only [Oper.upon] at h ⊢ <;> exact h
def noSel (o : Oper) : Bool := match o.op with | .select _ _ => false | _ => true
def looksB (l : List Oper) (N : Nat) (Hs : List Nat) : Bool := (List.range N).all fun i => match l[i]? with
 | some o => noSel o && Hs.all fun h => Nat.blt h N && (match l[h]? with
  | some oh => (match oh.dst with
   | some d => (!((o.looksAt l.toArray).contains d) || (deps o).contains h) && (Nat.beq h i || !(match o.dst with | some e => Nat.beq e d | none => false))
   | none => false)
  | none => false)
 | none => false
def dagH (l : List Oper) (N : Nat) (Hs : List Nat) (ms : List (List Nat)) (es : List (Nat × Nat × Nat)) (k : Nat) : Bool :=
 (List.range ms.length).all (fun a => match ms[a]? with
  | none => false
  | some m => ((List.range N).all (fun i => memN Hs i || memN m i || (match l[i]? with
   | none => false
   | some o => !((deps o).all fun j => memN Hs j || memN m j) || es.any (fun e => Nat.beq e.1 a && Nat.beq e.2.1 i && (match ms[e.2.2]? with
    | none => false
    | some m' => (List.range N).all fun j => memN Hs j || memN m' j == (Nat.beq j i || memN m j)))))) &&
   (Nat.beq a k || (List.range N).any (fun i => !(memN Hs i) && !(memN m i)))) &&
 (match ms with | [] :: _ => true | _ => false)
def DH (l : List Oper) (Hs : List Nat) (d : Nat) : Prop := ∃ h ∈ Hs, ∃ o, l[h]? = some o ∧ o.dst = some d
def PreOk (D : Nat → Prop) (σ σ1 : St) : Prop := ∀ w0 a w, Rel w0 σ a w → ∃ a', Ahead D a a' ∧ Rel w0 σ1 a' w
def LocsH (P : Program) (l : List Oper) (SM : St) : List Nat → Prop
 | [] => True
 | h :: r => (∃ o d x, l[h]? = some o ∧ o.dst = some d ∧ look SM.slots d = some x ∧ ∀ σ', Sup SM σ' → Op1 P l.toArray o σ' (σ'.put o.dst x)) ∧ LocsH P l SM r
theorem LocsH.at {SM : St} : ∀ {Hs : List Nat}, LocsH P l SM Hs → ∀ h ∈ Hs, ∃ o d x, l[h]? = some o ∧ o.dst = some d ∧ look SM.slots d = some x ∧ ∀ σ', Sup SM σ' → Op1 P l.toArray o σ' (σ'.put o.dst x)
 | h :: r, hh, i, hi => by
  rcases List.mem_cons.1 hi with rfl | hi
  · exact hh.1
  · exact hh.2.at i hi
theorem AW.drawH {w0 : Base} {Q : Exit → St → Prop} {σ σ1 SM : St} {id : Nat} (N k : Nat) (Hs : List Nat) (ms : List (List Nat)) (es : List (Nat × Nat × Nat)) (st : Nat → St → Prop) (hm : P.follows .mixedOrders = true) (hB : planC l.toArray N = true) (hP : dagH l N Hs ms es k = true) (hL : looksB l N Hs = true) (hHN : ∀ h ∈ Hs, h < N)
 (hpre : PreOk (DH l Hs) σ σ1) (hH : LocsH P l SM Hs) (hst : ∀ b σ', st b σ' → Sup SM σ') (hes : ∀ e ∈ es, ∀ o, l[e.2.1]? = some o → ∀ σ, st e.1 σ → Stp P l o (st e.2.2) σ) (hσ : st 0 σ1) (hfin : ∀ σ', st k σ' → AWl P w0 l.toArray Q (l.drop N) σ') : AW P w0 (.region id l.toArray true) Q σ := by
 intro a w hr
 refine wp_region_any hm ?_
 simp only [dagH, Bool.and_eq_true] at hP
 obtain ⟨hP, hms⟩ := hP
 have hms0 : ms[0]? = some [] := by
  match ms, hms with
  | [] :: _, _ => rfl
 have hlN : N ≤ l.length := by
  have hB' := hB
  simp only [planC, Bool.and_eq_true, decide_eq_true_eq] at hB'
  simpa using hB'.1.1.1
 have hdep : ∀ i o, i < N → l[i]? = some o → ∀ j ∈ deps o, j < N := fun i o hi ho j hj => by
  have hB' := hB
  simp only [planC, Bool.and_eq_true, decide_eq_true_eq] at hB'
  have := List.all_eq_true.1 hB'.1.1.2 i (List.mem_range.2 hi)
  have ho' : l.toArray[i]? = some o := by simpa using ho
  rw [ho'] at this
  have := List.all_eq_true.1 this j hj
  simp only [decide_eq_true_eq] at this
  omega
 have hlook : ∀ i o, i < N → l[i]? = some o → noSel o = true ∧ ∀ h ∈ Hs, h < N ∧ ∀ oh d, l[h]? = some oh → oh.dst = some d → (d ∈ o.looksAt l.toArray → h ∈ deps o) ∧ (h ≠ i → o.dst ≠ some d) := fun i o hi ho => by
  have := List.all_eq_true.1 hL i (List.mem_range.2 hi)
  rw [ho] at this
  simp only [Bool.and_eq_true] at this
  refine ⟨this.1, fun h hh => ?_⟩
  have := List.all_eq_true.1 this.2 h hh
  rw [Bool.and_eq_true] at this
  refine ⟨Nat.le_of_ble_eq_true this.1, fun oh d hoh hd => ?_⟩
  have := this.2
  rw [hoh] at this
  simp only [hd, Bool.and_eq_true, Bool.or_eq_true, Bool.not_eq_true'] at this
  refine ⟨fun hm => ?_, fun hne e => ?_⟩
  · rcases this.1 with h1 | h1
    · rw [List.contains_iff_mem.2 hm] at h1; cases h1
    · exact List.contains_iff_mem.1 h1
  · rcases this.2 with h1 | h1
    · exact hne (Nat.eq_of_beq_eq_true h1)
    · rw [e] at h1; simp [Nat.beq_refl] at h1
 have hat : ∀ (b : Nat) (m : List Nat), ms[b]? = some m → ((∀ i, i < N → memN Hs i = false → memN m i = false → ∀ o, l[i]? = some o → (∀ j ∈ deps o, memN Hs j = false → memN m j = true) → ∃ e ∈ es, e.1 = b ∧ e.2.1 = i ∧ ∃ m', ms[e.2.2]? = some m' ∧ ∀ j, j < N → memN Hs j = false → memN m' j = (Nat.beq j i || memN m j)) ∧ ((∀ i, i < N → memN Hs i = false → memN m i = true) → b = k)) := by
  intro b m hb
  have := List.all_eq_true.1 hP b (List.mem_range.2 (List.getElem?_eq_some_iff.1 hb).1)
  rw [hb] at this
  simp only [Bool.and_eq_true] at this
  refine ⟨fun i hi hH hu o ho hd => ?_, fun hall => ?_⟩
  · have := List.all_eq_true.1 this.1 i (List.mem_range.2 hi)
    rw [hH, hu, Bool.false_or, Bool.false_or, ho] at this
    simp only [Bool.or_eq_true, Bool.not_eq_true'] at this
    rcases this with h | h
    · rw [List.all_eq_true.2 fun j hj => ?_] at h
      · cases h
      · cases hj' : memN Hs j with
        | true => rfl
        | false => rw [hd j hj hj']; rfl
    · obtain ⟨e, he, h⟩ := List.any_eq_true.1 h
      simp only [Bool.and_eq_true] at h
      obtain ⟨⟨h1, h2⟩, h3⟩ := h
      refine ⟨e, he, Nat.eq_of_beq_eq_true h1, Nat.eq_of_beq_eq_true h2, ?_⟩
      split at h3
      · cases h3
      · rename_i m' hm'
        refine ⟨m', hm', fun j hj hjH => ?_⟩
        have := List.all_eq_true.1 h3 j (List.mem_range.2 hj)
        rw [hjH, Bool.false_or] at this
        simpa using this
  · have h2 := this.2
    simp only [Bool.or_eq_true] at h2
    rcases h2 with h | h
    · exact Nat.eq_of_beq_eq_true h
    · obtain ⟨i, hi, h⟩ := List.any_eq_true.1 h
      simp only [Bool.and_eq_true, Bool.not_eq_true'] at h
      rw [hall i (List.mem_range.1 hi) h.1] at h; cases h.2
 have H := wpAny_inv (P := P) (Q := lift w0 Q) (J := fun listed a w => ∃ b m σ a', ms[b]? = some m ∧ (∀ j, j < N → memN Hs j = false → memN m j = listed.getD j false) ∧ st b σ ∧ Ahead (fun d => ∃ h ∈ Hs, listed.getD h false = false ∧ ∃ o, l[h]? = some o ∧ o.dst = some d) a a' ∧ Rel w0 σ a' w) hB (fun i o hi ho listed a w inv hd hu hJ => ?_) (fun listed a w hall hJ => ?_)
  (unl N (Array.replicate l.toArray.size false)) (Array.replicate l.toArray.size false) a { w with drawn := w.drawn + 1 } rfl
  ⟨by simp, fun j oj _ hl => (by rw [getD_replicate_false] at hl; cases hl), fun t _ ht => getD_in (by simpa using ht) (getD_replicate_false _ _)⟩ ?_
 · have hu : unl N (Array.replicate l.toArray.size false) = N := by
    unfold unl
    rw [List.countP_eq_length.2 (fun j _ => by rw [getD_replicate_false]; rfl), List.length_range]
   rw [hu, show N + (l.toArray.size - N) = l.toArray.size by simp; omega] at H
   exact H
 · obtain ⟨b, m, σ, a', hb, hmj, hσ, hA, hr⟩ := hJ
   have ho0 : l[i]? = some o := by simpa using ho
   obtain ⟨hsel, hlk⟩ := hlook i o hi ho0
   have hget : ∀ j, (listed.setIfInBounds i true).getD j false = if j = i then true else listed.getD j false := by
    intro j
    by_cases e : j = i
    · subst e
      have : j < listed.size := by
       rw [inv.size]
       have := (List.getElem?_eq_some_iff.1 ho0).1
       simpa using this
      simp [this]
    · rw [if_neg e]; exact getD_set_ne false (fun h => e h.symm)
   obtain ⟨hex, hwt⟩ := hA.exec (ops := l.toArray) (o := o) (fun cs b e => by unfold noSel at hsel; rw [e] at hsel; cases hsel) (fun d ⟨h, hh, hu', oh, hoh, hod⟩ hm => by
    have := hd h (((hlk h hh).2 oh d hoh hod).1 hm)
    rw [hu'] at this; cases this)
   have hdef : ∀ (σ' : St) (d : Deferred) (v : Value) (w1 : World), ¬ Rel w0 σ' (({ a' with defers := d :: a'.defers } : Act).put o.dst v) w1 := fun σ' d v w1 ⟨I, h⟩ => by
    have := h.defers
    cases ho : o.dst <;> rw [ho] at this <;> simp [Act.put] at this
   intro K Q' hK
   cases hiH : memN Hs i with
   | true =>
    obtain ⟨o', d, x, h1, h2, h3, h4⟩ := hH.at i (memN_iff.1 hiH)
    rw [ho0] at h1; cases h1
    have hsup := hst b σ hσ
    have back : ∀ v w1, Rel w0 (σ.put o.dst x) (a'.put o.dst v) w1 → K (a.put o.dst v) w1 := fun v w1 hr1 => by
     refine hK _ _ ⟨b, m, σ, a'.put o.dst v, hb, fun j hj hjH => ?_, hσ, ?_, ?_⟩
     · rw [hget, if_neg (fun e => by subst e; rw [hiH] at hjH; cases hjH)]; exact hmj j hj hjH
     · rw [h2]
       refine (hA.self d v).mono ?_
       rintro e ⟨⟨h, hh, hu', oh, hoh, hod⟩, hne⟩
       refine ⟨h, hh, ?_, oh, hoh, hod⟩
       rw [hget, if_neg (fun e' => by subst e'; rw [ho0] at hoh; cases hoh; rw [h2] at hod; cases hod; exact hne rfl)]
       exact hu'
     · refine Rel.of_look hr1 (by rw [h2]; rfl) (fun t y ht => ?_) (fun t y ht => by rw [h2]; exact ht)
       rw [h2]
       show look ((d, x) :: σ.slots) t = some y
       rw [look_cons]
       split
       · rename_i e
         subst e
         rw [hsup.slots _ _ h3] at ht
         exact ht
       · exact ht
    have step := h4 σ hsup w0 a' w hr (fun a1 w1 => Rel w0 (σ.put o.dst x) a1 w1) (fun e _ w1 => Q' e a w1) fun _ _ h => h
    rw [hwt] at step
    split
    · rename_i hw
      rw [if_pos hw] at step
      exact wp_ahead hex step back fun d v w1 => hdef _ d v w1
    · rename_i hw
      rw [if_neg hw] at step
      exact back _ _ step
   | false =>
    obtain ⟨e, he, rfl, rfl, m', hm', hj'⟩ := (hat b m hb).1 i hi hiH (by rw [hmj i hi hiH]; exact hu) o ho0 fun j hj hjH => by rw [hmj j (hdep i o hi ho0 j hj) hjH]; exact hd j hj
    have back : ∀ v w1, (∃ σ', st e.2.2 σ' ∧ Rel w0 σ' (a'.put o.dst v) w1) → K (a.put o.dst v) w1 := fun v w1 ⟨σ', hσ', hr1⟩ => by
     refine hK _ _ ⟨e.2.2, m', σ', a'.put o.dst v, hm', fun j hj hjH => ?_, hσ', ?_, hr1⟩
     · rw [hj' j hj hjH, hget]
       by_cases ej : j = e.2.1
       · subst ej; rw [if_pos rfl, Nat.beq_refl]; rfl
       · rw [if_neg ej, beq_false ej, Bool.false_or, hmj j hj hjH]
     · refine (hA.other o.dst v ?_).mono ?_
       · rintro d hod ⟨h, hh, _, oh, hoh, hod'⟩
         exact ((hlk h hh).2 oh d hoh hod').2 (fun e' => by subst e'; rw [memN_iff.2 hh] at hiH; cases hiH) hod
       · rintro d ⟨h, hh, hu', oh, hoh, hod⟩
         refine ⟨h, hh, ?_, oh, hoh, hod⟩
         rw [hget, if_neg (fun e' => by subst e'; rw [memN_iff.2 hh] at hiH; cases hiH)]; exact hu'
    have step := hes e he o ho0 σ hσ w0 a' w hr (fun a1 w1 => ∃ σ', st e.2.2 σ' ∧ Rel w0 σ' a1 w1) (fun e' _ w1 => Q' e' a w1) fun _ _ σ' h1 h2 => ⟨σ', h1, h2⟩
    rw [hwt] at step
    split
    · rename_i hw
      rw [if_pos hw] at step
      exact wp_ahead hex step back fun d v w1 ⟨σ', _, h⟩ => hdef _ d v w1 h
    · rename_i hw
      rw [if_neg hw] at step
      exact back _ _ step
 · obtain ⟨b, m, σ, a', hb, hmj, hσ, hA, hr⟩ := hJ
   have := (hat b m hb).2 fun i hi hiH => by rw [hmj i hi hiH]; exact hall i hi
   subst this
   have e := hA.none fun d ⟨h, hh, hu', oh, hoh, hod⟩ => by
    rw [hall h (hHN h hh)] at hu'; cases hu'
   subst e
   exact hfin σ hσ _ w hr
 · obtain ⟨a', hA, hr'⟩ := hpre w0 a { w with drawn := w.drawn + 1 } (by obtain ⟨I, hI⟩ := hr; exact ⟨I, hI.later (Ext.refl w).drawn⟩)
   refine ⟨0, [], σ1, a', hms0, fun j _ _ => by rw [getD_replicate_false]; rfl, hσ, hA.mono ?_, hr'⟩
   rintro d ⟨h, hh, oh, hoh, hod⟩
   exact ⟨h, hh, by rw [getD_replicate_false], oh, hoh, hod⟩
def HasV (σ : St) (x : S) : Prop := ∀ I w0 a w, RelI I w0 σ a w → ∃ v, VS I w (true, x) v
theorem HasV.slot {σ : St} {x : S} {t : Nat} (h : look σ.slots t = some (true, x)) : HasV σ x := fun I w0 a w hr => ⟨_, hr.slots t _ h⟩
theorem HasV.pp {σ : St} {id off : Nat} : HasV σ (.a (.one (.pp id off))) := fun I w0 a w hr => ⟨.pointer (some ⟨I.B id, off, none⟩), rfl⟩
theorem HasV.val {σ : St} {c : Value} (h : c.oneCell' = true) : HasV σ (.a (.one (.t (.v c)))) := fun I w0 a w hr => ⟨c, [], by unfold C; exact ⟨rfl, rfl, h⟩, fun b hb => by cases hb⟩
theorem HasV.load {σ : St} {x : Operand} {id p n : Nat} {cs : List E} {ag : Bool} {t : TypeId} (hx : Get σ true x (.one (.pp id p))) (hs : look σ.res id = some (.box cs)) (ht : tyB P t ag n = true) (hn : Nat.ble (p + n) cs.length = true) (h1 : (ag || Nat.beq n 1) = true) : HasV σ (.a (mkA ag ((cs.drop p).take n))) := fun I w0 a w hr => by
 obtain ⟨hF, vs, ty, g1, g2⟩ := hr.res id _ hs
 have g3 := VEs_take n (VEs_drop p g2)
 have hn' := Nat.le_of_ble_eq_true hn
 exact ⟨_, VA_mk g3 fun e => by rw [e] at h1; have := Nat.eq_of_beq_eq_true (by simpa using h1); simp; omega⟩
theorem HasV.ad {σ : St} {x : Operand} {cs : List T} {off : Nat} (hx : Get σ true x (.one (.t (.ad cs)))) : HasV σ (.a (.one (.t (.ad (cs.drop off))))) := fun I w0 a w hr => by
 obtain ⟨F, hC, hF⟩ : VA I w (.one (.t (.ad cs))) (a.eval x) := hx.va hr rfl
 simp only [C] at hC
 obtain ⟨b, p, G, h1, rfl, h2, h3⟩ := hC
 obtain ⟨G', h4, h5⟩ := h3.drop off
 refine ⟨_, b :: G', C_ad h4 h2, fun c hc => hF c ?_⟩
 rcases List.mem_cons.1 hc with rfl | hc
 · simp
 · simp [h5 c hc]
theorem HasV.ld {σ : St} {x : Operand} {cs : List T} {ag : Bool} {n : Nat} (hx : Get σ true x (.one (.t (.ad cs)))) (hn : Nat.ble n cs.length = true) (h1 : (ag || Nat.beq n 1) = true) : HasV σ (.a (mkA ag ((cs.take n).map .t))) := fun I w0 a w hr => by
 obtain ⟨F, hC, hF⟩ : VA I w (.one (.t (.ad cs))) (a.eval x) := hx.va hr rfl
 simp only [C] at hC
 obtain ⟨b, p, G, h2, rfl, h3, h4⟩ := hC
 obtain ⟨G', h5, h6⟩ := h4.take n
 obtain ⟨vs, h7, h8, h9⟩ := h5.cells
 have hn' := Nat.le_of_ble_eq_true hn
 have h1' : ag = false → n = 1 := fun e => by rw [e] at h1; exact Nat.eq_of_beq_eq_true (by simpa using h1)
 exact ⟨_, VA_mk (Cs_t h7 fun b hb => hF b (by simp [h6 b hb])) fun e => by rw [List.length_map, List.length_take]; have := h1' e; omega⟩
theorem PreOk.nil {D : Nat → Prop} {σ : St} : PreOk D σ σ := fun w0 a w hr => ⟨a, .refl a, hr⟩
theorem PreOk.step {Hs : List Nat} {σ σ1 : St} {o : Oper} {x : S} {d : Nat} (h : Nat) (ho : l[h]? = some o) (hop : Op1 P l.toArray o σ (σ.put o.dst (true, x))) (hv : HasV σ x) (hd : o.dst = some d) (hm : memN Hs h = true) (hn : Nat.blt d σ.n = true) (hr : PreOk (DH l Hs) (σ.put (some d) (true, x)) σ1) : PreOk (DH l Hs) σ σ1 := fun w0 a w ⟨I, hI⟩ => by
 obtain ⟨v, hv⟩ := hv I w0 a w hI
 obtain ⟨a', h1, h2⟩ := hr w0 (a.put (some d) v) w ⟨I, hI.put hn hv⟩
 exact ⟨a', Ahead.trans (.put d v ⟨h, memN_iff.1 hm, o, ho, hd⟩ (.refl a)) h1, h2⟩
structure Dh (P : Program) (l : List Oper) (SM : St) (acc : List (Nat × (St → Prop))) (es : List (Nat × Nat × Nat)) (Fin : (Nat → St → Prop) → Prop) : Prop where
 pf : ∃ st : Nat → St → Prop, (∀ k Φ, look acc k = some Φ → st k = Φ) ∧ (∀ e ∈ es, ∀ o, l[e.2.1]? = some o → ∀ σ, st e.1 σ → Stp P l o (st e.2.2) σ) ∧ (∀ b, look acc b = none → ∀ σ, st b σ → Sup SM σ) ∧ Fin st
variable {SM : St} {acc : List (Nat × (St → Prop))} {es : List (Nat × Nat × Nat)} {Fin : (Nat → St → Prop) → Prop}
theorem Dh.new {a i b : Nat} {Φ Φ' : St → Prop} {o : Oper} (ha : look acc a = some Φ) (ho : l[i]? = some o) (hb : look acc b = none) (hE : ∀ σ, Φ σ → Stp P l o Φ' σ) (hS : ∀ σ, Φ' σ → Sup SM σ) (h : Dh P l SM ((b, Φ') :: acc) es Fin) : Dh P l SM acc ((a, i, b) :: es) Fin := by
 obtain ⟨st, h1, h2, h4, h3⟩ := h.pf
 have hne : b ≠ a := fun e => by subst e; rw [hb] at ha; cases ha
 have h1' : ∀ k σ, look acc k = some σ → st k = σ := fun k σ hk => h1 k σ (by
  rw [look_cons, if_neg (fun e => ?_)]
  · exact hk
  · subst e; rw [hb] at hk; cases hk)
 refine ⟨st, h1', fun e he o' ho' σ hσ => ?_, fun c hc σ hσ => ?_, h3⟩
 · rcases List.mem_cons.1 he with rfl | he
   · simp only at ho' hσ ⊢
     rw [ho] at ho'; cases ho'
     rw [h1' a Φ ha] at hσ
     rw [h1 b Φ' (by rw [look_cons, if_pos rfl])]
     exact hE σ hσ
   · exact h2 e he o' ho' σ hσ
 · by_cases e : b = c
   · subst e
     rw [h1 b Φ' (by rw [look_cons, if_pos rfl])] at hσ
     exact hS σ hσ
   · exact h4 c (by rw [look_cons, if_neg e]; exact hc) σ hσ
theorem Dh.old {a i b : Nat} {Φ Φ' : St → Prop} {o : Oper} (ha : look acc a = some Φ) (ho : l[i]? = some o) (hb : look acc b = some Φ') (hE : ∀ σ, Φ σ → Stp P l o Φ' σ) (h : Dh P l SM acc es Fin) : Dh P l SM acc ((a, i, b) :: es) Fin := by
 obtain ⟨st, h1, h2, h3⟩ := h.pf
 refine ⟨st, h1, fun e he o' ho' σ hσ => ?_, h3⟩
 rcases List.mem_cons.1 he with rfl | he
 · simp only at ho' hσ ⊢
   rw [ho] at ho'; cases ho'
   rw [h1 a Φ ha] at hσ
   rw [h1 b Φ' hb]
   exact hE σ hσ
 · exact h2 e he o' ho' σ hσ
theorem Dh.fin {w0 : Base} {Q : Exit → St → Prop} {N k : Nat} {Φ : St → Prop} (hk : look acc k = some Φ) (h : ∀ σ', Φ σ' → AWl P w0 l.toArray Q (l.drop N) σ') : Dh P l SM acc [] (fun st => ∀ σ', st k σ' → AWl P w0 l.toArray Q (l.drop N) σ') :=
 ⟨fun i => (look acc i).getD fun _ => False, fun i σ' hi => by simp [hi], fun e he => (by cases he), fun b hb σ hσ => by simp [hb] at hσ, by simpa [hk] using h⟩
theorem AW.drawnH {w0 : Base} {Q : Exit → St → Prop} {σ : St} {id : Nat} (N k : Nat) (Hs : List Nat) (ms : List (List Nat)) (es : List (Nat × Nat × Nat)) (σ1 SM : St) (hm : P.follows .mixedOrders = true) (hB : planC l.toArray N = true) (hP : dagH l N Hs ms es k = true) (hL : looksB l N Hs = true) (hN : (Hs.all fun h => Nat.blt h N) = true)
 (hpre : PreOk (DH l Hs) σ σ1) (hS : Sup SM σ1) (hH : LocsH P l SM Hs) (h : Dh P l SM [(0, Nd0 True σ1)] es (fun st => ∀ σ', st k σ' → AWl P w0 l.toArray Q (l.drop N) σ')) : AW P w0 (.region id l.toArray true) Q σ := by
 obtain ⟨st, h1, h2, h4, h3⟩ := h.pf
 refine AW.drawH N k Hs ms es st hm hB hP hL (fun h hh => Nat.le_of_ble_eq_true (List.all_eq_true.1 hN h hh)) hpre hH (fun b σ' hb => ?_) h2 (by rw [h1 0 _ U]; exact ⟨trivial, U⟩) h3
 by_cases e : b = 0
 · subst e
   rw [h1 0 _ rfl] at hb
   obtain ⟨_, rfl⟩ := hb
   exact hS
 · exact h4 b (by rw [look_cons, if_neg (fun e' => e e'.symm)]; rfl) σ' hb
theorem Dh.new0 {a i b : Nat}  {p : Prop} {s s' : St} {o : Oper} (ha : look acc a = some (Nd0 p s)) (ho : l[i]? = some o) (hb : look acc b = none) (hE : ∀ w0, p → AWl P w0 l.toArray (EndQ (s')) [o] (s)) (hS : p → Sup SM (s')) (h : Dh P l SM ((b, Nd0 p s') :: acc) es Fin) : Dh P l SM acc ((a, i, b) :: es) Fin :=
 Dh.new ha ho hb (fun σ h => by obtain ⟨hp, rfl⟩ := h; exact Stp.run (fun w0 => hE w0  hp) ⟨hp, rfl⟩) (fun σ h => by obtain ⟨hp, rfl⟩ := h; exact hS  hp) h
theorem Dh.old0 {a i b : Nat}  {p : Prop} {s s' : St} {o : Oper} (ha : look acc a = some (Nd0 p s)) (ho : l[i]? = some o) (hb : look acc b = some (Nd0 p s')) (hE : ∀ w0, p → AWl P w0 l.toArray (EndQ (s')) [o] (s)) (h : Dh P l SM acc es Fin) : Dh P l SM acc ((a, i, b) :: es) Fin :=
 Dh.old ha ho hb (fun σ h => by obtain ⟨hp, rfl⟩ := h; exact Stp.run (fun w0 => hE w0  hp) ⟨hp, rfl⟩) h
theorem Dh.drw0 {a i b : Nat}  {β : Type} {p : Prop} {s : St} {q : β → Prop} {f s' : β → St} {o : Oper} (ha : look acc a = some (Nd0 p s)) (ho : l[i]? = some o) (hE : p → OpE P l.toArray o (s) (fun σ' => ∃ y, q y ∧ σ' = f y)) (hb : look acc b = none) (hL : ∀ y, p → q y → EndQ (s' y) .normal (f y)) (hS : ∀ y, p → q y → Sup SM (s' y)) (h : Dh P l SM ((b, Nd1 (fun y => p ∧ q y) s') :: acc) es Fin) : Dh P l SM acc ((a, i, b) :: es) Fin :=
 Dh.new ha ho hb (fun σ h => by
  obtain ⟨hp, rfl⟩ := h
  refine Stp.opE (hE  hp) ?_
  rintro _ ⟨y, hy, rfl⟩
  exact ⟨_, ⟨y, ⟨hp, hy⟩, rfl⟩, hL y hp hy⟩) (fun σ h => by obtain ⟨y, ⟨hp, hy⟩, rfl⟩ := h; exact hS y hp hy) h
theorem Dh.new1 {a i b : Nat} {α1 : Type} {p : α1 → Prop} {s s' : α1 → St} {o : Oper} (ha : look acc a = some (Nd1 p s)) (ho : l[i]? = some o) (hb : look acc b = none) (hE : ∀ w0, ∀ z1, p z1 → AWl P w0 l.toArray (EndQ (s' z1)) [o] (s z1)) (hS : ∀ z1, p z1 → Sup SM (s' z1)) (h : Dh P l SM ((b, Nd1 p s') :: acc) es Fin) : Dh P l SM acc ((a, i, b) :: es) Fin :=
 Dh.new ha ho hb (fun σ h => by obtain ⟨z1, hp, rfl⟩ := h; exact Stp.run (fun w0 => hE w0 z1 hp) ⟨z1, hp, rfl⟩) (fun σ h => by obtain ⟨z1, hp, rfl⟩ := h; exact hS z1 hp) h
theorem Dh.old1 {a i b : Nat} {α1 : Type} {p : α1 → Prop} {s s' : α1 → St} {o : Oper} (ha : look acc a = some (Nd1 p s)) (ho : l[i]? = some o) (hb : look acc b = some (Nd1 p s')) (hE : ∀ w0, ∀ z1, p z1 → AWl P w0 l.toArray (EndQ (s' z1)) [o] (s z1)) (h : Dh P l SM acc es Fin) : Dh P l SM acc ((a, i, b) :: es) Fin :=
 Dh.old ha ho hb (fun σ h => by obtain ⟨z1, hp, rfl⟩ := h; exact Stp.run (fun w0 => hE w0 z1 hp) ⟨z1, hp, rfl⟩) h
theorem Dh.fin1 {w0 : Base} {Q : Exit → St → Prop} {N k : Nat} {α1 : Type} {p : α1 → Prop} {s : α1 → St} (hk : look acc k = some (Nd1 p s)) (h : ∀ z1, p z1 → AWl P w0 l.toArray Q (l.drop N) (s z1)) : Dh P l SM acc [] (fun st => ∀ σ', st k σ' → AWl P w0 l.toArray Q (l.drop N) σ') :=
 Dh.fin hk fun σ h' => by obtain ⟨z1, hp, rfl⟩ := h'; exact h z1 hp
end
end Go.Q
