import Derived.Test.YtoealglkenhphaaGreatAbs11xc
import Derived.Test.YtoealglkenhphaaGreatAbs13xc
set_option linter.unusedVariables false
set_option linter.unusedSimpArgs false
namespace Go.Q
open Go.RowKit
section
variable {P : Program}
theorem stL_res0 (L : Nat → Bool) : ∀ (outs : List Out) (i : Nat) (σ : St), (∀ y ∈ outs, y.2.2 = []) → (stL L i outs σ).res = σ.res
 | [], _, _, _ => rfl
 | y :: r, i, σ, h => by
  rw [stL, stL_res0 L r (i + 1) _ fun z hz => h z (by simp [hz])]
  cases L i with
  | false => rfl
  | true => simp only [cond_true]; rw [h y (by simp)]; rfl
theorem stL_look {L : Nat → Bool} {outs : List Out} {σ : St} (hno : ∀ y ∈ outs, look σ.slots y.1 = none) (hun : ∀ (i j : Nat) (y z : Out), outs[i]? = some y → outs[j]? = some z → y.1 = z.1 → i = j) (t : Nat) (x : Bool × S) :
 look (stL L 0 outs σ).slots t = some x ↔ (∃ j y, outs[j]? = some y ∧ L j = true ∧ y.1 = t ∧ y.2.1 = x) ∨ look σ.slots t = some x := by
 by_cases hex : ∃ j y, outs[j]? = some y ∧ L j = true ∧ y.1 = t
 · obtain ⟨j, y, hy, hj, rfl⟩ := hex
   have e := stL_slot (L := L) outs 0 σ j y hy (by rw [Nat.zero_add]; exact hj) rfl rfl fun k z hk e => hun k j z y hk hy e
   rw [e, hno y (List.mem_of_getElem? hy)]
   constructor
   · intro h; exact .inl ⟨j, y, hy, hj, rfl, Option.some.inj h⟩
   · rintro (⟨k, z, hz, _, h1, h2⟩ | h)
     · have := hun k j z y hz hy h1
       subst this
       rw [hy] at hz; cases hz; rw [h2]
     · cases h
 · rw [stL_slot_base outs 0 σ fun j z hz hj e => hex ⟨j, z, hz, by rw [Nat.zero_add] at hj; exact hj, e⟩]
   constructor
   · exact .inr
   · rintro (⟨j, z, hz, hj, h1, _⟩ | h)
     · exact absurd ⟨j, z, hz, hj, h1⟩ hex
     · exact h
theorem stL_sup {L M : Nat → Bool} {outs : List Out} {σ σ' : St} (hs : Sup σ σ') (hno : ∀ y ∈ outs, look σ.slots y.1 = none) (hno' : ∀ y ∈ outs, look σ'.slots y.1 = none) (hun : ∀ (i j : Nat) (y z : Out), outs[i]? = some y → outs[j]? = some z → y.1 = z.1 → i = j) (hnr : ∀ y ∈ outs, y.2.2 = [])
 (hLM : ∀ j, L j = true → M j = true) : Sup (stL L 0 outs σ) (stL M 0 outs σ') := by
 refine ⟨by rw [stL_n, stL_n]; exact hs.n, fun t x h => ?_, fun t x h => ?_⟩
 · rw [stL_look hno hun] at h
   rw [stL_look hno' hun]
   rcases h with ⟨j, y, h1, h2, h3, h4⟩ | h
   · exact .inl ⟨j, y, h1, hLM j h2, h3, h4⟩
   · exact .inr (hs.slots _ _ h)
 · rw [stL_res0 _ _ _ _ hnr] at h ⊢
   exact hs.res _ _ h
theorem upd_slot {σ : St} {id : Nat} {r : R} (t : Nat) : look (σ.upd id r).slots t = (look σ.slots t).map fun x => (x.1, x.2.puv id) := look_map (fun x : Bool × S => (x.1, x.2.puv id)) _ _
theorem AW.drawF {w0 : Base} {Q : Exit → St → Prop} {σ : St} {id fid : Nat} {l : List Oper} (N : Nat) (B : Nat → List Nat) (outs : List Out) (X : Nat → Bool) (r : R) (σ2 : St) (hm : P.follows .mixedOrders = true) (hB : planC l.toArray (N + 1) = true) (hO : ordB l B (N + 1) = true) (hl : outs.length = N)
 (hnr : ∀ y ∈ outs, y.2.2 = []) (hpv : ∀ y ∈ outs, y.2.1.2.puv fid = y.2.1.2) (hno : ∀ y ∈ outs, look σ.slots y.1 = none) (hun : ∀ (i j : Nat) (y z : Out), outs[i]? = some y → outs[j]? = some z → y.1 = z.1 → i = j)
 (h2 : Sup σ2 σ) (h2' : Sup σ2 (σ.upd fid r)) (hX : ∀ i, i < N → X i = true ∨ i ∈ B N)
 (hsteps : ∀ i o y, l[i]? = some o → outs[i]? = some y → Loc P l.toArray o (stL (memN (B i)) 0 outs (bif X i then σ2 else σ)) y)
 (hst : ∀ o, l[N]? = some o → ∀ σ', Sup (stL (memN (B N)) 0 outs σ) σ' → Op1 P l.toArray o σ' (σ'.upd fid r))
 (hfin : AWl P w0 l.toArray Q (l.drop (N + 1)) (stL (fun _ => true) 0 outs (σ.upd fid r))) : AW P w0 (.region id l.toArray true) Q σ := by
 intro a w hr
 refine wp_region_any hm ?_
 have hlN : N + 1 ≤ l.length := by
  simp only [planC, Bool.and_eq_true, decide_eq_true_eq] at hB
  simpa using hB.1.1.1
 have hno2 : ∀ y ∈ outs, look σ2.slots y.1 = none := fun y hy => by
  cases h : look σ2.slots y.1 with
  | none => rfl
  | some x => have := h2.slots _ _ h; rw [hno y hy] at this; cases this
 have hnou : ∀ y ∈ outs, look (σ.upd fid r).slots y.1 = none := fun y hy => by rw [upd_slot, hno y hy]; rfl
 have inB : ∀ (listed : Array Bool), HeadInv .any l.toArray (N + 1) listed → ∀ i o, i < N + 1 → l[i]? = some o → (∀ j ∈ deps o, listed.getD j false = true) → ∀ j ∈ B i, listed.getD j false = true := by
  intro listed inv i o hi ho hd
  have hOi := List.all_eq_true.1 hO i (List.mem_range.2 hi)
  rw [ho] at hOi
  have hOi' := List.all_eq_true.1 hOi
  have key : ∀ d j, N + 1 - j ≤ d → j ∈ B i → listed.getD j false = true := by
   intro d
   induction d with
   | zero =>
    intro j hj hm
    have := hOi' j hm
    simp only [Bool.or_eq_true, List.contains_iff_mem, List.any_eq_true, Bool.and_eq_true, decide_eq_true_eq] at this
    rcases this with h | ⟨m, hmB, ⟨h1, h2⟩, h3⟩
    · exact hd j h
    · omega
   | succ d ih =>
    intro j hj hm
    have := hOi' j hm
    simp only [Bool.or_eq_true, List.contains_iff_mem, List.any_eq_true, Bool.and_eq_true, decide_eq_true_eq] at this
    rcases this with h | ⟨m, hmB, ⟨h1, h2⟩, h3⟩
    · exact hd j h
    · have hml := ih m (by omega) hmB
      cases hom : l[m]? with
      | none => rw [hom] at h3; cases h3
      | some om =>
       rw [hom] at h3
       simp only [List.contains_iff_mem] at h3
       obtain ⟨e, he, hb, rfl⟩ := mem_deps.1 h3
       exact inv.closed m om (by simpa using hom) hml e he hb
  exact fun j hm => key (N + 1 - j) j (Nat.le_refl _) hm
 have H := wpAny_inv (P := P) (N := N + 1) (Q := lift w0 Q) (J := fun listed a w => Rel w0 (stL (fun j => listed.getD j false) 0 outs (bif listed.getD N false then σ.upd fid r else σ)) a w) hB (fun i o hi ho listed a w inv hd hu hJ => ?_) (fun listed a w hall hJ => ?_)
  (unl (N + 1) (Array.replicate l.toArray.size false)) (Array.replicate l.toArray.size false) a { w with drawn := w.drawn + 1 } rfl
  ⟨by simp, fun j oj _ hl => (by rw [getD_replicate_false] at hl; cases hl), fun t _ ht => getD_in (by simpa using ht) (getD_replicate_false _ _)⟩ ?_
 · have hu : unl (N + 1) (Array.replicate l.toArray.size false) = N + 1 := by
    unfold unl
    rw [List.countP_eq_length.2 (fun j _ => by rw [getD_replicate_false]; rfl), List.length_range]
   rw [hu, show N + 1 + (l.toArray.size - (N + 1)) = l.toArray.size by simp; omega] at H
   exact H
 · -- one step
   have ho' : l[i]? = some o := by simpa using ho
   have hBL := inB listed inv i o hi ho' hd
   have hget : ∀ j, (listed.setIfInBounds i true).getD j false = if j = i then true else listed.getD j false := by
    intro j
    by_cases e : j = i
    · subst e
      have : j < listed.size := by rw [inv.size]; simp; omega
      simp [this]
    · rw [if_neg e]; exact getD_set_ne false (fun h => e h.symm)
   intro K Q' hK
   by_cases hiN : i = N
   · subst hiN
     have hst' := hst o ho' (stL (fun j => listed.getD j false) 0 outs σ) (stL_sup ⟨rfl, fun _ _ h => h, fun _ _ h => h⟩ hno hno hun hnr fun j hj => hBL j (memN_iff.1 hj))
     rw [hu] at hJ
     refine hst' w0 a w hJ K Q' fun a' w' hr' => hK a' w' ?_
     rw [hget, if_pos rfl]
     refine Rel.of_look hr' (by rw [stL_n]; show σ.n = _; exact (stL_n _ _ _ _).symm) (fun t x hx => ?_) (fun t x hx => ?_)
     · simp only [cond_true] at hx
       rw [stL_look hnou hun] at hx
       rw [upd_slot]
       rcases hx with ⟨j, y, h1, h2, h3, h4⟩ | hx
       · have hj : j ≠ i := by have := (List.getElem?_eq_some_iff.1 h1).1; omega
         rw [hget, if_neg hj] at h2
         rw [(stL_look hno hun t x).2 (.inl ⟨j, y, h1, h2, h3, h4⟩)]
         have := hpv y (List.mem_of_getElem? h1)
         rw [h4] at this
         simp only [Option.map_some, this]
       · rw [upd_slot] at hx
         cases hl : look σ.slots t with
         | none => rw [hl] at hx; cases hx
         | some x0 =>
          rw [hl] at hx
          rw [(stL_look hno hun t x0).2 (.inr hl)]
          exact hx
     · simp only [cond_true] at hx
       rw [stL_res0 _ _ _ _ hnr] at hx
       have : (St.upd (stL (fun j => listed.getD j false) 0 outs σ) fid r).res = (σ.upd fid r).res := by
        simp only [St.upd]; rw [stL_res0 _ _ _ _ hnr]
       rw [this]; exact hx
   · have hiN' : i < N := by omega
     obtain ⟨y, hy⟩ : ∃ y, outs[i]? = some y := ⟨outs[i]'(by omega), List.getElem?_eq_getElem _⟩
     have hym := List.mem_of_getElem? hy
     have hloc := hsteps i o y ho' hy
     have hcur : ∀ y ∈ outs, look (bif listed.getD N false then σ.upd fid r else σ).slots y.1 = none := by
      cases listed.getD N false
      · exact hno
      · exact hnou
     have hbs : ∀ y ∈ outs, look (bif X i then σ2 else σ).slots y.1 = none := by
      cases X i
      · exact hno
      · exact hno2
     have hsb : Sup (bif X i then σ2 else σ) (bif listed.getD N false then σ.upd fid r else σ) := by
      cases hx : X i with
      | true =>
       cases listed.getD N false
       · exact h2
       · exact h2'
      | false =>
       cases hln : listed.getD N false with
       | false => exact ⟨rfl, fun _ _ h => h, fun _ _ h => h⟩
       | true =>
        exfalso
        rcases hX i hiN' with h | h
        · rw [hx] at h; cases h
        · have hoN : l[N]? = some (l[N]'(by omega)) := List.getElem?_eq_getElem _
          have := inB listed inv N _ (by omega) hoN (fun k hk => by
           obtain ⟨e, he, hb, rfl⟩ := mem_deps.1 hk
           exact inv.closed N _ (by simp) hln e he hb) i h
          rw [hu] at this; cases this
     have hsup := stL_sup (L := memN (B i)) (M := fun j => listed.getD j false) hsb hbs hcur hun hnr fun j hj => hBL j (memN_iff.1 hj)
     refine hloc _ hsup (fun z hz => by rw [hnr y hym] at hz; cases hz) w0 a w hJ K Q' fun a' w' hr' => hK a' w' ?_
     rw [hget, if_neg (fun h => hiN h.symm)]
     refine Rel.of_look hr' (by rw [stL_n, stL_n]) (fun t x hx => ?_) (fun t x hx => ?_)
     · rw [stL_look hcur hun] at hx
       show look ((y.1, y.2.1) :: _) t = some x
       rw [look_cons]
       rcases hx with ⟨j, z, h1, h2, h3, h4⟩ | hx
       · by_cases e : j = i
         · subst e
           rw [hy] at h1; cases h1
           rw [if_pos h3, h4]
         · rw [hget, if_neg e] at h2
           rw [if_neg (fun e' => e (hun j i z y h1 hy (h3.trans e'.symm)))]
           exact (stL_look hcur hun t x).2 (.inl ⟨j, z, h1, h2, h3, h4⟩)
       · rw [if_neg (fun e' => by rw [← e', hcur y hym] at hx; cases hx)]
         exact (stL_look hcur hun t x).2 (.inr hx)
     · rw [stL_res0 _ _ _ _ hnr] at hx
       rw [hnr y hym]
       show look (stL _ 0 outs _).res t = some x
       rw [stL_res0 _ _ _ _ hnr]
       exact hx
 · -- behind them
   have hall' : listed.getD N false = true := hall N (by omega)
   rw [hall'] at hJ
   have H := hfin a w (Rel.of_look hJ (by rw [stL_n, stL_n]; rfl) (fun t x hx => ?_) (fun t x hx => ?_))
   · simpa using H
   · rw [stL_look hnou hun] at hx
     simp only [cond_true]
     rw [stL_look hnou hun]
     rcases hx with ⟨j, y, h1, _, h3⟩ | hx
     · exact .inl ⟨j, y, h1, hall j (by have := (List.getElem?_eq_some_iff.1 h1).1; omega), h3⟩
     · exact .inr hx
   · simp only [cond_true]
     rw [stL_res0 _ _ _ _ hnr] at hx ⊢
     exact hx
 · -- the start
   have e : stL (fun j => (Array.replicate l.toArray.size false).getD j false) 0 outs σ = σ := by
    have key : ∀ (os : List Out) (i : Nat) (σ : St), stL (fun j => (Array.replicate l.toArray.size false).getD j false) i os σ = σ := by
     intro os
     induction os with
     | nil => intro i σ; rfl
     | cons y os ih =>
      intro i σ
      rw [stL, getD_replicate_false]
      exact ih (i + 1) σ
    exact key outs 0 _
   show Rel w0 (stL (fun j => (Array.replicate l.toArray.size false).getD j false) 0 outs (bif (Array.replicate l.toArray.size false).getD N false then σ.upd fid r else σ)) a _
   rw [getD_replicate_false, cond_false, e]
   obtain ⟨I, hI⟩ := hr
   exact ⟨I, hI.later (Ext.refl w).drawn⟩
def disN : List Nat → Bool
 | [] => true
 | x :: l => l.all (fun y => !(Nat.beq x y)) && disN l
theorem disN_inj : ∀ {outs : List Out}, disN (outs.map (·.1)) = true → ∀ (i j : Nat) (y z : Out), outs[i]? = some y → outs[j]? = some z → y.1 = z.1 → i = j
 | [], _, i, j, y, z, h, _, _ => by simp at h
 | u :: r, h, i, j, y, z, h1, h2, e => by
  simp only [List.map_cons, disN, Bool.and_eq_true, List.all_map, List.all_eq_true] at h
  have key : ∀ v ∈ r, u.1 ≠ v.1 := fun v hv e => by have := h.1 v hv; simp [e] at this
  match i, j, h1, h2 with
  | 0, 0, _, _ => rfl
  | 0, j + 1, h1, h2 => simp at h1 h2; subst h1; exact absurd e (key z (List.mem_of_getElem? h2))
  | i + 1, 0, h1, h2 => simp at h1 h2; subst h2; exact absurd e.symm (key y (List.mem_of_getElem? h1))
  | i + 1, j + 1, h1, h2 => rw [disN_inj h.2 i j y z (by simpa using h1) (by simpa using h2) e]
theorem Loc.ofE {ops : Array Oper} {o : Oper} {σ : St} {d : Nat} {x x' : Bool × S} (hd : o.dst = some d) (h : ∀ σ', Sup σ σ' → Op1 P ops o σ' (σ'.put o.dst x)) (hx : x = x') : Loc P ops o σ (d, x', []) := by
 subst hx; exact Loc.of hd h
theorem Sup.sub0 {σ σ' : St} (hn : σ'.n = σ.n) (hs : SubS0 σ σ'.slots) (hr : SubR0 σ σ'.res) : Sup σ' σ := ⟨hn.symm, fun i x h => look_SubS0 hs i x h, fun i x h => look_SubR0 hr i x h⟩
def StepsF (P : Program) (ops : Array Oper) (B : Nat → List Nat) (outs : List Out) (X : Nat → Bool) (σ σ2 : St) : Nat → List Oper → List Out → Prop
 | i, o :: l, y :: r => Loc P ops o (stL (memN (B i)) 0 outs (bif X i then σ2 else σ)) y ∧ StepsF P ops B outs X σ σ2 (i + 1) l r
 | _, _, _ => True
theorem StepsF.at {ops : Array Oper} {B : Nat → List Nat} {outs : List Out} {X : Nat → Bool} {σ σ2 : St} : ∀ (l : List Oper) (r : List Out) (k : Nat), StepsF P ops B outs X σ σ2 k l r → ∀ i o y, l[i]? = some o → r[i]? = some y → Loc P ops o (stL (memN (B (k + i))) 0 outs (bif X (k + i) then σ2 else σ)) y
 | [], r, k, h, i, o, y, hl, hr => by simp at hl
 | o' :: l, [], k, h, i, o, y, hl, hr => by simp at hr
 | o' :: l, y' :: r, k, h, 0, o, y, hl, hr => by simp at hl hr; subst hl; subst hr; exact h.1
 | o' :: l, y' :: r, k, h, i + 1, o, y, hl, hr => by
  have := StepsF.at l r (k + 1) h.2 i o y (by simpa using hl) (by simpa using hr)
  rwa [show k + 1 + i = k + (i + 1) by omega] at this
theorem AW.drawnF {w0 : Base} {Q : Exit → St → Prop} {σ : St} {id fid : Nat} {l : List Oper} {o : Oper} (N : Nat) (B : Nat → List Nat) (outs : List Out) (X : Nat → Bool) (r : R) (σ2 : St) (hm : P.follows .mixedOrders = true) (hB : planC l.toArray (N + 1) = true) (hO : ordB l B (N + 1) = true) (hl : outs.length = N)
 (h2 : Sup σ2 σ) (ho : l[N]? = some o)
 (hsteps : StepsF P l.toArray B outs X σ σ2 0 l outs)
 (hst : ∀ σ', Sup (stL (memN (B N)) 0 outs σ) σ' → Op1 P l.toArray o σ' (σ'.upd fid r))
 (h2' : Sup σ2 (σ.upd fid r))
 (hnr : outs.all (fun y => y.2.2.isEmpty) = true) (hpv : outs.map (fun y => y.2.1.2.puv fid) = outs.map (fun y => y.2.1.2)) (hno : outs.all (fun y => (look σ.slots y.1).isNone) = true) (hun : disN (outs.map (·.1)) = true)
 (hX : (List.range N).all (fun i => X i || memN (B N) i) = true)
 (hfin : AWl P w0 l.toArray Q (l.drop (N + 1)) (stL (fun _ => true) 0 outs (σ.upd fid r))) : AW P w0 (.region id l.toArray true) Q σ :=
 AW.drawF N B outs X r σ2 hm hB hO hl (fun y hy => List.isEmpty_iff.1 (List.all_eq_true.1 hnr y hy)) (fun y hy => List.map_inj_left.1 hpv y hy) (fun y hy => Option.isNone_iff_eq_none.1 (List.all_eq_true.1 hno y hy)) (disN_inj hun) h2 h2'
  (fun i hi => by have := List.all_eq_true.1 hX i (List.mem_range.2 hi); simp only [Bool.or_eq_true] at this; exact this.imp (fun h => h) memN_iff.1)
  (fun i o y h1 h2 => by have := StepsF.at l outs 0 hsteps i o y h1 h2; rwa [Nat.zero_add] at this)
  (fun o' ho' => by rw [ho] at ho'; cases ho'; exact hst) hfin
end
end Go.Q
