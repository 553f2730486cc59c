import Derived.Test.YtoealglkenhphaaGreatAbsKxb
set_option linter.unusedVariables false
set_option linter.unusedSimpArgs false
namespace Go.Q
open Go.RowKit
section
variable {P : Program}
theorem stL_congr {L L' : Nat → Bool} : ∀ (os : List Out) (i : Nat) (σ : St), (∀ j, j < os.length → L (i + j) = L' (i + j)) → stL L i os σ = stL L' i os σ
 | [], _, _, _ => rfl
 | y :: os, i, σ, h => by
  rw [stL, stL]
  have h0 := h 0 (by simp)
  rw [Nat.add_zero] at h0
  rw [h0]
  exact stL_congr os (i + 1) _ fun j hj => by rw [show i + 1 + j = i + (j + 1) by omega]; exact h (j + 1) (by simp; omega)
theorem AW.drawS {w0 : Base} {Q : Exit → St → Prop} {n : Nat} {sl : List (Nat × (Bool × S))} {rs : List (Nat × R)} {id : Nat} {l : List Oper} (M e : Nat) (B : Nat → List Nat) (outs : List Out) (σA σ1 σF : St) (hm : P.follows .mixedOrders = true) (hB : planC l.toArray (M + 1) = true) (hO : ordB l B (M + 1) = true) (hl : outs.length = M)
  (hsteps : Steps P l.toArray B outs ⟨n, delS (outs.map (·.1)) sl, rs⟩ 0 l outs) (hU : outB B ⟨n, sl, rs⟩ outs = true) (hX : (List.range M).all (fun j => Nat.beq j e || memN (B M) j) = true)
  (hA : ∀ o, l[M]? = some o → Op1 P l.toArray o (stL (fun _ => true) 0 outs ⟨n, sl, rs⟩) σA) (h1 : ∀ o, l[M]? = some o → Op1 P l.toArray o (stL (fun j => !(Nat.beq j e)) 0 outs ⟨n, sl, rs⟩) σ1)
  (hE : ∀ o, l[e]? = some o → Op1 P l.toArray o σ1 σF) (hF : Sup σF σA) (heM : e < M)
  (hfin : AWl P w0 l.toArray Q (l.drop (M + 1)) σF) : AW P w0 (.region id l.toArray true) Q ⟨n, sl, rs⟩ := by
 intro a w hr
 refine wp_region_any hm ?_
 have hU' := List.all_eq_true.1 hU
 have dsl : ∀ (i : Nat) (y : Out), outs[i]? = some y → ∀ (k : Nat) (z : Out), outs[k]? = some z → z.1 = y.1 → k = i := by
  intro i y hi k z hk e
  have := hU' i (List.mem_range.2 (List.getElem?_eq_some_iff.1 hi).1)
  rw [hi] at this
  simp only [Bool.and_eq_true] at this
  have := List.all_eq_true.1 this.1 k (List.mem_range.2 (List.getElem?_eq_some_iff.1 hk).1)
  rw [hk] at this
  simp only [Bool.or_eq_true, decide_eq_true_eq, Bool.not_eq_true'] at this
  rcases this with h | h
  ·exact h
  ·rw [e, Nat.beq_refl] at h; cases h
 have ids : ∀ (i : Nat) (y : Out), outs[i]? = some y → ∀ u ∈ y.2.2, St.has ⟨n, sl, rs⟩ u.1 = false ∧ ∀ (k : Nat) (z : Out), outs[k]? = some z → k = i ∨ ((Out.has z u.1 = true → i ∈ B k) ∧ ∀ v ∈ z.2.2, v.1 ≠ u.1) := by
  intro i y hi u hu
  have := hU' i (List.mem_range.2 (List.getElem?_eq_some_iff.1 hi).1)
  rw [hi] at this
  simp only [Bool.and_eq_true] at this
  have := List.all_eq_true.1 this.2 u hu
  simp only [Bool.and_eq_true, Bool.not_eq_true'] at this
  refine ⟨this.1, fun k z hk => ?_⟩
  have := List.all_eq_true.1 this.2 k (List.mem_range.2 (List.getElem?_eq_some_iff.1 hk).1)
  rw [hk] at this
  simp only [Bool.or_eq_true, decide_eq_true_eq, Bool.and_eq_true, Bool.not_eq_true', List.all_eq_true] at this
  rcases this with h | ⟨h1, h2⟩
  ·exact .inl h
  ·refine .inr ⟨fun hz => ?_, fun v hv => beq_ne (h2 v hv)⟩
   rcases h1 with h1 | h1
   ·rw [hz] at h1; cases h1
   ·exact memN_iff.1 h1
 have hlN : (M + 1) ≤ l.length := by
  simp only [planC, Bool.and_eq_true, decide_eq_true_eq] at hB
  simpa using hB.1.1.1
 have inB : ∀ (listed : Array Bool), HeadInv .any l.toArray (M + 1) listed → ∀ i o, i < (M + 1) → l[i]? = some o → (∀ j ∈ deps o, listed.getD j false = true) → ∀ j ∈ B i, listed.getD j false = true := by
  intro listed inv i o hi ho hd
  have hOi := List.all_eq_true.1 hO i (List.mem_range.2 hi)
  rw [ho] at hOi
  have hOi' := List.all_eq_true.1 hOi
  have key : ∀ d j, (M + 1) - j ≤ d → j ∈ B i → listed.getD j false = true := by
   intro d
   induction d with
   | zero =>
    intro j hj hm
    have := hOi' j hm
    simp only [Bool.or_eq_true, List.contains_iff_mem, List.any_eq_true, Bool.and_eq_true, decide_eq_true_eq] at this
    rcases this with h | ⟨m, hmB, ⟨h1, h2⟩, h3⟩
    ·exact hd j h
    ·omega
   | succ d ih =>
    intro j hj hm
    have := hOi' j hm
    simp only [Bool.or_eq_true, List.contains_iff_mem, List.any_eq_true, Bool.and_eq_true, decide_eq_true_eq] at this
    rcases this with h | ⟨m, hmB, ⟨h1, h2⟩, h3⟩
    ·exact hd j h
    ·have hml := ih m (by omega) hmB
     cases hom : l[m]? with
     | none => rw [hom] at h3; cases h3
     | some om =>
      rw [hom] at h3
      simp only [List.contains_iff_mem] at h3
      obtain ⟨e, he, hb, rfl⟩ := mem_deps.1 h3
      exact inv.closed m om (by simpa using hom) hml e he hb
  exact fun j hm => key ((M + 1) - j) j (Nat.le_refl _) hm
 have H := wpAny_inv (P := P) (Q := lift w0 Q) (J := fun listed a w => Rel w0 (bif listed.getD M false then (bif listed.getD e false then σF else σ1) else stL (fun j => listed.getD j false) 0 outs ⟨n, sl, rs⟩) a w) hB (fun i o hi ho listed a w inv hd hu hJ => ?_) (fun listed a w hall hJ => ?_)
  (unl (M + 1) (Array.replicate l.toArray.size false)) (Array.replicate l.toArray.size false) a { w with drawn := w.drawn + 1 } rfl
  ⟨by simp, fun j oj _ hl => (by rw [getD_replicate_false] at hl; cases hl), fun t _ ht => getD_in (by simpa using ht) (getD_replicate_false _ _)⟩ ?_
 ·have hu : unl (M + 1) (Array.replicate l.toArray.size false) = M + 1 := by
   unfold unl
   rw [List.countP_eq_length.2 (fun j _ => by rw [getD_replicate_false]; rfl), List.length_range]
  rw [hu, show M + 1 + (l.toArray.size - (M + 1)) = l.toArray.size by simp; omega] at H
  exact H
 · -- one step
  have hget0 : ∀ j, (listed.setIfInBounds i true).getD j false = if j = i then true else listed.getD j false := by
   intro j
   by_cases e : j = i
   ·subst e
    have : j < listed.size := by rw [inv.size]; simp; omega
    simp [this]
   ·rw [if_neg e]; exact getD_set_ne false (fun h => e h.symm)
  have ho0 : l[i]? = some o := by simpa using ho
  have hXX : ∀ j, j < M → j ≠ e → j ∈ B M := fun j hj hje => by
   have := List.all_eq_true.1 hX j (List.mem_range.2 hj)
   simp only [Bool.or_eq_true] at this
   rcases this with h | h
   ·exact absurd (Nat.eq_of_beq_eq_true h) hje
   ·exact memN_iff.1 h
  cases hLN : listed.getD M false with
  | true =>
   have hie : i = e := by
    apply Classical.byContradiction
    intro hne
    have hiM : i ≠ M := fun h => by rw [h, hLN] at hu; cases hu
    have hoM : l[M]? = some (l[M]'(by omega)) := List.getElem?_eq_getElem _
    have := inB listed inv M _ (by omega) hoM (fun k hk => by
     obtain ⟨e, he, hb, rfl⟩ := mem_deps.1 hk
     exact inv.closed M _ (by simp) hLN e he hb) i (hXX i (by omega) hne)
    rw [hu] at this; cases this
   subst hie
   rw [hLN, hu] at hJ
   simp only [cond_true, cond_false] at hJ
   intro K Q' hK
   refine hE o ho0 w0 a w hJ K Q' fun a' w' hr' => hK a' w' ?_
   show Rel w0 (bif (listed.setIfInBounds i true).getD M false then (bif (listed.setIfInBounds i true).getD i false then σF else σ1) else _) a' w'
   rw [hget0, hget0, if_pos rfl, hLN]
   simpa using hr'
  | false =>
   simp only [hLN, cond_false] at hJ
   by_cases hiM : i = M
   ·subst hiM
    have hBL := inB listed inv i o hi ho0 hd
    have hall : ∀ j, j < i → j ≠ e → listed.getD j false = true := fun j hj hje => hBL j (hXX j hj hje)
    intro K Q' hK
    cases hle : listed.getD e false with
    | true =>
     have e1 : stL (fun j => listed.getD j false) 0 outs ⟨n, sl, rs⟩ = stL (fun _ => true) 0 outs ⟨n, sl, rs⟩ := stL_congr outs 0 _ fun j hj => by
      rw [Nat.zero_add]
      by_cases hje : j = e
      ·rw [hje]; exact hle
      ·exact hall j (by omega) hje
     rw [e1] at hJ
     refine hA o ho0 w0 a w hJ K Q' fun a' w' hr' => hK a' w' ?_
     show Rel w0 (bif (listed.setIfInBounds i true).getD i false then (bif (listed.setIfInBounds i true).getD e false then σF else σ1) else _) a' w'
     rw [hget0, hget0, if_pos rfl, hle, ite_self]
     exact Rel.of_look hr' hF.n.symm (fun t x h => hF.slots t x h) (fun t x h => hF.res t x h)
    | false =>
     have hei : e ≠ i := by omega
     ·have e1 : stL (fun j => listed.getD j false) 0 outs ⟨n, sl, rs⟩ = stL (fun j => !(Nat.beq j e)) 0 outs ⟨n, sl, rs⟩ := stL_congr outs 0 _ fun j hj => by
       rw [Nat.zero_add]
       by_cases hje : j = e
       ·rw [hje, hle, Nat.beq_refl]; rfl
       ·rw [hall j (by omega) hje]
        cases hb : Nat.beq j e with
        | true => exact absurd (Nat.eq_of_beq_eq_true hb) hje
        | false => rfl
      rw [e1] at hJ
      refine h1 o ho0 w0 a w hJ K Q' fun a' w' hr' => hK a' w' ?_
      show Rel w0 (bif (listed.setIfInBounds i true).getD i false then (bif (listed.setIfInBounds i true).getD e false then σF else σ1) else _) a' w'
      rw [hget0, hget0, if_pos rfl, if_neg hei, hle]
      simpa using hr'
   ·have hiN : i < M := by omega
    have ho' : l[i]? = some o := by simpa using ho
    obtain ⟨y, hy⟩ : ∃ y, outs[i]? = some y := ⟨outs[i]'(by omega), List.getElem?_eq_getElem _⟩
    have hloc := Steps.at l outs 0 hsteps i o y ho' hy
    rw [Nat.zero_add] at hloc
    have hBL := inB listed inv i o hi ho' hd
    have hsup : Sup (stL (memN (B i)) 0 outs ⟨n, delS (outs.map (·.1)) sl, rs⟩) (stL (fun j => listed.getD j false) 0 outs ⟨n, sl, rs⟩) := by
     refine ⟨by rw [stL_n, stL_n], fun t x hx => ?_, fun t x hx => ?_⟩
     ·by_cases hex : ∃ j z, outs[j]? = some z ∧ memN (B i) j = true ∧ z.1 = t
      ·obtain ⟨j, z, hz, hj, rfl⟩ := hex
       have e := stL_slot (L := memN (B i)) (t := z.1) outs 0 ⟨n, delS (outs.map (·.1)) sl, rs⟩ j z hz (by rw [Nat.zero_add]; exact hj) rfl rfl (fun k u hk e => dsl j z hz k u hk e)
       rw [hx] at e
       cases e
       exact stL_slot outs 0 _ j z hz (by rw [Nat.zero_add]; exact hBL j (memN_iff.1 hj)) rfl rfl fun k u hk e => dsl j z hz k u hk e
      ·rw [stL_slot_base outs 0 _ fun j z hz hj e => hex ⟨j, z, hz, by rw [Nat.zero_add] at hj; exact hj, e⟩, look_delS] at hx
       split at hx
       ·cases hx
       ·rename_i hnm
        rw [stL_slot_base outs 0 _ fun j z hz _ e => hnm (List.mem_map.2 ⟨z, List.mem_of_getElem? hz, e⟩)]
        exact hx
     ·by_cases hex : ∃ j z, outs[j]? = some z ∧ memN (B i) j = true ∧ ∃ u ∈ z.2.2, u.1 = t
      ·obtain ⟨j, z, hz, hj, u, hu, rfl⟩ := hex
       have uniq : ∀ (k : Nat) (z' : Out), outs[k]? = some z' → (∃ v ∈ z'.2.2, v.1 = u.1) → k = j := fun k z' hk ⟨v, hv, e⟩ => by
        rcases (ids j z hz u hu).2 k z' hk with h | ⟨_, h⟩
        ·exact h
        ·exact absurd e (h v hv)
       cases hlk : look z.2.2.reverse u.1 with
       | none =>
        exfalso
        have : ∀ (m : List (Nat × R)), u ∈ m → look m u.1 ≠ none := by
         intro m
         induction m with
         | nil => intro h; cases h
         | cons c m ih =>
          intro h
          obtain ⟨ci, cx⟩ := c
          rw [look_cons]
          split
          ·simp
          ·rename_i e
           rcases List.mem_cons.1 h with rfl | h
           ·exact absurd rfl e
           ·exact ih h
        exact this _ (by simpa using hu) hlk
       | some x' =>
        have e := stL_res (L := memN (B i)) outs 0 ⟨n, delS (outs.map (·.1)) sl, rs⟩ j z hz (by rw [Nat.zero_add]; exact hj) hlk uniq
        rw [hx] at e
        cases e
        exact stL_res outs 0 _ j z hz (by rw [Nat.zero_add]; exact hBL j (memN_iff.1 hj)) hlk uniq
      ·rw [stL_res_base outs 0 _ fun j z hz hj u hu e => hex ⟨j, z, hz, by rw [Nat.zero_add] at hj; exact hj, u, hu, e⟩] at hx
       rw [stL_res_base outs 0 _ fun j z hz _ u hu e => ?_]
       ·exact hx
       ·have := (ids j z hz u hu).1
        exact (St.has_res this (e ▸ hx)).1 rfl
    have hfresh : ∀ u ∈ y.2.2, (stL (fun j => listed.getD j false) 0 outs ⟨n, sl, rs⟩).has u.1 = false := by
     intro u hu'
     refine has_stL outs 0 _ (ids i y hy u hu').1 fun j z hz hL => ?_
     rw [Nat.zero_add] at hL
     cases hh : Out.has z u.1 with
     | false => rfl
     | true =>
      rcases (ids i y hy u hu').2 j z hz with rfl | ⟨h1, _⟩
      ·rw [hu] at hL; cases hL
      ·exfalso
       have hib := h1 hh
       have hjN : j < (M + 1) := by have := (List.getElem?_eq_some_iff.1 hz).1; omega
       have hoj : l[j]? = some (l[j]'(by omega)) := List.getElem?_eq_getElem _
       have := inB listed inv j _ hjN hoj (fun k hk => by
        obtain ⟨e, he, hb, rfl⟩ := mem_deps.1 hk
        exact inv.closed j _ (by simp) hL e he hb) i hib
       rw [hu] at this; cases this
    intro K Q' hK
    refine hloc _ hsup hfresh w0 a w hJ K Q' fun a' w' hr' => hK a' w' ?_
    have hget : ∀ j, (listed.setIfInBounds i true).getD j false = if j = i then true else listed.getD j false := by
     intro j
     by_cases e : j = i
     ·subst e
      have : j < listed.size := by rw [inv.size]; simp; omega
      simp [this]
     ·rw [if_neg e]; exact getD_set_ne false (fun h => e h.symm)
    show Rel w0 (bif (listed.setIfInBounds i true).getD M false then _ else _) a' w'
    rw [hget, if_neg (fun h => hiM h.symm), hLN, cond_false]
    refine Rel.of_look hr' (by rw [stL_n, stL_n]) (fun t x hx => ?_) (fun t x hx => ?_)
    ·show look ((y.1, y.2.1) :: _) t = some x
     rw [look_cons]
     by_cases e : y.1 = t
     ·rw [if_pos e]
      have := stL_slot (L := fun j => (listed.setIfInBounds i true).getD j false) outs 0 ⟨n, sl, rs⟩ i y hy (by rw [Nat.zero_add]; rw [hget, if_pos rfl]) e rfl fun k z hk e' => dsl i y hy k z hk (e'.trans e.symm)
      rw [this] at hx; exact hx
     ·rw [if_neg e]
      by_cases hex : ∃ j z, outs[j]? = some z ∧ listed.getD j false = true ∧ z.1 = t
      ·obtain ⟨j, z, hz, hj, rfl⟩ := hex
       have e1 := stL_slot (L := fun j => (listed.setIfInBounds i true).getD j false) outs 0 ⟨n, sl, rs⟩ j z hz (by rw [Nat.zero_add, hget]; split; rfl; exact hj) rfl rfl fun k u hk e => dsl j z hz k u hk e
       rw [e1] at hx
       cases hx
       exact stL_slot outs 0 _ j z hz (by rw [Nat.zero_add]; exact hj) rfl rfl fun k u hk e => dsl j z hz k u hk e
      ·rw [stL_slot_base outs 0 _ fun j z hz hj e' => hex ⟨j, z, hz, by rw [Nat.zero_add] at hj; exact hj, e'⟩]
       rw [stL_slot_base outs 0 _ fun j z hz hj e' => ?_] at hx
       ·exact hx
       ·rw [Nat.zero_add, hget] at hj
        split at hj
        ·rename_i e2; subst e2; rw [hy] at hz; cases hz; exact e e'
        ·exact hex ⟨j, z, hz, hj, e'⟩
    ·show look (addsR y.2.2 _) t = some x
     rw [look_addsR]
     by_cases hyt : ∃ u ∈ y.2.2, u.1 = t
     ·obtain ⟨u, hu', rfl⟩ := hyt
      have uniq : ∀ (k : Nat) (z' : Out), outs[k]? = some z' → (∃ v ∈ z'.2.2, v.1 = u.1) → k = i := fun k z' hk ⟨v, hv, e⟩ => by
       rcases (ids i y hy u hu').2 k z' hk with h | ⟨_, h⟩
       ·exact h
       ·exact absurd e (h v hv)
      cases hlk : look y.2.2.reverse u.1 with
      | none =>
       simp only
       rw [stL_res_base outs 0 _ fun j z hz hj v hv e' => ?_] at hx ⊢
       ·exact hx
       all_goals
        have := uniq j z hz ⟨v, hv, e'⟩
        subst this
        rw [hy] at hz; cases hz
        have hne : ∀ (m : List (Nat × R)), v ∈ m → look m v.1 ≠ none := by
         intro m
         induction m with
         | nil => intro h; cases h
         | cons c m ih =>
          intro h
          obtain ⟨ci, cx⟩ := c
          rw [look_cons]
          split
          ·simp
          ·rename_i e
           rcases List.mem_cons.1 h with rfl | h
           ·exact absurd rfl e
           ·exact ih h
        exact hne _ (by simpa using hv) (e' ▸ hlk)
      | some x' =>
       have := stL_res (L := fun j => (listed.setIfInBounds i true).getD j false) outs 0 ⟨n, sl, rs⟩ i y hy (by rw [Nat.zero_add]; rw [hget, if_pos rfl]) hlk uniq
       rw [this] at hx
       exact hx
     ·have hnone : look y.2.2.reverse t = none := look_none_of fun v hv e => hyt ⟨v, by simpa using hv, e⟩
      rw [hnone]
      simp only
      by_cases hex : ∃ j z, outs[j]? = some z ∧ listed.getD j false = true ∧ ∃ u ∈ z.2.2, u.1 = t
      ·obtain ⟨j, z, hz, hj, u, hu', rfl⟩ := hex
       have uniq : ∀ (k : Nat) (z' : Out), outs[k]? = some z' → (∃ v ∈ z'.2.2, v.1 = u.1) → k = j := fun k z' hk ⟨v, hv, e⟩ => by
        rcases (ids j z hz u hu').2 k z' hk with h | ⟨_, h⟩
        ·exact h
        ·exact absurd e (h v hv)
       cases hlk : look z.2.2.reverse u.1 with
       | none =>
        exfalso
        have hne : ∀ (m : List (Nat × R)), u ∈ m → look m u.1 ≠ none := by
         intro m
         induction m with
         | nil => intro h; cases h
         | cons c m ih =>
          intro h
          obtain ⟨ci, cx⟩ := c
          rw [look_cons]
          split
          ·simp
          ·rename_i e
           rcases List.mem_cons.1 h with rfl | h
           ·exact absurd rfl e
           ·exact ih h
        exact hne _ (by simpa using hu') hlk
       | some x' =>
        have e1 := stL_res (L := fun j => (listed.setIfInBounds i true).getD j false) outs 0 ⟨n, sl, rs⟩ j z hz (by rw [Nat.zero_add, hget]; split; rfl; exact hj) hlk uniq
        rw [e1] at hx
        cases hx
        exact stL_res outs 0 _ j z hz (by rw [Nat.zero_add]; exact hj) hlk uniq
      ·rw [stL_res_base outs 0 _ fun j z hz hj u hu' e' => hex ⟨j, z, hz, by rw [Nat.zero_add] at hj; exact hj, u, hu', e'⟩]
       rw [stL_res_base outs 0 _ fun j z hz hj u hu' e' => ?_] at hx
       ·exact hx
       ·rw [Nat.zero_add, hget] at hj
        split at hj
        ·rename_i e2; subst e2; rw [hy] at hz; cases hz; exact hyt ⟨u, hu', e'⟩
        ·exact hex ⟨j, z, hz, hj, u, hu', e'⟩

 · -- the end
  rw [hall M (by omega)] at hJ
  have he' : listed.getD e false = true := hall e (by omega)
  rw [he'] at hJ
  exact hfin a w hJ
 ·have e : stL (fun j => (Array.replicate l.toArray.size false).getD j false) 0 outs ⟨n, sl, rs⟩ = ⟨n, sl, rs⟩ := by
   have key : ∀ (os : List Out) (i : Nat) (σ : St), stL (fun j => (Array.replicate l.toArray.size false).getD j false) i os σ = σ := by
    intro os
    induction os with
    | nil => intro i σ; rfl
    | cons y os ih =>
     intro i σ
     rw [stL, getD_replicate_false]
     exact ih (i + 1) σ
   exact key outs 0 _
  show Rel w0 (bif (Array.replicate l.toArray.size false).getD M false then _ else stL (fun j => (Array.replicate l.toArray.size false).getD j false) 0 outs ⟨n, sl, rs⟩) a _
  rw [getD_replicate_false, cond_false, e]
  obtain ⟨I, hI⟩ := hr
  exact ⟨I, hI.later (Ext.refl w).drawn⟩
theorem Op1.le {ops : Array Oper} {o : Oper} {σ σ' σ2 : St} (h : Op1 P ops o σ σ2) (hs : Sup σ' σ2) : Op1 P ops o σ σ' := fun w0 a w hr K Q' hK => h w0 a w hr K Q' fun a' w' hr' => hK a' w' (Rel.of_look hr' hs.n.symm (fun t x h => hs.slots t x h) (fun t x h => hs.res t x h))
def FinS (P : Program) (w0 : Base) (Q : Exit → St → Prop) (M e : Nat) (B : Nat → List Nat) (l : List Oper) (n : Nat) (sl : List (Nat × (Bool × S))) (rs : List (Nat × R)) (outs : List Out) : Prop :=
 delS (outs.map (·.1)) sl = sl ∧ outB B ⟨n, sl, rs⟩ outs = true ∧ ∃ σA σ1 σF, (∀ o, l[M]? = some o → Op1 P l.toArray o (stL (fun _ => true) 0 outs ⟨n, sl, rs⟩) σA) ∧ (∀ o, l[M]? = some o → Op1 P l.toArray o (stL (fun j => !(Nat.beq j e)) 0 outs ⟨n, sl, rs⟩) σ1) ∧
 (∀ o, l[e]? = some o → Op1 P l.toArray o σ1 σF) ∧ Sup σF σA ∧ AWl P w0 l.toArray Q (l.drop (M + 1)) σF
theorem FinS.mk {w0 : Base} {Q : Exit → St → Prop} {M e : Nat} {B : Nat → List Nat} {l : List Oper} {n : Nat} {sl : List (Nat × (Bool × S))} {rs : List (Nat × R)} {outs : List Out} {oM oE : Oper} {σA σ1 σE : St} (σF : St) (hd : delS (outs.map (·.1)) sl = sl) (hU : outB B ⟨n, sl, rs⟩ outs = true) (hM : l[M]? = some oM) (hE : l[e]? = some oE)
  (hA : Op1 P l.toArray oM (stL (fun _ => true) 0 outs ⟨n, sl, rs⟩) σA) (h1 : Op1 P l.toArray oM (stL (fun j => !(Nat.beq j e)) 0 outs ⟨n, sl, rs⟩) σ1) (hEE : Op1 P l.toArray oE σ1 σE) (hF : Sup σF σA) (hF2 : Sup σF σE) (hfin : AWl P w0 l.toArray Q (l.drop (M + 1)) σF) : FinS P w0 Q M e B l n sl rs outs :=
 ⟨hd, hU, σA, σ1, σF, fun o h => by rw [hM] at h; cases h; exact hA, fun o h => by rw [hM] at h; cases h; exact h1, fun o h => by rw [hE] at h; cases h; exact hEE.le hF2, hF, hfin⟩
theorem AW.drawnS {w0 : Base} {Q : Exit → St → Prop} {n : Nat} {sl : List (Nat × (Bool × S))} {rs : List (Nat × R)} {id : Nat} {l : List Oper} (M e : Nat) (B : Nat → List Nat) (hm : P.follows .mixedOrders = true) (hB : planC l.toArray (M + 1) = true) (hO : ordB l B (M + 1) = true) (hX : (List.range M).all (fun j => Nat.beq j e || memN (B M) j) = true) (heM : Nat.blt e M = true)
  (h : DrawG P M B l n sl rs (FinS P w0 Q M e B l n sl rs) [] 0 l) : AW P w0 (.region id l.toArray true) Q ⟨n, sl, rs⟩ := by
 obtain ⟨outs, hl, hsteps, hd, hU, σA, σ1, σF, hA, h1, hE, hF, hfin⟩ := h.pf rfl rfl
 simp only [List.reverse_nil, List.nil_append] at hl hsteps hd hU hA h1
 rw [← hd] at hsteps
 exact AW.drawS M e B outs σA σ1 σF hm hB hO hl hsteps hU hX hA h1 hE hF (Nat.le_of_ble_eq_true heM) hfin
theorem LocK.ofs1 {ops : Array Oper} {o : Oper} {σ : St} {d id : Nat} {r : R} {x : Bool × S} (hd : o.dst = some d) (h : ∀ σ', Sup σ σ' → (∀ z ∈ [(id, r)], σ'.has z.1 = false) → Op1 P ops o σ' ((σ'.adds [(id, r)]).put o.dst x)) : LocK P ops o σ ⟨d, x, some (id, r), false, []⟩ :=
 LocK.of1 hd fun σ' hs hf => h σ' hs fun z hz => by rw [List.mem_singleton] at hz; subst hz; exact hf
end
end Go.Q
