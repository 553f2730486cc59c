import Derived.Test.YtbkhopfpejhnlaaGreatDoorDraw2ta
import Derived.Test.YtbkhopfpejhnlaaGreatDoorAbs12ta
set_option linter.unusedVariables false
set_option linter.unusedSimpArgs false
namespace Go.Q
open Go.RowKit
section
variable {P : Program} {ops : Array Oper} {o : Oper} {σ : St}
theorem stL_outs {L : Nat → Bool} : ∀ (o1 o2 : List Out) (i : Nat) (σ : St), o1.length = o2.length → (∀ j, L (i + j) = true → o1[j]? = o2[j]?) → stL L i o1 σ = stL L i o2 σ
 | [], [], _, _, _, _ => rfl
 | [], _ :: _, _, _, h, _ => by cases h
 | _ :: _, [], _, _, h, _ => by cases h
 | y :: r, z :: s, i, σ, h, hj => by
  rw [stL, stL]
  have ih := fun σ' => stL_outs r s (i + 1) σ' (by simpa using h) fun j hL => by simpa using hj (j + 1) (by rw [show i + (j + 1) = i + 1 + j by omega]; exact hL)
  rw [ih]
  cases hL : L i with
  | false => rfl
  | true =>
   have := hj 0 hL
   simp only [List.getElem?_cons_zero, Option.some.injEq] at this
   rw [this]
def Out.nv (u : Nat) (y : Out) : Bool := y.2.1.2.nv u && y.2.2.all fun x => x.2.nv u
theorem nv_addsR {u : Nat} : ∀ (a b : List (Nat × R)), a.all (fun x => x.2.nv u) = true → b.all (fun x => x.2.nv u) = true → (addsR a b).all (fun x => x.2.nv u) = true
 | [], _, _, h => h
 | x :: a, b, h1, h2 => by
  rw [List.all_cons, Bool.and_eq_true] at h1
  exact nv_addsR a _ h1.2 (by rw [List.all_cons, h1.1, h2]; rfl)
theorem nv_stL {u : Nat} {L : Nat → Bool} : ∀ (outs : List Out) (i : Nat) (σ : St), nvB u σ.slots σ.res = true → outs.all (Out.nv u) = true → nvB u (stL L i outs σ).slots (stL L i outs σ).res = true
 | [], _, _, h, _ => h
 | y :: r, i, σ, h, ho => by
  rw [List.all_cons, Bool.and_eq_true] at ho
  rw [stL]
  refine nv_stL r (i + 1) _ ?_ ho.2
  cases L i with
  | false => exact h
  | true =>
   unfold nvB at h ⊢
   rw [Bool.and_eq_true] at h ⊢
   have hy := ho.1
   unfold Out.nv at hy
   rw [Bool.and_eq_true] at hy
   exact ⟨by rw [cond_true, List.all_cons, h.1, hy.1]; rfl, nv_addsR _ _ hy.2 h.2⟩
theorem mapD_sup {σ σ' : St} {u : Nat} (hs : Sup σ σ') : ∀ e t, readD u σ e = some t → readD u σ' e = some t := fun e t h => by
 cases e with
 | rf id =>
  rw [readD] at h ⊢
  split at h
  · rename_i k rows h0; rw [hs.res _ _ h0]; exact h
  · cases h
 | _ => exact h
theorem readDA_sup {σ σ' : St} {u : Nat} (hs : Sup σ σ') {x : A} {v : V0} (h : readDA u σ x = some v) : readDA u σ' x = some v := by
 cases x with
 | one e =>
  rw [readDA] at h ⊢
  split at h
  · rename_i t h1; rw [mapD_sup hs _ _ h1]; exact h
  · cases h
 | agg l =>
  rw [readDA] at h ⊢
  split at h
  · rename_i ts h1; rw [mapO_sup (mapD_sup hs) h1]; exact h
  · cases h
abbrev Zs := Nat → Int
def updZ (ζ : Zs) (i : Nat) (z : Int) : Zs := fun j => if j = i then z else ζ j
def iS (z : Int) : Bool × S := (true, .a (.one (.t (.v (.int .i64 z)))))
def ZStep (P : Program) (ops : Array Oper) (o : Oper) (u : Nat) (small : St) (i : Nat) (ζ : Zs) (outs : Zs → List Out) (p : Zs → Prop) : Prop :=
 ((∀ y, (outs ζ)[i]? = some y → Loc P ops o small y) ∧ p ζ) ∨
 ∃ d, ∃ q : Int → Prop, o.dst = some d ∧ (∀ ζ', (outs ζ')[i]? = some (d, iS (ζ' i), [])) ∧ (∀ z, q z → p (updZ ζ i z)) ∧ ∀ σ', Sup small σ' → nvB u σ'.slots σ'.res = true → OpE P ops o σ' fun σ'' => ∃ z, q z ∧ σ'' = σ'.put o.dst (iS z)
theorem AW.drawZ {w0 : Base} {Q : Exit → St → Prop} {n : Nat} {sl : List (Nat × (Bool × S))} {rs : List (Nat × R)} {id : Nat} {l : List Oper} (N u : Nat) (B : Nat → List Nat) (outs : Zs → List Out) (pz : Nat → Zs → Prop) (ds : List Nat) (hm : P.follows .mixedOrders = true) (hB : planC l.toArray N = true) (hO : ordB l B N = true)
 (hl : ∀ ζ, (outs ζ).length = N) (hds : ∀ ζ, (outs ζ).map (·.1) = ds) (hU : ∀ ζ, outB B ⟨n, sl, rs⟩ (outs ζ) = true) (hnv : nvB u sl rs = true) (hnvO : ∀ ζ, (outs ζ).all (Out.nv u) = true)
 (hloc : ∀ i, i < N → ∀ ζ ζ' : Zs, (∀ r, r = i ∨ memN (B i) r = true → ζ r = ζ' r) → (outs ζ)[i]? = (outs ζ')[i]? ∧ (pz i ζ → pz i ζ'))
 (hsteps : ∀ i o, i < N → l[i]? = some o → ∀ ζ, (∀ r, memN (B i) r = true → pz r ζ) → ZStep P l.toArray o u (stL (memN (B i)) 0 (outs ζ) ⟨n, delS ds sl, rs⟩) i ζ outs (pz i))
 (hfin : ∀ ζ, (∀ r, r < N → pz r ζ) → AWl P w0 l.toArray Q (l.drop N) (stL (fun _ => true) 0 (outs ζ) ⟨n, sl, rs⟩)) : AW P w0 (.region id l.toArray true) Q ⟨n, sl, rs⟩ := by
 intro a w hr
 refine wp_region_any hm ?_
 have H := wpAny_inv (P := P) (Q := lift w0 Q) (J := fun listed a w => ∃ ζ, (∀ r, r < N → listed.getD r false = true → pz r ζ) ∧ Rel w0 (stL (fun j => listed.getD j false) 0 (outs ζ) ⟨n, sl, rs⟩) a w) hB (fun i o hi ho listed a w inv hd hu hJ => ?_) (fun listed a w hall hJ => ?_)
  (unl N (Array.replicate l.toArray.size false)) (Array.replicate l.toArray.size false) a { w with drawn := w.drawn + 1 } rfl
  ⟨by simp, fun j oj _ hl => (by rw [getD_replicate_false] at hl; cases hl), fun t _ ht => getD_in (by simpa using ht) (getD_replicate_false _ _)⟩ ?_
 · have hu : unl N (Array.replicate l.toArray.size false) = N := by
    unfold unl
    rw [List.countP_eq_length.2 (fun j _ => by rw [getD_replicate_false]; rfl), List.length_range]
   have hlN : N ≤ l.length := by
    simp only [planC, Bool.and_eq_true, decide_eq_true_eq] at hB
    simpa using hB.1.1.1
   rw [hu, show N + (l.toArray.size - N) = l.toArray.size by simp; omega] at H
   exact H
 · obtain ⟨ζ, hp, hJ⟩ := hJ
   have ho' : l[i]? = some o := by simpa using ho
   have hget : ∀ j, (listed.setIfInBounds i true).getD j false = if j = i then true else listed.getD j false := by
    intro j
    by_cases e : j = i
    · subst e
      have : j < listed.size := by
       rw [inv.size]
       have := (List.getElem?_eq_some_iff.1 ho').1
       simpa using this
      simp [this]
    · rw [if_neg e]; exact getD_set_ne false (fun h => e h.symm)
   obtain ⟨y, hy⟩ : ∃ y, (outs ζ)[i]? = some y := ⟨(outs ζ)[i]'(by rw [hl]; exact hi), List.getElem?_eq_getElem _⟩
   obtain ⟨s1, s2, s3, s4⟩ := draw_step hB hO (hl ζ) (hU ζ) inv hi ho' hd hu hy
   rw [hds] at s1
   have hBp : ∀ r, memN (B i) r = true → pz r ζ := fun r hr => by
    have h1 := s3 r (memN_iff.1 hr)
    have h2 : r < N := by
     rcases Nat.lt_or_ge r N with h | h
     · exact h
     · exfalso
       have hOi := List.all_eq_true.1 hO i (List.mem_range.2 hi)
       rw [ho'] at hOi
       have := List.all_eq_true.1 hOi r (memN_iff.1 hr)
       simp only [Bool.or_eq_true, List.contains_iff_mem, List.any_eq_true, Bool.and_eq_true, decide_eq_true_eq] at this
       have hBN : ∀ j ∈ deps o, j < N := fun j hj => by
        have hB' := hB
        simp only [planC, Bool.and_eq_true, decide_eq_true_eq] at hB'
        have := List.all_eq_true.1 hB'.1.1.2 i (List.mem_range.2 hi)
        rw [ho] at this
        have := List.all_eq_true.1 this j hj
        simp only [decide_eq_true_eq] at this
        omega
       rcases this with h' | ⟨m, _, ⟨h', h''⟩, _⟩
       · have := hBN r h'; omega
       · omega
    exact hp r h2 h1
   intro K Q' hK
   rcases hsteps i o hi ho' ζ hBp with ⟨h1, h2⟩ | ⟨d, q, h1, h2, h3, h4⟩
   · refine h1 y hy _ s1 s2 w0 a w hJ K Q' fun a' w' hr' => hK a' w' ⟨ζ, fun r hr hL => ?_, s4 w0 a' w' hr'⟩
     rw [hget] at hL
     by_cases e : r = i
     · subst e; exact h2
     · rw [if_neg e] at hL; exact hp r hr hL
   · refine h4 _ s1 (nv_stL _ _ _ hnv (hnvO ζ)) w0 a w hJ K Q' fun σ'' a' w' ⟨z, hz, e⟩ hr' => hK a' w' ⟨updZ ζ i z, fun r hr hL => ?_, ?_⟩
     · rw [hget] at hL
       by_cases e : r = i
       · subst e; exact h3 z hz
       · rw [if_neg e] at hL
         refine (hloc r hr ζ (updZ ζ i z) fun m hm => ?_).2 (hp r hr hL)
         unfold updZ
         split
         · rename_i e2; subst e2
           exfalso
           rcases hm with hm | hm
           · exact e hm.symm
           · have hjo : l[r]? = some (l[r]'(by have hB' := hB; simp only [planC, Bool.and_eq_true, decide_eq_true_eq] at hB'; have := hB'.1.1.1; simp at this; omega)) := List.getElem?_eq_getElem _
             obtain ⟨y2, hy2⟩ : ∃ y, (outs ζ)[r]? = some y := ⟨(outs ζ)[r]'(by rw [hl]; exact hr), List.getElem?_eq_getElem _⟩
             have := ordB_in hB hO inv hr hjo (fun k hk => by
              obtain ⟨e', he', hb, rfl⟩ := mem_deps.1 hk
              exact inv.closed r _ (by simp) hL e' he' hb) m (memN_iff.1 hm)
             rw [hu] at this; cases this
         · rfl
     · have hy2 := h2 (updZ ζ i z)
       have hsame : stL (fun j => listed.getD j false) 0 (outs ζ) ⟨n, sl, rs⟩ = stL (fun j => listed.getD j false) 0 (outs (updZ ζ i z)) ⟨n, sl, rs⟩ := by
        refine stL_outs _ _ 0 _ (by rw [hl, hl]) fun j hL => ?_
        rw [Nat.zero_add] at hL
        rcases Nat.lt_or_ge j N with hj | hj
        · refine (hloc j hj ζ (updZ ζ i z) fun m hm => ?_).1
          unfold updZ
          split
          · rename_i e2; subst e2
            exfalso
            rcases hm with hm | hm
            · subst hm; rw [hu] at hL; cases hL
            · have hjo : l[j]? = some (l[j]'(by have hB' := hB; simp only [planC, Bool.and_eq_true, decide_eq_true_eq] at hB'; have := hB'.1.1.1; simp at this; omega)) := List.getElem?_eq_getElem _
              have := ordB_in hB hO inv hj hjo (fun k hk => by
               obtain ⟨e', he', hb, rfl⟩ := mem_deps.1 hk
               exact inv.closed j _ (by simp) hL e' he' hb) m (memN_iff.1 hm)
              rw [hu] at this; cases this
          · rfl
        · rw [List.getElem?_eq_none (by rw [hl]; omega), List.getElem?_eq_none (by rw [hl]; omega)]
       obtain ⟨_, _, _, t4⟩ := draw_step hB hO (hl (updZ ζ i z)) (hU (updZ ζ i z)) inv hi ho' hd hu hy2
       refine t4 w0 a' w' ?_
       rw [e, h1] at hr'
       rw [← hsame]
       have : updZ ζ i z i = z := by unfold updZ; rw [if_pos rfl]
       rw [this]
       exact hr'
 · obtain ⟨ζ, hp, hJ⟩ := hJ
   have e : stL (fun j => listed.getD j false) 0 (outs ζ) ⟨n, sl, rs⟩ = stL (fun _ => true) 0 (outs ζ) ⟨n, sl, rs⟩ := stL_congr _ 0 _ fun j hj => by rw [Nat.zero_add]; exact hall j (by rw [hl] at hj; exact hj)
   rw [e] at hJ
   exact hfin ζ (fun r hr => hp r hr (hall r hr)) a w hJ
 · refine ⟨fun _ => 0, fun r _ hL => (by rw [getD_replicate_false] at hL; cases hL), ?_⟩
   rw [stL_false _ _ _ _ fun j _ => by rw [getD_replicate_false]]
   obtain ⟨I, hI⟩ := hr
   exact ⟨I, hI.later (Ext.refl w).drawn⟩
def PA (L : Nat → Bool) : Nat → List (Zs → Prop) → Zs → Prop
 | k, p :: r, ζ => match L (k - 1) with | true => PA L (k - 1) r ζ ∧ p ζ | false => PA L (k - 1) r ζ
 | _, [], _ => True
def getP (ps : List (Zs → Prop)) (i : Nat) (ζ : Zs) : Prop := match ps[i]? with | some p => p ζ | none => True
theorem PA_of {L : Nat → Bool} {ζ : Zs} : ∀ (acc more : List (Zs → Prop)), (∀ r, r < acc.length → L r = true → getP (acc.reverse ++ more) r ζ) → PA L acc.length acc ζ
 | [], _, _ => trivial
 | p :: r, more, h => by
  have e : (p :: r).reverse ++ more = r.reverse ++ (p :: more) := by simp
  rw [e] at h
  have ih := PA_of (L := L) (ζ := ζ) r (p :: more) fun i hi hL => h i (by simp; omega) hL
  rw [PA, List.length_cons, Nat.add_sub_cancel]
  split
  · rename_i hL
    refine ⟨ih, ?_⟩
    have := h r.length (by simp) hL
    unfold getP at this
    rw [List.getElem?_append_right (by simp)] at this
    simpa using this
  · exact ih
structure DrawZ (P : Program) (w0 : Base) (Q : Exit → St → Prop) (N u : Nat) (B : Nat → List Nat) (l : List Oper) (n : Nat) (sl : List (Nat × (Bool × S))) (rs : List (Nat × R)) (acc : List (Zs → Out)) (accP : List (Zs → Prop)) (k : Nat) (rest : List Oper) : Prop where
 pf : acc.length = k → accP.length = k → rest = l.drop k → ∃ (more : List (Zs → Out)) (moreP : List (Zs → Prop)), (acc.reverse ++ more).length = N ∧ (accP.reverse ++ moreP).length = N ∧ (∀ ζ, dstsN rest (N - k) = more.map fun y => (y ζ).1) ∧
  (∀ i y p, more[i]? = some y → moreP[i]? = some p → ∀ ζ ζ' : Zs, (∀ r, r = k + i ∨ memN (B (k + i)) r = true → ζ r = ζ' r) → y ζ = y ζ' ∧ (p ζ → p ζ')) ∧
  (∀ i o, k ≤ i → i < N → l[i]? = some o → ∀ ζ, (∀ r, memN (B i) r = true → getP (accP.reverse ++ moreP) r ζ) → ZStep P l.toArray o u (stL (memN (B i)) 0 ((acc.reverse ++ more).map fun y => y ζ) ⟨n, delS (dstsN l N) sl, rs⟩) i ζ (fun ζ => (acc.reverse ++ more).map fun y => y ζ) (getP (accP.reverse ++ moreP) i)) ∧
  (∀ ζ, outB B ⟨n, sl, rs⟩ ((acc.reverse ++ more).map fun y => y ζ) = true) ∧ (∀ ζ, ((acc.reverse ++ more).map fun y => y ζ).all (Out.nv u) = true) ∧
  ∀ ζ, (∀ r, r < N → getP (accP.reverse ++ moreP) r ζ) → AWl P w0 l.toArray Q (l.drop N) (stL (fun _ => true) 0 ((acc.reverse ++ more).map fun y => y ζ) ⟨n, sl, rs⟩)
variable {w0 : Base} {Q : Exit → St → Prop} {N u : Nat} {B : Nat → List Nat} {l : List Oper} {n : Nat} {sl : List (Nat × (Bool × S))} {rs : List (Nat × R)} {acc : List (Zs → Out)} {accP : List (Zs → Prop)} {k : Nat} {rest : List Oper}
theorem AW.drawnZ {id : Nat} (N u : Nat) (B : Nat → List Nat) (hm : P.follows .mixedOrders = true) (hB : planC l.toArray N = true) (hO : ordB l B N = true) (hnv : nvB u sl rs = true) (h : DrawZ P w0 Q N u B l n sl rs [] [] 0 l) : AW P w0 (.region id l.toArray true) Q ⟨n, sl, rs⟩ := by
 obtain ⟨more, moreP, h1, h2, h3, h4, h5, h6, h7, h8⟩ := h.pf rfl rfl rfl
 simp only [List.reverse_nil, List.nil_append, Nat.sub_zero, Nat.zero_add] at h1 h2 h3 h4 h5 h6 h7 h8
 refine AW.drawZ N u B (fun ζ => more.map fun y => y ζ) (getP moreP) (dstsN l N) hm hB hO (fun ζ => by simp [h1]) (fun ζ => by rw [h3 ζ, List.map_map]; rfl) h6 hnv h7 (fun i hi ζ ζ' he => ?_) (fun i o hi ho ζ hp => h5 i o (Nat.zero_le _) hi ho ζ hp) h8
 obtain ⟨y, hy⟩ : ∃ y, more[i]? = some y := ⟨more[i]'(by omega), List.getElem?_eq_getElem _⟩
 obtain ⟨p, hp⟩ : ∃ p, moreP[i]? = some p := ⟨moreP[i]'(by omega), List.getElem?_eq_getElem _⟩
 obtain ⟨g1, g2⟩ := h4 i y p hy hp ζ ζ' he
 refine ⟨by rw [List.getElem?_map, List.getElem?_map, hy]; simp [g1], ?_⟩
 unfold getP
 rw [hp]; exact g2
theorem small_eq (hlt : ((B k).all fun j => Nat.blt j k) = true) (ha : acc.length = k) (more : List (Zs → Out)) (ζ : Zs) (σ : St) : stL (memN (B k)) 0 ((acc.reverse ++ more).map fun y => y ζ) σ = stR (memN (B k)) k (acc.map fun y => y ζ) σ := by
 rw [List.map_append, stL_append, List.map_reverse, ← ha, show acc.length = (acc.map fun y => y ζ).length by simp, stR_eq, stL_false]
 intro j hj
 rw [List.length_reverse, Nat.zero_add, List.length_map, ha] at hj
 rw [List.length_map, ha]
 cases hm : memN (B k) j with
 | false => rfl
 | true =>
  have h1 := List.all_eq_true.1 hlt j (memN_iff.1 hm)
  have h2 : j < k := Nat.le_of_ble_eq_true h1
  omega
theorem DrawZ.step {y : Zs → Out} {p : Zs → Prop} {d : Nat} (hN : Nat.blt k N = true) (hlt : ((B k).all fun j => Nat.blt j k) = true) (ho : o.dst = some d) (hdy : ∀ ζ, (y ζ).1 = d) (hL : ∀ ζ ζ' : Zs, (∀ r, r = k ∨ memN (B k) r = true → ζ r = ζ' r) → y ζ = y ζ' ∧ (p ζ → p ζ'))
 (hl : ∀ ζ, PA (memN (B k)) k accP ζ → ∀ outs : Zs → List Out, (∀ ζ', (outs ζ')[k]? = some (y ζ')) → ZStep P l.toArray o u (stR (memN (B k)) k (acc.map fun y => y ζ) ⟨n, delS (dstsN l N) sl, rs⟩) k ζ outs p)
 (h : DrawZ P w0 Q N u B l n sl rs (y :: acc) (p :: accP) (k + 1) rest) : DrawZ P w0 Q N u B l n sl rs acc accP k (o :: rest) := ⟨fun ha hap hr => by
 have hd : rest = l.drop (k + 1) := by
  have := congrArg (List.drop 1) hr
  simpa using this
 have hok : l[k]? = some o := by
  have := congrArg (fun x : List Oper => x[0]?) hr
  simp at this
  exact this.symm
 obtain ⟨more, moreP, h1, h2, h3, h4, h5, h6, h7, h8⟩ := h.pf (by simp [ha]) (by simp [hap]) hd
 have e : (y :: acc).reverse ++ more = acc.reverse ++ (y :: more) := by simp
 have e2 : (p :: accP).reverse ++ moreP = accP.reverse ++ (p :: moreP) := by simp
 rw [e] at h1 h5 h6 h7 h8
 rw [e2] at h2 h5 h8
 have hN' : k < N := Nat.le_of_ble_eq_true hN
 refine ⟨y :: more, p :: moreP, h1, h2, fun ζ => ?_, fun i y' p' hy hp ζ ζ' he => ?_, fun i o' hk hi ho' ζ hp => ?_, h6, h7, h8⟩
 · rw [show N - k = (N - (k + 1)) + 1 by omega]
   have := h3 ζ
   simp only [dstsN, List.take_succ_cons, List.filterMap_cons, ho, List.map_cons, hdy] at this ⊢
   rw [this]
 · cases i with
   | zero => simp at hy hp; subst hy; subst hp; exact hL ζ ζ' he
   | succ i => exact h4 i y' p' (by simpa using hy) (by simpa using hp) ζ ζ' (by rw [show k + 1 + i = k + (i + 1) by omega]; exact he)
 · rcases Nat.lt_or_ge k i with hlt' | hge
   · exact h5 i o' (by omega) hi ho' ζ hp
   · have : i = k := by omega
     subst this
     rw [hok] at ho'; cases ho'
     rw [small_eq hlt ha]
     have hgp : getP (accP.reverse ++ (p :: moreP)) i = p := by
      funext ζ
      unfold getP
      rw [List.getElem?_append_right (by simp [hap])]
      simp [hap]
     rw [hgp]
     refine hl ζ ?_ _ fun ζ' => ?_
     · rw [← hap]
       exact PA_of accP (p :: moreP) fun r _ hL => hp r (by rw [hap] at hL; exact hL)
     · rw [List.getElem?_map, List.getElem?_append_right (by simp [ha])]
       simp [ha]⟩
theorem DrawZ.pure {y : Zs → Out} {d : Nat} (hN : Nat.blt k N = true) (hlt : ((B k).all fun j => Nat.blt j k) = true) (ho : o.dst = some d)
 (hl : ∀ ζ, PA (memN (B k)) k accP ζ → Loc P l.toArray o (stR (memN (B k)) k (acc.map fun y => y ζ) ⟨n, delS (dstsN l N) sl, rs⟩) (y ζ)) (hdy : ∀ ζ, (y ζ).1 = d) (hL : ∀ ζ ζ' : Zs, (∀ r, memN (B k) r = true → ζ r = ζ' r) → y ζ = y ζ')
 (h : DrawZ P w0 Q N u B l n sl rs (y :: acc) ((fun _ => True) :: accP) (k + 1) rest) : DrawZ P w0 Q N u B l n sl rs acc accP k (o :: rest) :=
 DrawZ.step hN hlt ho hdy (fun ζ ζ' he => ⟨hL ζ ζ' fun r hr => he r (.inr hr), fun _ => trivial⟩) (fun ζ hp outs hout => .inl ⟨fun y' hy' => by rw [hout ζ] at hy'; cases hy'; exact hl ζ hp, trivial⟩) h
theorem DrawZ.draw {q : Zs → Int → Prop} {d : Nat} (hN : Nat.blt k N = true) (hlt : ((B k).all fun j => Nat.blt j k) = true) (ho : o.dst = some d)
 (hl : ∀ ζ, PA (memN (B k)) k accP ζ → ∀ σ', Sup (stR (memN (B k)) k (acc.map fun y => y ζ) ⟨n, delS (dstsN l N) sl, rs⟩) σ' → nvB u σ'.slots σ'.res = true → OpE P l.toArray o σ' fun σ'' => ∃ z, q ζ z ∧ σ'' = σ'.put o.dst (true, .a (.one (.t (.v (.int .i64 z))))))
 (hL : ∀ ζ ζ' : Zs, (∀ r, memN (B k) r = true → ζ r = ζ' r) → ∀ z, q ζ z → q ζ' z)
 (h : DrawZ P w0 Q N u B l n sl rs ((fun ζ => (d, (true, .a (.one (.t (.v (.int .i64 (ζ k)))))), [])) :: acc) ((fun ζ => q ζ (ζ k)) :: accP) (k + 1) rest) : DrawZ P w0 Q N u B l n sl rs acc accP k (o :: rest) :=
 DrawZ.step hN hlt ho (fun _ => rfl) (fun ζ ζ' he => ⟨by rw [he k (.inl rfl)], fun hq => by rw [← he k (.inl rfl)]; exact hL ζ ζ' (fun r hr => he r (.inr hr)) _ hq⟩)
  (fun ζ hp outs hout => .inr ⟨d, q ζ, ho, hout, fun z hz => by
   have e : updZ ζ k z k = z := by unfold updZ; rw [if_pos rfl]
   show q (updZ ζ k z) (updZ ζ k z k)
   rw [e]
   refine hL ζ _ (fun r hr => ?_) z hz
   unfold updZ
   rw [if_neg]
   have h1 := List.all_eq_true.1 hlt r (memN_iff.1 hr)
   have h2 : r < k := Nat.le_of_ble_eq_true h1
   omega, hl ζ hp⟩) h
theorem DrawZ.fin (hk : Nat.beq k N = true) (hU : ∀ ζ, outB B ⟨n, sl, rs⟩ (acc.reverse.map fun y => y ζ) = true) (hV : ∀ ζ, (acc.reverse.map fun y => y ζ).all (Out.nv u) = true) (h : ∀ ζ, PA (fun _ => true) k accP ζ → AWl P w0 l.toArray Q rest ⟨n, finSl (acc.map fun y => y ζ) sl, finRs (acc.map fun y => y ζ) rs⟩) : DrawZ P w0 Q N u B l n sl rs acc accP k rest := ⟨fun ha hap hr => by
 have hk' := Nat.eq_of_beq_eq_true hk
 subst hk'
 refine ⟨[], [], by simp [ha], by simp [hap], fun ζ => by simp [dstsN], fun i y p hy => by simp at hy, fun i o h1 h2 => by omega, by simpa using hU, by simpa using hV, fun ζ hp => ?_⟩
 rw [List.append_nil, List.map_reverse, show stL (fun _ => true) 0 (acc.map fun y => y ζ).reverse ⟨n, sl, rs⟩ = stR (fun _ => true) (acc.map fun y => y ζ).length (acc.map fun y => y ζ) ⟨n, sl, rs⟩ from (stR_eq _ _ _).symm, fin_eq, ← hr]
 refine h ζ ?_
 rw [← hap]
 exact PA_of accP [] fun r hr _ => hp r (by rw [hap] at hr; exact hr)⟩
end
end Go.Q
