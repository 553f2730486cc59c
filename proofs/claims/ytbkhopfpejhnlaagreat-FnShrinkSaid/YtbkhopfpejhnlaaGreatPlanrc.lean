import Derived.Test.YtbkhopfpejhnlaaGreatTabrc
set_option linter.unusedVariables false
set_option linter.unusedSimpArgs false
namespace Go.Q
open Go.RowKit
open Rd (rd)

def Later (w : World) : Type := { w' : World // Ext w w' }
instance {w : World} : Nonempty (Later w) := ⟨⟨w, Ext.refl w⟩⟩
instance {w : World} : Inhabited (Later w) := ⟨⟨w, Ext.refl w⟩⟩
theorem wp_region_later {P : Program} {id : Nat} {Q : Exit → Act → World → Prop} {a : Act} {w : World} {l : List Oper} (hm : P.follows .mixedOrders = true) (hB : Region.lexB .any l.toArray = true)
 (h : wpQuiet P l.toArray (fun w' => ∃ x : Later w, w' = x.1) (fun a' => ∀ w', (∃ x : Later w, w' = x.1) → Q .normal a' w') l a) : (Code.region id l.toArray true).wp P Q a w :=
 wp_region_quiet (C := fun w' => ∃ x : Later w, w' = x.1) hm hB ⟨⟨_, (Ext.refl w).drawn⟩, rfl⟩ (by simpa using h)
theorem Later.cell {w : World} {p : Addr} {v : Value} (hc : w.cell? p = some v) : ∀ x : Later w, x.1.cell? p = some v := fun x => x.2.cell hc
theorem Later.ext {w : World} (x : Later w) : Ext w x.1 := x.2

structure MP where
 on : List Nat
 p : (Nat → Value) → Value → World → Prop
 mono : ∀ {vs v w w'}, p vs v w → Ext w w' → p vs v w'
 loc : ∀ {vs vs' v w}, (∀ j ∈ on, vs' j = vs j) → p vs v w → p vs' v w
def MP.is (u : Value) : MP := ⟨[], fun _ v _ => v = u, fun h _ => h, fun _ h => h⟩
def MP.any : MP := ⟨[], fun _ _ _ => True, fun h _ => h, fun _ h => h⟩
def MP.vl {α : Type} [Rd α] (x : α) : MP := ⟨[], fun _ v w => ∃ F, Vl w v x F, fun ⟨F, h⟩ he => ⟨F, h.mono he⟩, fun _ h => h⟩
def MP.new2 {α β : Type} [Rd α] [Rd β] (j : Nat) (u : World) (x : α) (y : β) : MP :=
 ⟨[j], fun vs v w => ∃ m n, u.heap.size ≤ m ∧ Pc u.heap.size m w (vs j) x ∧ Pc m n w v y, fun ⟨m, n, l, h, k⟩ he => ⟨m, n, l, h.mono he, k.mono he⟩, fun hv ⟨m, n, l, h, k⟩ => ⟨m, n, l, by rw [hv j (by simp)]; exact h, k⟩⟩
def MP.new3 {α β γ : Type} [Rd α] [Rd β] [Rd γ] (i j : Nat) (u : World) (x : α) (y : β) (z : γ) : MP :=
 ⟨[i, j], fun vs v w => ∃ m n o, u.heap.size ≤ m ∧ m ≤ n ∧ Pc u.heap.size m w (vs i) x ∧ Pc m n w (vs j) y ∧ Pc n o w v z, fun ⟨m, n, o, l1, l2, h, k, l⟩ he => ⟨m, n, o, l1, l2, h.mono he, k.mono he, l.mono he⟩,
  fun hv ⟨m, n, o, l1, l2, h, k, l⟩ => ⟨m, n, o, l1, l2, by rw [hv i (by simp)]; exact h, by rw [hv j (by simp)]; exact k, l⟩⟩
theorem Thaw.mono {w w' : World} {b : Nat} (h : Thaw w b) (he : Ext w w') : Thaw w' b := by
 obtain ⟨c, e, h⟩ := h
 exact ⟨c, e, (he.block (Array.getElem?_eq_some_iff.1 h).1).trans h⟩
theorem New.mono {α : Type} [Rd α] {w w' w'' : World} {v : Value} {x : α} (h : New w w' v x) (he : Ext w' w'') : New w w'' v x :=
 let ⟨F, h1, h2, h3⟩ := h; ⟨F, h1.mono he, fun b hb => ⟨(h2 b hb).1, (h2 b hb).2.mono he⟩, h3⟩
theorem New.old {α : Type} [Rd α] {w0 w w' : World} {v : Value} {x : α} (h : New w w' v x) (he : Ext w0 w) : New w0 w' v x :=
 let ⟨F, h1, h2, h3⟩ := h; ⟨F, h1, fun b hb => ⟨Nat.le_trans he.size (h2 b hb).1, (h2 b hb).2⟩, h3⟩
theorem New.vl {α : Type} [Rd α] {w w' : World} {v : Value} {x : α} (h : New w w' v x) : ∃ F, Vl w' v x F := let ⟨F, h1, _⟩ := h; ⟨F, h1⟩
def MP.new {α : Type} [Rd α] (w0 : World) (x : α) : MP := ⟨[], fun _ v w => New w0 w v x, fun h he => h.mono he, fun _ h => h⟩

def runs (P : Program) (o : Oper) (ρ : Operand → Value) (w : World) (K : Value → World → Prop) : Prop :=
 match (execOp ρ o).run P w with
 | .ok (.value v) w' => K v w'
 | .ok .skip w' => K undef w'
 | .ok (.enter f args) w' => Calls P f args w' fun e w'' => ∃ v, e = .returned v ∧ K v w''
 | .ok (.row row args) w' => Rows P row args w' K
 | _ => False
theorem wp_of_runs {P : Program} {o : Oper} {a : Act} {w : World} {K : Value → World → Prop} {K' : Act → World → Prop} {Q : Exit → Act → World → Prop}
 (h : runs P o a.eval w K) (hk : ∀ v w', K v w' → K' (a.put o.dst v) w') : o.wp P a w K' Q := by
 unfold runs at h
 unfold Oper.wp
 generalize (execOp a.eval o).run P w = r at *
 cases r with
 | ok n w' =>
  cases n <;> simp only [Oper.upon] at h ⊢
  case value v => exact hk _ _ h
  case skip => exact hk _ _ h
  case enter f args => exact h.mono fun e w'' ⟨v, he, hK⟩ => by subst he; exact hk _ _ hK
  case row row args => exact Rows.mono h fun v w'' hK => hk _ _ hK
 | halt x w' => simp at h

theorem put_same {a a' : Act} {d : Option Tmp} {v u : Value} (hs : a'.tmps.size = a.tmps.size) (h : a.put d v = a.put d u) : a'.put d v = a'.put d u := by
 cases d with
 | none => rfl
 | some d =>
  by_cases hd : d < a.tmps.size
  · have h1 := congrArg (fun x : Act => x.tmps.getD d undef) h
    simp [Act.put, hd] at h1
    rw [h1]
  · have hd' : a'.tmps.size ≤ d := by rw [hs]; exact Nat.le_of_not_lt hd
    have e : ∀ x, a'.tmps.setIfInBounds d x = a'.tmps := fun x => Array.setIfInBounds_eq_of_size_le hd'
    simp only [Act.put, e]
theorem runs_of_list {P : Program} {ops : Array Oper} {o : Oper} {a : Act} {w : World} {Φ : Value → World → Prop} (hg : o.guard = none)
 (h : ∀ K : Act → World → Prop, (∀ v w', Ext w w' → Φ v w' → K (a.put o.dst v) w') → wpList P ops (Exit.then K (fun _ _ _ => False)) [o] a w) :
 runs P o a.eval w (fun v w' => ∃ u, a.put o.dst v = a.put o.dst u ∧ Ext w w' ∧ Φ u w') := by
 have H := h (fun a' w' => ∃ u, a' = a.put o.dst u ∧ Ext w w' ∧ Φ u w') (fun v w' h1 h2 => ⟨v, rfl, h1, h2⟩)
 unfold wpList at H
 simp only [Region.wanted, hg, if_true] at H
 rcases H with H | ⟨_, _, _, hf⟩
 case inr => exact hf.elim
 unfold Oper.wp at H
 unfold runs
 generalize (execOp a.eval o).run P w = r at *
 cases r with
 | ok n w' =>
  cases n <;> simp only [Oper.upon, wpList, Exit.then] at H ⊢
  case value v => exact H
  case skip => exact H
  case enter f args =>
   refine H.mono fun e w'' he => ?_
   cases e with
   | returned v => exact ⟨v, rfl, he⟩
   | panicked c => exact he.elim
   | outgrown => obtain ⟨_, _, hf⟩ := he; exact hf.elim
  case defer d =>
   obtain ⟨u, hu, _⟩ := H
   have := congrArg Act.defers hu
   cases hd : o.dst <;> simp [hd, Act.put] at this
  case row row args => exact H
 | halt x w' => cases x <;> simp [Oper.upon, Exit.then] at H

def dstAt (ops : Array Oper) (i : Nat) : Option Tmp := (ops[i]?).bind (·.dst)
def fillD (ops : Array Oper) (vs : Nat → Value) : List Nat → Act → Act
 | [], a => a
 | i :: r, a => fillD ops vs r (a.put (dstAt ops i) (vs i))
def deps (o : Oper) : List Nat := (o.after.toList.filter (Region.binds .any ·)).map (·.on)

theorem fillD_size (ops : Array Oper) (vs : Nat → Value) : ∀ (L : List Nat) (a : Act), (fillD ops vs L a).tmps.size = a.tmps.size ∧ (fillD ops vs L a).defers = a.defers
 | [], a => ⟨rfl, rfl⟩
 | i :: r, a => by
  obtain ⟨h1, h2⟩ := fillD_size ops vs r (a.put (dstAt ops i) (vs i))
  rw [fillD, h1, h2]
  cases dstAt ops i <;> simp [Act.put]
theorem put_getD (a : Act) (d : Option Tmp) (v : Value) (t : Nat) : (a.put d v).tmps.getD t undef = if d = some t ∧ t < a.tmps.size then v else a.tmps.getD t undef := by
 cases d with
 | none => simp [Act.put]
 | some d =>
  simp only [Act.put, Option.some.injEq]
  by_cases h : d = t
  · subst h
    by_cases hl : d < a.tmps.size
    · simp [hl]
    · simp [hl]
  · simp [h, Array.getElem?_setIfInBounds_ne h]
theorem fillD_none (ops : Array Oper) (vs : Nat → Value) (t : Nat) : ∀ (L : List Nat) (a : Act), (∀ j ∈ L, dstAt ops j ≠ some t) → (fillD ops vs L a).tmps.getD t undef = a.tmps.getD t undef
 | [], a, _ => rfl
 | i :: r, a, h => by
  rw [fillD, fillD_none ops vs t r _ (fun j hj => h j (List.mem_cons_of_mem _ hj)), put_getD, if_neg (fun hh => h i (by simp) hh.1)]
theorem fillD_some (ops : Array Oper) (vs : Nat → Value) (t j : Nat) : ∀ (L : List Nat) (a : Act), j ∈ L → dstAt ops j = some t → (∀ j' ∈ L, dstAt ops j' = some t → j' = j) → t < a.tmps.size →
 (fillD ops vs L a).tmps.getD t undef = vs j
 | [], a, h, _, _, _ => by cases h
 | i :: r, a, h, hd, hu, hl => by
  rw [fillD]
  by_cases hr : j ∈ r
  · exact fillD_some ops vs t j r _ hr hd (fun j' hj' => hu j' (List.mem_cons_of_mem _ hj')) (by cases dstAt ops i <;> simpa [Act.put] using hl)
  · obtain rfl : j = i := by rcases List.mem_cons.1 h with h | h; exact h; exact absurd h hr
    rw [fillD_none ops vs t r _ (fun j' hj' hh => hr (hu j' (List.mem_cons_of_mem _ hj') hh ▸ hj')), put_getD, if_pos ⟨hd, hl⟩]

def planB (ops : Array Oper) (N : Nat) : Bool :=
 Region.noSelect ops && decide (N ≤ ops.size) &&
 (List.range N).all (fun i => match ops[i]? with
  | some o => o.guard.isNone && (deps o).all (fun e => decide (e < i)) &&
   (o.looksAt ops).all (fun t => (List.range ops.size).all fun j => decide (dstAt ops j ≠ some t) || (deps o).contains j || (match ops[j]? with | some oj => (deps oj).contains i | none => false)) &&
   (List.range N).all (fun j => decide (j = i) || decide (o.dst = none) || decide (dstAt ops j ≠ o.dst))
  | none => false) &&
 (decide (N = ops.size) || (Region.sinkB .any ops N && Region.chainB .any ops N)) &&
 Region.seqB .any ops (ops.size - N) N ((Array.range ops.size).map fun j => decide (j < N))

theorem mem_deps {o : Oper} {j : Nat} : j ∈ deps o ↔ ∃ e ∈ o.after, Region.binds .any e = true ∧ e.on = j := by
 simp [deps, List.mem_filter, and_assoc]

def unl (N : Nat) (listed : Array Bool) : Nat := (List.range N).countP fun j => !listed.getD j false
theorem unl_set (listed : Array Bool) (i : Nat) (hu : listed.getD i false = false) (hs : i < listed.size) : ∀ N, unl N listed = unl N (listed.setIfInBounds i true) + if i < N then 1 else 0
 | 0 => by simp [unl]
 | N + 1 => by
  have ih := unl_set listed i hu hs N
  unfold unl at *
  rw [List.range_succ, List.countP_append, List.countP_append]
  simp only [List.countP_cons, List.countP_nil, Nat.zero_add]
  by_cases hiN : i = N
  · subst hiN
    have h1 : (listed.setIfInBounds i true).getD i false = true := by simp [hs]
    rw [ih, h1, hu]
    simp
  · rw [getD_set_ne false hiN, ih]
    have e : (i < N + 1) = (i < N) := propext ⟨fun h => by omega, fun h => by omega⟩
    simp only [e]
    omega

section
variable {P : Program} {ops : Array Oper} {N : Nat}

structure PlanInv (ops : Array Oper) (N : Nat) (Φ : Nat → MP) (a0 : Act) (w0 : World) (listed : Array Bool) (a : Act) (w : World) : Prop where
 head : HeadInv .any ops N listed
 size : a.tmps.size = a0.tmps.size
 defers : a.defers = a0.defers
 ext : Ext w0 w
 vals : ∃ vs : Nat → Value, (∀ j, j < N → listed.getD j false = true → (Φ j).p vs (vs j) w ∧ ∀ t, dstAt ops j = some t → t < a0.tmps.size → a.tmps.getD t undef = vs j) ∧
  ∀ t, (∀ j, j < N → listed.getD j false = true → dstAt ops j ≠ some t) → a.tmps.getD t undef = a0.tmps.getD t undef

theorem getD_out {a : Act} {t : Nat} (h : ¬ t < a.tmps.size) : a.tmps.getD t undef = undef := by simp [h]

theorem wpAny_plan {Q : Exit → Act → World → Prop} {Φ : Nat → MP} {a0 : Act} {w0 : World} (hB : planB ops N = true)
 (hon : ∀ i o, i < N → ops[i]? = some o → ∀ j ∈ (Φ i).on, j ∈ deps o)
 (hstep : ∀ i o, i < N → ops[i]? = some o → ∀ (vs : Nat → Value) (w : World), Ext w0 w → (∀ j ∈ deps o, (Φ j).p vs (vs j) w) →
  ∀ K : Act → World → Prop, (∀ v w', Ext w w' → (Φ i).p vs v w' → K ((fillD ops vs (deps o) a0).put o.dst v) w') → wpList P ops (Exit.then K (fun _ _ _ => False)) [o] (fillD ops vs (deps o) a0) w)
 (hfin : ∀ (vs : Nat → Value) (w : World), Ext w0 w → (∀ i, i < N → (Φ i).p vs (vs i) w) → wpList P ops Q (ops.toList.drop N) (fillD ops vs (List.range N) a0) w) :
 ∀ (n : Nat) (listed : Array Bool) (a : Act) (w : World), unl N listed = n → PlanInv ops N Φ a0 w0 listed a w → wpAny P .any ops Q (n + (ops.size - N)) listed a w := by
 simp only [planB, Bool.and_eq_true, decide_eq_true_eq] at hB
 obtain ⟨⟨⟨⟨hsel, hN⟩, hall⟩, htail⟩, hseq⟩ := hB
 have hop : ∀ i, i < N → ∃ o, ops[i]? = some o ∧ o.guard = none ∧ (∀ e ∈ deps o, e < i) ∧
  (∀ t ∈ o.looksAt ops, ∀ j, j < ops.size → dstAt ops j = some t → j ∈ deps o ∨ ∃ oj, ops[j]? = some oj ∧ i ∈ deps oj) ∧ (∀ j t, j < N → dstAt ops j = some t → o.dst = some t → j = i) := by
  intro i hi
  have h := List.all_eq_true.1 hall i (List.mem_range.2 hi)
  have hio : ops[i]? = some ops[i] := Array.getElem?_eq_getElem (by omega)
  rw [hio] at h
  simp only [Bool.and_eq_true, List.all_eq_true, decide_eq_true_eq, Bool.or_eq_true, List.mem_range, Option.isNone_iff_eq_none, List.contains_iff_mem] at h
  refine ⟨_, hio, h.1.1.1, h.1.1.2, fun t ht j hj hd => ?_, fun j t hj hd ho => ?_⟩
  · rcases h.1.2 t ht j hj with (h1 | h1) | h1
    · exact absurd hd h1
    · exact .inl h1
    · refine .inr ⟨ops[j], Array.getElem?_eq_getElem hj, ?_⟩
      rw [Array.getElem?_eq_getElem hj] at h1
      simpa using h1
  · rcases h.2 j hj with (h1 | h1) | h1
    · exact h1
    · rw [h1] at ho; cases ho
    · rw [ho] at h1; exact absurd hd h1
 intro n
 induction n with
 | zero =>
  intro listed a w hn inv
  have hl : ∀ j, j < N → listed.getD j false = true := by
   intro j hj
   have := List.countP_eq_zero.1 hn j (List.mem_range.2 hj)
   simpa using this
  have hlisted : listed = (Array.range ops.size).map fun j => decide (j < N) := by
   apply Array.ext
   · simp [inv.head.size]
   · intro j h1 h2
     have hj : j < ops.size := by rw [← inv.head.size]; exact h1
     simp only [Array.getElem_map, Array.getElem_range]
     by_cases hjN : j < N
     · have := hl j hjN
       simp [h1] at this
       simp [this, hjN]
     · have := inv.head.tail j (by omega) hj
       simp [h1] at this
       simp [this, hjN]
  obtain ⟨vs, hv1, hv2⟩ := inv.vals
  have ha : a = fillD ops vs (List.range N) a0 := by
   obtain ⟨s1, s2⟩ := fillD_size ops vs (List.range N) a0
   obtain ⟨tm, df⟩ := a
   have e1 : tm = (fillD ops vs (List.range N) a0).tmps := by
    apply Array.ext
    · rw [s1]; exact inv.size
    · intro t h1 h2
      have hsz : t < a0.tmps.size := by have := inv.size; simp only at this; omega
      have key : tm.getD t undef = (fillD ops vs (List.range N) a0).tmps.getD t undef := by
       by_cases hex : ∃ j, j < N ∧ dstAt ops j = some t
       · obtain ⟨j, hj, hd⟩ := hex
         rw [fillD_some ops vs t j _ _ (List.mem_range.2 hj) hd (fun j' hj' hd' => ?_) hsz]
         · exact (hv1 j hj (hl j hj)).2 t hd hsz
         · obtain ⟨o, ho, _, _, _, hu⟩ := hop j hj
           exact hu j' t (List.mem_range.1 hj') hd' (by simpa [dstAt, ho] using hd)
       · have hex' : ∀ j, j < N → dstAt ops j ≠ some t := fun j hj hd => hex ⟨j, hj, hd⟩
         rw [fillD_none ops vs t _ _ (fun j hj => hex' j (List.mem_range.1 hj))]
         exact hv2 t fun j hj _ => hex' j hj
      simpa [h1, h2] using key
   have e2 : df = (fillD ops vs (List.range N) a0).defers := by rw [s2]; exact inv.defers
   cases hh : fillD ops vs (List.range N) a0
   rw [hh] at e1 e2
   simp only at e1 e2
   rw [e1, e2]
  have H := hfin vs w inv.ext fun i hi => (hv1 i hi (hl i hi)).1
  rw [← ha] at H
  have := wpAny_of_seq (md := .any) (Q' := Q) (ops.toList.drop N) N listed a w (fun j => by simp [List.getElem?_drop]) (by rw [hlisted]; simpa using hseq) H
  rw [Nat.zero_add]
  simpa using this
 | succ n ih =>
  intro listed a w hn inv
  rw [show n + 1 + (ops.size - N) = (n + (ops.size - N)) + 1 by omega]
  have hleast : ∃ i, i < N ∧ listed.getD i false = false ∧ ∀ j, j < i → listed.getD j false = true := by
   have hex : ∃ i, i < N ∧ listed.getD i false = false := by
    apply Classical.byContradiction
    intro hno
    have : unl N listed = 0 := List.countP_eq_zero.2 fun j hj => by
     have hjN := List.mem_range.1 hj
     cases h : listed.getD j false with
     | true => simp
     | false => exact absurd ⟨j, hjN, h⟩ hno
    omega
   obtain ⟨i, hi, hu⟩ := hex
   induction i using Nat.strongRecOn with
   | _ i ihi =>
    by_cases hall' : ∀ j, j < i → listed.getD j false = true
    · exact ⟨i, hi, hu, hall'⟩
    · obtain ⟨j, hj, hju⟩ : ∃ j, j < i ∧ listed.getD j false = false := by
       apply Classical.byContradiction
       intro hno
       exact hall' fun j hj => by
        cases h : listed.getD j false with
        | true => rfl
        | false => exact absurd ⟨j, hj, h⟩ hno
      exact ihi j hj (by omega) hju
  have inL : ∀ i, i < N → listed.getD i false = false → listed.getD i true = false := fun i hi h => getD_in (by rw [inv.head.size]; omega) h
  obtain ⟨i0, hi0, hu0, hl0⟩ := hleast
  have hr0 : i0 ∈ Region.ready .any ops listed := by
   obtain ⟨o, ho, _, hd, _⟩ := hop i0 hi0
   exact mem_ready.2 ⟨inL i0 hi0 hu0, o, ho, fun e he hb => hl0 _ (hd _ (mem_deps.2 ⟨e, he, hb, rfl⟩))⟩
  refine ⟨fun h0 => (by rw [h0] at hr0; cases hr0), fun i hi => ?_⟩
  have hiN : i < N := by
   rcases Nat.lt_or_ge i N with h | h
   · exact h
   · obtain ⟨_, o, ho, _⟩ := mem_ready.1 hi
     have hisz : i < ops.size := (Array.getElem?_eq_some_iff.1 ho).1
     simp only [Bool.or_eq_true, decide_eq_true_eq, Bool.and_eq_true] at htail
     rcases htail with htail | ⟨hs, hc⟩
     · omega
     · exact absurd hi (tail_waits hs hc (by omega) inv.head _ i0 rfl hi0 (inL i0 hi0 hu0) i h)
  obtain ⟨o, ho, hg, hd, hlook, hu⟩ := hop i hiN
  obtain ⟨hiun, o', ho', hafter⟩ := mem_ready.1 hi
  obtain rfl : o' = o := Option.some.inj (ho'.symm.trans ho)
  have hiunf : listed.getD i false = false := getD_both hiun
  obtain ⟨vs, hv1, hv2⟩ := inv.vals
  have hdl : ∀ j ∈ deps o', listed.getD j false = true := fun j hj => by
   obtain ⟨e, he, hb, rfl⟩ := mem_deps.1 hj
   exact hafter e he hb
  have hdN : ∀ j ∈ deps o', j < N := fun j hj => Nat.lt_trans (hd j hj) hiN
  have hR := hstep i o' hiN ho vs w inv.ext (fun j hj => (hv1 j (hdN j hj) (hdl j hj)).1)
  unfold wpOp
  simp only [ho]
  rw [if_pos (by unfold Region.wanted; rw [hg])]
  refine .inl ?_
  have hcongr : execOp a.eval o' = execOp (fillD ops vs (deps o') a0).eval o' := by
   refine execOp_congr o' (fun cs b => Region.noSelect_spec hsel i o' cs b ho) fun x hx => ?_
   cases x with
   | tmp t =>
    show a.tmps.getD t undef = (fillD ops vs (deps o') a0).tmps.getD t undef
    have ht : t ∈ o'.looksAt ops := List.mem_append_left _ (List.mem_filterMap.2 ⟨.tmp t, by simpa using hx, rfl⟩)
    by_cases hex : ∃ j, j ∈ deps o' ∧ dstAt ops j = some t
    · obtain ⟨j, hj, hdj⟩ := hex
      by_cases hts : t < a0.tmps.size
      · rw [fillD_some ops vs t j _ _ hj hdj (fun j' hj' hd' => ?_) hts]
        · exact (hv1 j (hdN j hj) (hdl j hj)).2 t hdj hts
        · obtain ⟨oj, hoj, _, _, _, huj⟩ := hop j (hdN j hj)
          exact huj j' t (hdN j' hj') hd' (by simpa [dstAt, hoj] using hdj)
      · rw [getD_out (by rw [inv.size]; exact hts), getD_out (by rw [(fillD_size ops vs (deps o') a0).1]; exact hts)]
    · have hex' : ∀ j ∈ deps o', dstAt ops j ≠ some t := fun j hj h => hex ⟨j, hj, h⟩
      rw [fillD_none ops vs t _ _ hex']
      refine hv2 t fun j hj hlj hdj => ?_
      rcases hlook t ht j (by omega) hdj with h | ⟨oj, hoj, h⟩
      · exact hex' j h hdj
      · obtain ⟨e, he, hb, hon⟩ := mem_deps.1 h
        have := inv.head.closed j oj hoj hlj e he hb
        rw [hon, hiunf] at this
        cases this
   | const v => rfl
   | global g => rfl
   | func f => rfl
  have hruns := runs_of_list (Φ := (Φ i).p vs) hg hR
  unfold runs at hruns
  rw [← hcongr] at hruns
  refine wp_of_runs hruns fun v0 w' ⟨v, hv, hx, hΦ⟩ => ?_
  rw [put_same (by rw [inv.size, (fillD_size ops vs (deps o') a0).1]) hv]
  refine ih _ _ _ ?_ ?_
  · have := unl_set listed i hiunf (by rw [inv.head.size]; omega) N
    rw [if_pos hiN] at this
    omega
  · refine ⟨inv.head.set hi hiN, ?_, ?_, inv.ext.trans hx, fun j => if j = i then v else vs j, ?_, ?_⟩
    · cases hdst : o'.dst <;> simpa [Act.put] using inv.size
    · cases hdst : o'.dst <;> simpa [Act.put] using inv.defers
    · intro j hj hlj
      by_cases hji : j = i
      · subst hji
        simp only [if_true]
        refine ⟨(Φ j).loc (fun k hk => if_neg (fun e => ?_)) hΦ, fun t ht hts => ?_⟩
        · have := hdl k (hon j o' hiN ho k hk)
          rw [e, hiunf] at this
          cases this
        rw [put_getD, if_pos ⟨by simpa [dstAt, ho] using ht, by rw [inv.size]; exact hts⟩]
      · rw [getD_set_ne false (Ne.symm hji)] at hlj
        simp only [hji, if_false]
        obtain ⟨oj, hoj, _⟩ := hop j hj
        refine ⟨(Φ j).loc (fun k hk => if_neg (fun e => ?_)) ((Φ j).mono (hv1 j hj hlj).1 hx), fun t ht hts => ?_⟩
        · obtain ⟨e', he', hb', hon'⟩ := mem_deps.1 (hon j oj hj hoj k hk)
          have := inv.head.closed j oj hoj hlj e' he' hb'
          rw [hon', e, hiunf] at this
          cases this
        rw [put_getD, if_neg (fun hh => hji (hu j t hj ht hh.1))]
        exact (hv1 j hj hlj).2 t ht hts
    · intro t hnone
      have hi' := hnone i hiN (by simp [show i < listed.size by rw [inv.head.size]; omega])
      rw [put_getD, if_neg (fun hh => hi' (by simpa [dstAt, ho] using hh.1))]
      refine hv2 t fun j hj hlj => hnone j hj (getD_set_true hlj)

def planSteps (P : Program) (ops : Array Oper) (Φ : Nat → MP) (a0 : Act) (w0 : World) : Nat → List Oper → Prop
 | _, [] => True
 | i, o :: r => (∀ (vs : Nat → Value) (w : World), Ext w0 w → (∀ j ∈ deps o, (Φ j).p vs (vs j) w) →
  ∀ K : Act → World → Prop, (∀ v w', Ext w w' → (Φ i).p vs v w' → K ((fillD ops vs (deps o) a0).put o.dst v) w') → wpList P ops (Exit.then K (fun _ _ _ => False)) [o] (fillD ops vs (deps o) a0) w) ∧ planSteps P ops Φ a0 w0 (i + 1) r
theorem planSteps_at {Φ : Nat → MP} {a0 : Act} {w0 : World} : ∀ (l : List Oper) (k : Nat), planSteps P ops Φ a0 w0 k l → ∀ i o, l[i]? = some o →
 ∀ (vs : Nat → Value) (w : World), Ext w0 w → (∀ j ∈ deps o, (Φ j).p vs (vs j) w) →
  ∀ K : Act → World → Prop, (∀ v w', Ext w w' → (Φ (k + i)).p vs v w' → K ((fillD ops vs (deps o) a0).put o.dst v) w') → wpList P ops (Exit.then K (fun _ _ _ => False)) [o] (fillD ops vs (deps o) a0) w
 | [], _, _, i, o, h => by simp at h
 | x :: l, k, hp, 0, o, h => by
  simp at h; subst h; exact hp.1
 | x :: l, k, hp, i + 1, o, h => by
  have := planSteps_at l (k + 1) hp.2 i o (by simpa using h)
  rw [show k + 1 + i = k + (i + 1) by omega] at this
  exact this

def onB (l : List Oper) (Φs : List MP) (N : Nat) : Bool := (List.range N).all fun i => match l[i]? with
 | some o => (Φs.getD i MP.any).on.all fun j => (deps o).contains j
 | none => true
theorem wp_region_plan {id : Nat} {Q : Exit → Act → World → Prop} {a : Act} {w : World} {l : List Oper} (N : Nat) (Φs : List MP) (hm : P.follows .mixedOrders = true) (hB : planB l.toArray N = true) (hon : onB l Φs N = true)
 (hstep : planSteps P l.toArray (fun i => Φs.getD i MP.any) a w 0 (l.take N))
 (hfin : ∀ (vs : Nat → Value) (w' : World), Ext w w' → (∀ i, i < N → (Φs.getD i MP.any).p vs (vs i) w') → wpList P l.toArray Q (l.drop N) (fillD l.toArray vs (List.range N) a) w') :
 (Code.region id l.toArray true).wp P Q a w := by
 refine wp_region_any hm ?_
 have hN : N ≤ l.length := by
  simp only [planB, Bool.and_eq_true, decide_eq_true_eq] at hB
  simpa using hB.1.1.1.2
 have H := wpAny_plan (P := P) (Q := Q) (Φ := fun i => Φs.getD i MP.any) (a0 := a) (w0 := w) hB (fun i o hi ho j hj => by
  have h := List.all_eq_true.1 hon i (List.mem_range.2 hi)
  have ho' : l[i]? = some o := by simpa using ho
  rw [ho'] at h
  simpa using List.all_eq_true.1 h j hj) (fun i o hi ho => by
  have := planSteps_at (l.take N) 0 hstep i o (by rw [List.getElem?_take, if_pos hi]; simpa using ho)
  rwa [Nat.zero_add] at this) (by simpa using hfin)
  (unl N (Array.replicate l.toArray.size false)) (Array.replicate l.toArray.size false) a { w with drawn := w.drawn + 1 } rfl
  ⟨⟨by simp, fun j oj _ hl => (by rw [getD_replicate_false] at hl; cases hl), fun t _ ht => getD_in (by simpa using ht) (getD_replicate_false _ _)⟩, rfl, rfl, (Ext.refl w).drawn,
   fun _ => undef, fun j _ hl => (by rw [getD_replicate_false] at hl; cases hl), fun t _ => rfl⟩
 have hu : unl N (Array.replicate l.toArray.size false) = N := by
  unfold unl
  rw [List.countP_eq_length.2 (fun j _ => by rw [getD_replicate_false]; rfl), List.length_range]
 rw [hu, show N + (l.toArray.size - N) = l.toArray.size by simp; omega] at H
 exact H
end
end Go.Q
