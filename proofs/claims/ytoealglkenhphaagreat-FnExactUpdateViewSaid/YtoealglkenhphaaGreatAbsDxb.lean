import Derived.Test.YtoealglkenhphaaGreatAbs10xb
import Derived.Test.YtoealglkenhphaaGreatPlanxb
set_option linter.unusedVariables false
set_option linter.unusedSimpArgs false
namespace Go.Q
open Go.RowKit
section
variable {P : Program} {ops : Array Oper} {N : Nat}
def planC (ops : Array Oper) (N : Nat) : Bool :=
 decide (N ≤ ops.size) && (List.range N).all (fun i => match ops[i]? with
  | some o => (deps o).all (fun e => decide (e < i))
  | none => false) &&
 (decide (N = ops.size) || (Region.sinkB .any ops N && Region.chainB .any ops N)) &&
 Region.seqB .any ops (ops.size - N) N ((Array.range ops.size).map fun j => decide (j < N))
theorem wpAny_inv {Q : Exit → Act → World → Prop} {J : Array Bool → Act → World → Prop} (hB : planC ops N = true)
  (hstep : ∀ i o, i < N → ops[i]? = some o → ∀ listed a w, HeadInv .any ops N listed → (∀ j ∈ deps o, listed.getD j false = true) → listed.getD i false = false → J listed a w →
   ∀ (K : Act → World → Prop) (Q' : Exit → Act → World → Prop), (∀ a' w', J (listed.setIfInBounds i true) a' w' → K a' w') → if Region.wanted o (yielded ops a.tmps) then o.wp P a w K Q' else K (a.put o.dst undef) w)
  (hfin : ∀ listed a w, (∀ j, j < N → listed.getD j false = true) → J listed a w → wpList P ops Q (ops.toList.drop N) a w) :
  ∀ (n : Nat) (listed : Array Bool) (a : Act) (w : World), unl N listed = n → HeadInv .any ops N listed → J listed a w → wpAny P .any ops Q (n + (ops.size - N)) listed a w := by
 simp only [planC, Bool.and_eq_true, decide_eq_true_eq] at hB
 obtain ⟨⟨⟨hN, hall⟩, htail⟩, hseq⟩ := hB
 have hop : ∀ i, i < N → ∃ o, ops[i]? = some o ∧ ∀ e ∈ deps o, e < i := by
  intro i hi
  have h := List.all_eq_true.1 hall i (List.mem_range.2 hi)
  have hio : ops[i]? = some ops[i] := Array.getElem?_eq_getElem (by omega)
  rw [hio] at h
  simp only [List.all_eq_true, decide_eq_true_eq] at h
  exact ⟨_, hio, h⟩
 intro n
 induction n with
 | zero =>
  intro listed a w hn inv hJ
  have hl : ∀ j, j < N → listed.getD j false = true := by
   intro j hj
   have := List.countP_eq_zero.1 hn j (List.mem_range.2 hj)
   simpa using this
  have hlisted : listed = (Array.range ops.size).map fun j => decide (j < N) := by
   apply Array.ext
   ·simp [inv.size]
   ·intro j h1 h2
    have hj : j < ops.size := by rw [← inv.size]; exact h1
    simp only [Array.getElem_map, Array.getElem_range]
    by_cases hjN : j < N
    ·have := hl j hjN
     simp [h1] at this
     simp [this, hjN]
    ·have := inv.tail j (by omega) hj
     simp [h1] at this
     simp [this, hjN]
  have H := hfin listed a w hl hJ
  have := wpAny_of_seq (md := .any) (Q' := Q) (ops.toList.drop N) N listed a w (fun j => by simp [List.getElem?_drop]) (by rw [hlisted]; simpa using hseq) H
  rw [Nat.zero_add]
  simpa using this
 | succ n ih =>
  intro listed a w hn inv hJ
  rw [show n + 1 + (ops.size - N) = (n + (ops.size - N)) + 1 by omega]
  have hleast : ∃ i, i < N ∧ listed.getD i false = false ∧ ∀ j, j < i → listed.getD j false = true := by
   have hex : ∃ i, i < N ∧ listed.getD i false = false := by
    apply Classical.byContradiction
    intro hno
    have : unl N listed = 0 := List.countP_eq_zero.2 fun j hj => by
     have hjN := List.mem_range.1 hj
     cases h : listed.getD j false with
     | true => simp
     | false => exact absurd ⟨j, hjN, h⟩ hno
    omega
   obtain ⟨i, hi, hu⟩ := hex
   induction i using Nat.strongRecOn with
   | _ i ihi =>
    by_cases hall' : ∀ j, j < i → listed.getD j false = true
    ·exact ⟨i, hi, hu, hall'⟩
    ·obtain ⟨j, hj, hju⟩ : ∃ j, j < i ∧ listed.getD j false = false := by
      apply Classical.byContradiction
      intro hno
      exact hall' fun j hj => by
       cases h : listed.getD j false with
       | true => rfl
       | false => exact absurd ⟨j, hj, h⟩ hno
     exact ihi j hj (by omega) hju
  have inL : ∀ i, i < N → listed.getD i false = false → listed.getD i true = false := fun i hi h => getD_in (by rw [inv.size]; omega) h
  obtain ⟨i0, hi0, hu0, hl0⟩ := hleast
  have hr0 : i0 ∈ Region.ready .any ops listed := by
   obtain ⟨o, ho, hd⟩ := hop i0 hi0
   exact mem_ready.2 ⟨inL i0 hi0 hu0, o, ho, fun e he hb => hl0 _ (hd _ (mem_deps.2 ⟨e, he, hb, rfl⟩))⟩
  refine ⟨fun h0 => (by rw [h0] at hr0; cases hr0), fun i hi => ?_⟩
  have hiN : i < N := by
   rcases Nat.lt_or_ge i N with h | h
   ·exact h
   ·obtain ⟨_, o, ho, _⟩ := mem_ready.1 hi
    have hisz : i < ops.size := (Array.getElem?_eq_some_iff.1 ho).1
    simp only [Bool.or_eq_true, decide_eq_true_eq, Bool.and_eq_true] at htail
    rcases htail with htail | ⟨hs, hc⟩
    ·omega
    ·exact absurd hi (tail_waits hs hc (by omega) inv _ i0 rfl hi0 (inL i0 hi0 hu0) i h)
  obtain ⟨o, ho, hd⟩ := hop i hiN
  obtain ⟨hiun, o', ho', hafter⟩ := mem_ready.1 hi
  obtain rfl : o' = o := Option.some.inj (ho'.symm.trans ho)
  have hiunf : listed.getD i false = false := getD_both hiun
  have hdl : ∀ j ∈ deps o', listed.getD j false = true := fun j hj => by
   obtain ⟨e, he, hb, rfl⟩ := mem_deps.1 hj
   exact hafter e he hb
  have hun : unl N (listed.setIfInBounds i true) = n := by
   have := unl_set listed i hiunf (by rw [inv.size]; omega) N
   rw [if_pos hiN] at this
   omega
  have H := hstep i o' hiN ho listed a w inv hdl hiunf hJ _ Q fun a' w' hJ' => ih _ a' w' hun (inv.set hi hiN) hJ'
  unfold wpOp
  simp only [ho]
  split
  ·rename_i hw
   rw [if_pos hw] at H
   exact .inl H
  ·rename_i hw
   rw [if_neg hw] at H
   exact H
end
structure Sup (σ σ' : St) : Prop where
 n : σ'.n = σ.n
 slots : ∀ i x, look σ.slots i = some x → look σ'.slots i = some x
 res : ∀ i x, look σ.res i = some x → look σ'.res i = some x
section
variable {P : Program} {ops : Array Oper} {o : Oper} {σ σ' : St} {q : Bool}
theorem readE0_sup (hs : Sup σ σ') {e : E} {t : T} (h : readE0 σ e = some t) : readE0 σ' e = some t := by
 cases e with
 | rf id =>
  rw [readE0] at h
  split at h
  ·rename_i h0; rw [readE0, hs.res _ _ h0]; exact h
  ·cases h
 | t x => exact h
 | vw i x => exact h
 | pp i x => cases h
 | pr a b c d => cases h
 | sb a b c d => cases h
 | tl a b c => cases h
 | pf a b c => cases h
 | no => cases h
theorem mapO_sup {f g : E → Option T} (hf : ∀ e t, f e = some t → g e = some t) : ∀ {l : List E} {ts : List T}, mapO f l = some ts → mapO g l = some ts
 | [], ts, h => h
 | e :: r, ts, h => by
  rw [mapO] at h ⊢
  split at h
  ·rename_i t h1
   split at h
   ·rename_i ts' h2
    rw [hf e t h1]
    simp only [mapO_sup hf h2]
    exact h
   ·cases h
  ·cases h
theorem readE_sup (hs : Sup σ σ') : ∀ (n : Nat) (e : E) (t : T), readE σ n e = some t → readE σ' n e = some t
 | 0, e, t, h => readE0_sup hs h
 | n + 1, e, t, h => by
  rw [readE] at h ⊢
  dsimp only at h ⊢
  split at h
  ·split at h
   ·rename_i h0
    split at h
    ·rename_i h1
     rw [hs.res _ _ h0]
     simp only [mapO_sup (readE_sup hs n) h1]
     exact h
    ·cases h
   ·cases h
  ·exact readE0_sup hs h
theorem readA_sup (hs : Sup σ σ') {x : A} {v : V0} (h : readA σ x = some v) : readA σ' x = some v := by
 cases x with
 | one e =>
  rw [readA] at h ⊢
  split at h
  ·rename_i h1; rw [readE_sup hs 4 _ _ h1]; exact h
  ·cases h
 | agg l =>
  rw [readA] at h ⊢
  split at h
  ·rename_i h1; rw [mapO_sup (readE_sup hs 4) h1]; exact h
  ·cases h
theorem hd_sup (hs : Sup σ σ') {d : Option Tmp} (h : d.all (fun d => Nat.blt d σ.n) = true) : d.all (fun d => Nat.blt d σ'.n) = true := by rw [hs.n]; exact h
def Loc (P : Program) (ops : Array Oper) (o : Oper) (σ : St) (y : Nat × (Bool × S) × List (Nat × R)) : Prop :=
 ∀ σ', Sup σ σ' → (∀ z ∈ y.2.2, σ'.has z.1 = false) → Op1 P ops o σ' ⟨σ'.n, (y.1, y.2.1) :: σ'.slots, addsR y.2.2 σ'.res⟩
theorem Loc.of {d : Nat} {x : Bool × S} (hd : o.dst = some d) (h : ∀ σ', Sup σ σ' → Op1 P ops o σ' (σ'.put o.dst x)) : Loc P ops o σ (d, x, []) := fun σ' hs _ => by
 have := h σ' hs
 rw [hd] at this
 exact this
end
abbrev Out := Nat × (Bool × S) × List (Nat × R)
def stL (L : Nat → Bool) : Nat → List Out → St → St
 | _, [], σ => σ
 | i, y :: r, σ => stL L (i + 1) r (bif L i then ⟨σ.n, (y.1, y.2.1) :: σ.slots, addsR y.2.2 σ.res⟩ else σ)
theorem stL_n (L : Nat → Bool) : ∀ (outs : List Out) (i : Nat) (σ : St), (stL L i outs σ).n = σ.n
 | [], _, _ => rfl
 | y :: r, i, σ => by
  rw [stL, stL_n L r]
  cases L i <;> rfl
theorem look_addsR : ∀ (rl : List (Nat × R)) (rs : List (Nat × R)) (i : Nat), look (addsR rl rs) i = match look rl.reverse i with | some x => some x | none => look rs i
 | [], rs, i => rfl
 | y :: rl, rs, i => by
  rw [addsR, look_addsR rl]
  have key : ∀ (l m : List (Nat × R)), look (l ++ m) i = match look l i with | some x => some x | none => look m i := by
   intro l m
   induction l with
   | nil => rfl
   | cons z l ih =>
    obtain ⟨j, z⟩ := z
    rw [List.cons_append, look_cons, look_cons]
    split
    ·rfl
    ·exact ih
  rw [List.reverse_cons, key]
  cases look rl.reverse i with
  | some x => rfl
  | none =>
   obtain ⟨j, z⟩ := y
   simp only [look]
   cases Nat.beq j i <;> rfl
theorem stL_slot_base {L : Nat → Bool} {t : Nat} : ∀ (outs : List Out) (i : Nat) (σ : St), (∀ (j : Nat) (y : Out), outs[j]? = some y → L (i + j) = true → y.1 ≠ t) → look (stL L i outs σ).slots t = look σ.slots t
 | [], _, _, _ => rfl
 | y :: r, i, σ, h => by
  rw [stL, stL_slot_base r (i + 1) _ fun j z hj hL => h (j + 1) z (by simpa using hj) (by rw [show i + (j + 1) = i + 1 + j by omega]; exact hL)]
  cases hL : L i with
  | false => rfl
  | true =>
   simp only [cond_true, look_cons]
   rw [if_neg (h 0 y rfl hL)]
theorem stL_slot {L : Nat → Bool} {t : Nat} {x : Bool × S} : ∀ (outs : List Out) (i : Nat) (σ : St) (j : Nat) (y : Out), outs[j]? = some y → L (i + j) = true → y.1 = t → y.2.1 = x → (∀ k z, outs[k]? = some z → z.1 = t → k = j) → look (stL L i outs σ).slots t = some x
 | [], _, _, j, y, h, _, _, _, _ => by simp at h
 | z :: r, i, σ, 0, y, h, hL, h1, h2, hu => by
  simp at h; subst h
  rw [stL, stL_slot_base r (i + 1) _ fun k u hk _ e => by have := hu (k + 1) u (by simpa using hk) e; omega]
  have hL' : L i = true := hL
  simp only [hL', cond_true, look_cons, h1, if_true, h2]
 | z :: r, i, σ, j + 1, y, h, hL, h1, h2, hu => by
  rw [stL]
  exact stL_slot r (i + 1) _ j y (by simpa using h) (by rw [show i + 1 + j = i + (j + 1) by omega]; exact hL) h1 h2 fun k u hk e => by have := hu (k + 1) u (by simpa using hk) e; omega
theorem stL_res_base {L : Nat → Bool} {t : Nat} : ∀ (outs : List Out) (i : Nat) (σ : St), (∀ (j : Nat) (y : Out), outs[j]? = some y → L (i + j) = true → ∀ z ∈ y.2.2, z.1 ≠ t) → look (stL L i outs σ).res t = look σ.res t
 | [], _, _, _ => rfl
 | y :: r, i, σ, h => by
  rw [stL, stL_res_base r (i + 1) _ fun j z hj hL => h (j + 1) z (by simpa using hj) (by rw [show i + (j + 1) = i + 1 + j by omega]; exact hL)]
  cases hL : L i with
  | false => rfl
  | true =>
   simp only [cond_true, look_addsR]
   have : look y.2.2.reverse t = none := by
    cases hh : look y.2.2.reverse t with
    | none => rfl
    | some x => exact absurd rfl (h 0 y rfl hL (t, x) (by simpa using look_mem hh))
   rw [this]
theorem stL_res {L : Nat → Bool} {t : Nat} {x : R} : ∀ (outs : List Out) (i : Nat) (σ : St) (j : Nat) (y : Out), outs[j]? = some y → L (i + j) = true → look y.2.2.reverse t = some x → (∀ k z, outs[k]? = some z → (∃ u ∈ z.2.2, u.1 = t) → k = j) → look (stL L i outs σ).res t = some x
 | [], _, _, j, y, h, _, _, _ => by simp at h
 | z :: r, i, σ, 0, y, h, hL, h1, hu => by
  simp at h; subst h
  rw [stL, stL_res_base r (i + 1) _ fun k u hk _ v hv e => by have := hu (k + 1) u (by simpa using hk) ⟨v, hv, e⟩; omega]
  have hL' : L i = true := hL
  simp only [hL', cond_true, look_addsR, h1]
 | z :: r, i, σ, j + 1, y, h, hL, h1, hu => by
  rw [stL]
  exact stL_res r (i + 1) _ j y (by simpa using h) (by rw [show i + 1 + j = i + (j + 1) by omega]; exact hL) h1 fun k u hk e => by have := hu (k + 1) u (by simpa using hk) e; omega
def memN : List Nat → Nat → Bool
 | [], _ => false
 | i :: l, j => bif Nat.beq i j then true else memN l j
theorem memN_iff : ∀ {l : List Nat} {j : Nat}, memN l j = true ↔ j ∈ l
 | [], j => by simp [memN]
 | i :: l, j => by
  rw [memN]
  by_cases e : i = j
  ·subst e; simp [Nat.beq_refl]
  ·have : Nat.beq i j = false := by
    cases hb : Nat.beq i j with
    | false => rfl
    | true => exact absurd (Nat.eq_of_beq_eq_true hb) e
   simp only [this, cond_false, memN_iff, List.mem_cons]
   exact ⟨.inr, fun h => h.resolve_left fun h => e h.symm⟩
def delS (ds : List Nat) : List (Nat × (Bool × S)) → List (Nat × (Bool × S))
 | [] => []
 | x :: l => bif memN ds x.1 then delS ds l else x :: delS ds l
theorem look_delS (ds : List Nat) : ∀ (l : List (Nat × (Bool × S))) (t : Nat), look (delS ds l) t = if t ∈ ds then none else look l t
 | [], t => by simp [delS, look]
 | (i, x) :: l, t => by
  rw [delS]
  cases hm : memN ds i with
  | true =>
   simp only [cond_true, look_delS ds l t, look_cons]
   by_cases e : i = t
   ·subst e; rw [if_pos (memN_iff.1 hm), if_pos (memN_iff.1 hm)]
   ·rw [if_neg e]
  | false =>
   simp only [cond_false, look_cons, look_delS ds l t]
   by_cases e : i = t
   ·subst e
    have : i ∉ ds := fun h => by rw [memN_iff.2 h] at hm; cases hm
    rw [if_pos rfl, if_neg this, if_pos rfl]
   ·rw [if_neg e, if_neg e]
def Out.has (y : Out) (id : Nat) : Bool := y.2.1.2.has id || y.2.2.any (fun z => Nat.beq z.1 id || z.2.has id)
def Steps (P : Program) (ops : Array Oper) (B : Nat → List Nat) (outs : List Out) (σ : St) : Nat → List Oper → List Out → Prop
 | i, o :: l, y :: r => Loc P ops o (stL (memN (B i)) 0 outs σ) y ∧ Steps P ops B outs σ (i + 1) l r
 | _, _, _ => True
theorem Steps.at {P : Program} {ops : Array Oper} {B : Nat → List Nat} {outs : List Out} {σ : St} : ∀ (l : List Oper) (r : List Out) (k : Nat), Steps P ops B outs σ k l r → ∀ i o y, l[i]? = some o → r[i]? = some y → Loc P ops o (stL (memN (B (k + i))) 0 outs σ) y
 | [], r, k, h, i, o, y, hl, hr => by simp at hl
 | o' :: l, [], k, h, i, o, y, hl, hr => by simp at hr
 | o' :: l, y' :: r, k, h, 0, o, y, hl, hr => by simp at hl hr; subst hl; subst hr; exact h.1
 | o' :: l, y' :: r, k, h, i + 1, o, y, hl, hr => by
  have := Steps.at l r (k + 1) h.2 i o y (by simpa using hl) (by simpa using hr)
  rwa [show k + 1 + i = k + (i + 1) by omega] at this
def ordB (l : List Oper) (B : Nat → List Nat) (N : Nat) : Bool := (List.range N).all fun i => match l[i]? with
 | some o => (B i).all fun j => (deps o).contains j || (B i).any fun m => decide (j < m) && decide (m < N) && (match l[m]? with | some om => (deps om).contains j | none => false)
 | none => false
def outB (B : Nat → List Nat) (σ : St) (outs : List Out) : Bool :=
 (List.range outs.length).all fun i => match outs[i]? with
  | some y => (List.range outs.length).all (fun k => match outs[k]? with | some z => decide (k = i) || !(Nat.beq z.1 y.1) | none => true) &&
    y.2.2.all fun u => !σ.has u.1 && (List.range outs.length).all fun k => decide (k = i) || (match outs[k]? with | some z => (!(z.has u.1) || memN (B k) i) && z.2.2.all (fun v => !(Nat.beq v.1 u.1)) | none => true)
  | none => true
theorem has_stL {L : Nat → Bool} {id : Nat} : ∀ (outs : List Out) (i : Nat) (σ : St), σ.has id = false → (∀ (j : Nat) (y : Out), outs[j]? = some y → L (i + j) = true → Out.has y id = false) → (stL L i outs σ).has id = false
 | [], _, _, h, _ => h
 | y :: r, i, σ, h, h' => by
  rw [stL]
  refine has_stL r (i + 1) _ ?_ fun j z hj hL => h' (j + 1) z (by simpa using hj) (by rw [show i + (j + 1) = i + 1 + j by omega]; exact hL)
  cases hL : L i with
  | false => exact h
  | true =>
   have h1 := h' 0 y rfl hL
   simp only [Out.has, Bool.or_eq_false_iff, List.any_eq_false] at h1
   simp only [St.has, Bool.or_eq_false_iff, List.any_eq_false] at h ⊢
   refine ⟨fun z hz => ?_, fun z hz => ?_⟩
   ·rcases List.mem_cons.1 hz with rfl | hz
    ·simpa using h1.1
    ·exact h.1 z hz
   ·have : z ∈ y.2.2.reverse ++ σ.res := by
     have key : ∀ (a b : List (Nat × R)), z ∈ addsR a b → z ∈ a.reverse ++ b := by
      intro a
      induction a with
      | nil => intro b h; exact List.mem_append.2 (.inr h)
      | cons c a ih => intro b h; have := ih _ h; simpa using this
     exact key _ _ hz
    rcases List.mem_append.1 this with hz | hz
    ·have := h1.2 z (by simpa using hz)
     simpa using this
    ·exact h.2 z hz
theorem Rel.of_look {w0 : Base} {w : World} {a : Act} {σ σ' : St} (h : Rel w0 σ a w) (hn : σ'.n = σ.n) (hs : ∀ i x, look σ'.slots i = some x → look σ.slots i = some x) (hr : ∀ i x, look σ'.res i = some x → look σ.res i = some x) : Rel w0 σ' a w := by
 obtain ⟨I, h⟩ := h
 exact ⟨I, h.ext, h.defers, h.size.trans hn.symm, fun i x hi => h.slots _ _ (hs i x hi), fun i r hi => h.res _ _ (hr i r hi), h.old, h.lt, fun i r hi => h.own _ _ (hr i r hi), h.apart⟩
theorem beq_false {i j : Nat} (h : i ≠ j) : Nat.beq i j = false := by
 cases hb : Nat.beq i j with
 | false => rfl
 | true => exact absurd (Nat.eq_of_beq_eq_true hb) h
theorem look_none_of {α : Type} : ∀ {l : List (Nat × α)} {t : Nat}, (∀ x ∈ l, x.1 ≠ t) → look l t = none
 | [], _, _ => rfl
 | (i, x) :: l, t, h => by rw [look_cons, if_neg (h (i, x) (by simp))]; exact look_none_of fun y hy => h y (by simp [hy])
theorem AW.draw {P : Program} {w0 : Base} {Q : Exit → St → Prop} {n : Nat} {sl : List (Nat × (Bool × S))} {rs : List (Nat × R)} {id : Nat} {l : List Oper} (N : Nat) (B : Nat → List Nat) (outs : List Out) (hm : P.follows .mixedOrders = true) (hB : planC l.toArray N = true) (hO : ordB l B N = true) (hl : outs.length = N)
  (hsteps : Steps P l.toArray B outs ⟨n, delS (outs.map (·.1)) sl, rs⟩ 0 l outs) (hU : outB B ⟨n, sl, rs⟩ outs = true) (hfin : AWl P w0 l.toArray Q (l.drop N) (stL (fun _ => true) 0 outs ⟨n, sl, rs⟩)) : AW P w0 (.region id l.toArray true) Q ⟨n, sl, rs⟩ := by
 intro a w hr
 refine wp_region_any hm ?_
 have hU' := List.all_eq_true.1 hU
 have dsl : ∀ (i : Nat) (y : Out), outs[i]? = some y → ∀ (k : Nat) (z : Out), outs[k]? = some z → z.1 = y.1 → k = i := by
  intro i y hi k z hk e
  have := hU' i (List.mem_range.2 (List.getElem?_eq_some_iff.1 hi).1)
  rw [hi] at this
  simp only [Bool.and_eq_true] at this
  have := List.all_eq_true.1 this.1 k (List.mem_range.2 (List.getElem?_eq_some_iff.1 hk).1)
  rw [hk] at this
  simp only [Bool.or_eq_true, decide_eq_true_eq, Bool.not_eq_true'] at this
  rcases this with h | h
  ·exact h
  ·rw [e, Nat.beq_refl] at h; cases h
 have ids : ∀ (i : Nat) (y : Out), outs[i]? = some y → ∀ u ∈ y.2.2, St.has ⟨n, sl, rs⟩ u.1 = false ∧ ∀ (k : Nat) (z : Out), outs[k]? = some z → k = i ∨ ((Out.has z u.1 = true → i ∈ B k) ∧ ∀ v ∈ z.2.2, v.1 ≠ u.1) := by
  intro i y hi u hu
  have := hU' i (List.mem_range.2 (List.getElem?_eq_some_iff.1 hi).1)
  rw [hi] at this
  simp only [Bool.and_eq_true] at this
  have := List.all_eq_true.1 this.2 u hu
  simp only [Bool.and_eq_true, Bool.not_eq_true'] at this
  refine ⟨this.1, fun k z hk => ?_⟩
  have := List.all_eq_true.1 this.2 k (List.mem_range.2 (List.getElem?_eq_some_iff.1 hk).1)
  rw [hk] at this
  simp only [Bool.or_eq_true, decide_eq_true_eq, Bool.and_eq_true, Bool.not_eq_true', List.all_eq_true] at this
  rcases this with h | ⟨h1, h2⟩
  ·exact .inl h
  ·refine .inr ⟨fun hz => ?_, fun v hv => beq_ne (h2 v hv)⟩
   rcases h1 with h1 | h1
   ·rw [hz] at h1; cases h1
   ·exact memN_iff.1 h1
 have hlN : N ≤ l.length := by
  simp only [planC, Bool.and_eq_true, decide_eq_true_eq] at hB
  simpa using hB.1.1.1
 have inB : ∀ (listed : Array Bool), HeadInv .any l.toArray N listed → ∀ i o, i < N → l[i]? = some o → (∀ j ∈ deps o, listed.getD j false = true) → ∀ j ∈ B i, listed.getD j false = true := by
  intro listed inv i o hi ho hd
  have hOi := List.all_eq_true.1 hO i (List.mem_range.2 hi)
  rw [ho] at hOi
  have hOi' := List.all_eq_true.1 hOi
  have key : ∀ d j, N - j ≤ d → j ∈ B i → listed.getD j false = true := by
   intro d
   induction d with
   | zero =>
    intro j hj hm
    have := hOi' j hm
    simp only [Bool.or_eq_true, List.contains_iff_mem, List.any_eq_true, Bool.and_eq_true, decide_eq_true_eq] at this
    rcases this with h | ⟨m, hmB, ⟨h1, h2⟩, h3⟩
    ·exact hd j h
    ·omega
   | succ d ih =>
    intro j hj hm
    have := hOi' j hm
    simp only [Bool.or_eq_true, List.contains_iff_mem, List.any_eq_true, Bool.and_eq_true, decide_eq_true_eq] at this
    rcases this with h | ⟨m, hmB, ⟨h1, h2⟩, h3⟩
    ·exact hd j h
    ·have hml := ih m (by omega) hmB
     cases hom : l[m]? with
     | none => rw [hom] at h3; cases h3
     | some om =>
      rw [hom] at h3
      simp only [List.contains_iff_mem] at h3
      obtain ⟨e, he, hb, rfl⟩ := mem_deps.1 h3
      exact inv.closed m om (by simpa using hom) hml e he hb
  exact fun j hm => key (N - j) j (Nat.le_refl _) hm
 have H := wpAny_inv (P := P) (Q := lift w0 Q) (J := fun listed a w => Rel w0 (stL (fun j => listed.getD j false) 0 outs ⟨n, sl, rs⟩) a w) hB (fun i o hi ho listed a w inv hd hu hJ => ?_) (fun listed a w hall hJ => ?_)
  (unl N (Array.replicate l.toArray.size false)) (Array.replicate l.toArray.size false) a { w with drawn := w.drawn + 1 } rfl
  ⟨by simp, fun j oj _ hl => (by rw [getD_replicate_false] at hl; cases hl), fun t _ ht => getD_in (by simpa using ht) (getD_replicate_false _ _)⟩ ?_
 ·have hu : unl N (Array.replicate l.toArray.size false) = N := by
   unfold unl
   rw [List.countP_eq_length.2 (fun j _ => by rw [getD_replicate_false]; rfl), List.length_range]
  rw [hu, show N + (l.toArray.size - N) = l.toArray.size by simp; omega] at H
  exact H
 · -- one step
  have ho' : l[i]? = some o := by simpa using ho
  obtain ⟨y, hy⟩ : ∃ y, outs[i]? = some y := ⟨outs[i]'(by omega), List.getElem?_eq_getElem _⟩
  have hloc := Steps.at l outs 0 hsteps i o y ho' hy
  rw [Nat.zero_add] at hloc
  have hBL := inB listed inv i o hi ho' hd
  have hsup : Sup (stL (memN (B i)) 0 outs ⟨n, delS (outs.map (·.1)) sl, rs⟩) (stL (fun j => listed.getD j false) 0 outs ⟨n, sl, rs⟩) := by
   refine ⟨by rw [stL_n, stL_n], fun t x hx => ?_, fun t x hx => ?_⟩
   ·by_cases hex : ∃ j z, outs[j]? = some z ∧ memN (B i) j = true ∧ z.1 = t
    ·obtain ⟨j, z, hz, hj, rfl⟩ := hex
     have e := stL_slot (L := memN (B i)) (t := z.1) outs 0 ⟨n, delS (outs.map (·.1)) sl, rs⟩ j z hz (by rw [Nat.zero_add]; exact hj) rfl rfl (fun k u hk e => dsl j z hz k u hk e)
     rw [hx] at e
     cases e
     exact stL_slot outs 0 _ j z hz (by rw [Nat.zero_add]; exact hBL j (memN_iff.1 hj)) rfl rfl fun k u hk e => dsl j z hz k u hk e
    ·rw [stL_slot_base outs 0 _ fun j z hz hj e => hex ⟨j, z, hz, by rw [Nat.zero_add] at hj; exact hj, e⟩, look_delS] at hx
     split at hx
     ·cases hx
     ·rename_i hnm
      rw [stL_slot_base outs 0 _ fun j z hz _ e => hnm (List.mem_map.2 ⟨z, List.mem_of_getElem? hz, e⟩)]
      exact hx
   ·by_cases hex : ∃ j z, outs[j]? = some z ∧ memN (B i) j = true ∧ ∃ u ∈ z.2.2, u.1 = t
    ·obtain ⟨j, z, hz, hj, u, hu, rfl⟩ := hex
     have uniq : ∀ (k : Nat) (z' : Out), outs[k]? = some z' → (∃ v ∈ z'.2.2, v.1 = u.1) → k = j := fun k z' hk ⟨v, hv, e⟩ => by
      rcases (ids j z hz u hu).2 k z' hk with h | ⟨_, h⟩
      ·exact h
      ·exact absurd e (h v hv)
     cases hlk : look z.2.2.reverse u.1 with
     | none =>
      exfalso
      have : ∀ (m : List (Nat × R)), u ∈ m → look m u.1 ≠ none := by
       intro m
       induction m with
       | nil => intro h; cases h
       | cons c m ih =>
        intro h
        obtain ⟨ci, cx⟩ := c
        rw [look_cons]
        split
        ·simp
        ·rename_i e
         rcases List.mem_cons.1 h with rfl | h
         ·exact absurd rfl e
         ·exact ih h
      exact this _ (by simpa using hu) hlk
     | some x' =>
      have e := stL_res (L := memN (B i)) outs 0 ⟨n, delS (outs.map (·.1)) sl, rs⟩ j z hz (by rw [Nat.zero_add]; exact hj) hlk uniq
      rw [hx] at e
      cases e
      exact stL_res outs 0 _ j z hz (by rw [Nat.zero_add]; exact hBL j (memN_iff.1 hj)) hlk uniq
    ·rw [stL_res_base outs 0 _ fun j z hz hj u hu e => hex ⟨j, z, hz, by rw [Nat.zero_add] at hj; exact hj, u, hu, e⟩] at hx
     rw [stL_res_base outs 0 _ fun j z hz _ u hu e => ?_]
     ·exact hx
     ·have := (ids j z hz u hu).1
      exact (St.has_res this (e ▸ hx)).1 rfl
  have hfresh : ∀ u ∈ y.2.2, (stL (fun j => listed.getD j false) 0 outs ⟨n, sl, rs⟩).has u.1 = false := by
   intro u hu'
   refine has_stL outs 0 _ (ids i y hy u hu').1 fun j z hz hL => ?_
   rw [Nat.zero_add] at hL
   cases hh : Out.has z u.1 with
   | false => rfl
   | true =>
    rcases (ids i y hy u hu').2 j z hz with rfl | ⟨h1, _⟩
    ·rw [hu] at hL; cases hL
    ·exfalso
     have hib := h1 hh
     have hjN : j < N := by rw [← hl]; exact (List.getElem?_eq_some_iff.1 hz).1
     have hoj : l[j]? = some (l[j]'(by omega)) := List.getElem?_eq_getElem _
     have := inB listed inv j _ hjN hoj (fun k hk => by
      obtain ⟨e, he, hb, rfl⟩ := mem_deps.1 hk
      exact inv.closed j _ (by simp) hL e he hb) i hib
     rw [hu] at this; cases this
  intro K Q' hK
  refine hloc _ hsup hfresh w0 a w hJ K Q' fun a' w' hr' => hK a' w' ?_
  have hget : ∀ j, (listed.setIfInBounds i true).getD j false = if j = i then true else listed.getD j false := by
   intro j
   by_cases e : j = i
   ·subst e
    have : j < listed.size := by rw [inv.size]; simp; omega
    simp [this]
   ·rw [if_neg e]; exact getD_set_ne false (fun h => e h.symm)
  refine Rel.of_look hr' (by rw [stL_n, stL_n]) (fun t x hx => ?_) (fun t x hx => ?_)
  ·show look ((y.1, y.2.1) :: _) t = some x
   rw [look_cons]
   by_cases e : y.1 = t
   ·rw [if_pos e]
    have := stL_slot (L := fun j => (listed.setIfInBounds i true).getD j false) outs 0 ⟨n, sl, rs⟩ i y hy (by rw [Nat.zero_add]; rw [hget, if_pos rfl]) e rfl fun k z hk e' => dsl i y hy k z hk (e'.trans e.symm)
    rw [this] at hx; exact hx
   ·rw [if_neg e]
    by_cases hex : ∃ j z, outs[j]? = some z ∧ listed.getD j false = true ∧ z.1 = t
    ·obtain ⟨j, z, hz, hj, rfl⟩ := hex
     have e1 := stL_slot (L := fun j => (listed.setIfInBounds i true).getD j false) outs 0 ⟨n, sl, rs⟩ j z hz (by rw [Nat.zero_add, hget]; split; rfl; exact hj) rfl rfl fun k u hk e => dsl j z hz k u hk e
     rw [e1] at hx
     cases hx
     exact stL_slot outs 0 _ j z hz (by rw [Nat.zero_add]; exact hj) rfl rfl fun k u hk e => dsl j z hz k u hk e
    ·rw [stL_slot_base outs 0 _ fun j z hz hj e' => hex ⟨j, z, hz, by rw [Nat.zero_add] at hj; exact hj, e'⟩]
     rw [stL_slot_base outs 0 _ fun j z hz hj e' => ?_] at hx
     ·exact hx
     ·rw [Nat.zero_add, hget] at hj
      split at hj
      ·rename_i e2; subst e2; rw [hy] at hz; cases hz; exact e e'
      ·exact hex ⟨j, z, hz, hj, e'⟩
  ·show look (addsR y.2.2 _) t = some x
   rw [look_addsR]
   by_cases hyt : ∃ u ∈ y.2.2, u.1 = t
   ·obtain ⟨u, hu', rfl⟩ := hyt
    have uniq : ∀ (k : Nat) (z' : Out), outs[k]? = some z' → (∃ v ∈ z'.2.2, v.1 = u.1) → k = i := fun k z' hk ⟨v, hv, e⟩ => by
     rcases (ids i y hy u hu').2 k z' hk with h | ⟨_, h⟩
     ·exact h
     ·exact absurd e (h v hv)
    cases hlk : look y.2.2.reverse u.1 with
    | none =>
     simp only
     rw [stL_res_base outs 0 _ fun j z hz hj v hv e' => ?_] at hx ⊢
     ·exact hx
     all_goals
      have := uniq j z hz ⟨v, hv, e'⟩
      subst this
      rw [hy] at hz; cases hz
      have hne : ∀ (m : List (Nat × R)), v ∈ m → look m v.1 ≠ none := by
       intro m
       induction m with
       | nil => intro h; cases h
       | cons c m ih =>
        intro h
        obtain ⟨ci, cx⟩ := c
        rw [look_cons]
        split
        ·simp
        ·rename_i e
         rcases List.mem_cons.1 h with rfl | h
         ·exact absurd rfl e
         ·exact ih h
      exact hne _ (by simpa using hv) (e' ▸ hlk)
    | some x' =>
     have := stL_res (L := fun j => (listed.setIfInBounds i true).getD j false) outs 0 ⟨n, sl, rs⟩ i y hy (by rw [Nat.zero_add]; rw [hget, if_pos rfl]) hlk uniq
     rw [this] at hx
     exact hx
   ·have hnone : look y.2.2.reverse t = none := look_none_of fun v hv e => hyt ⟨v, by simpa using hv, e⟩
    rw [hnone]
    simp only
    by_cases hex : ∃ j z, outs[j]? = some z ∧ listed.getD j false = true ∧ ∃ u ∈ z.2.2, u.1 = t
    ·obtain ⟨j, z, hz, hj, u, hu', rfl⟩ := hex
     have uniq : ∀ (k : Nat) (z' : Out), outs[k]? = some z' → (∃ v ∈ z'.2.2, v.1 = u.1) → k = j := fun k z' hk ⟨v, hv, e⟩ => by
      rcases (ids j z hz u hu').2 k z' hk with h | ⟨_, h⟩
      ·exact h
      ·exact absurd e (h v hv)
     cases hlk : look z.2.2.reverse u.1 with
     | none =>
      exfalso
      have hne : ∀ (m : List (Nat × R)), u ∈ m → look m u.1 ≠ none := by
       intro m
       induction m with
       | nil => intro h; cases h
       | cons c m ih =>
        intro h
        obtain ⟨ci, cx⟩ := c
        rw [look_cons]
        split
        ·simp
        ·rename_i e
         rcases List.mem_cons.1 h with rfl | h
         ·exact absurd rfl e
         ·exact ih h
      exact hne _ (by simpa using hu') hlk
     | some x' =>
      have e1 := stL_res (L := fun j => (listed.setIfInBounds i true).getD j false) outs 0 ⟨n, sl, rs⟩ j z hz (by rw [Nat.zero_add, hget]; split; rfl; exact hj) hlk uniq
      rw [e1] at hx
      cases hx
      exact stL_res outs 0 _ j z hz (by rw [Nat.zero_add]; exact hj) hlk uniq
    ·rw [stL_res_base outs 0 _ fun j z hz hj u hu' e' => hex ⟨j, z, hz, by rw [Nat.zero_add] at hj; exact hj, u, hu', e'⟩]
     rw [stL_res_base outs 0 _ fun j z hz hj u hu' e' => ?_] at hx
     ·exact hx
     ·rw [Nat.zero_add, hget] at hj
      split at hj
      ·rename_i e2; subst e2; rw [hy] at hz; cases hz; exact hyt ⟨u, hu', e'⟩
      ·exact hex ⟨j, z, hz, hj, u, hu', e'⟩
 · -- the end
  have e : stL (fun j => listed.getD j false) 0 outs ⟨n, sl, rs⟩ = stL (fun _ => true) 0 outs ⟨n, sl, rs⟩ := by
   have key : ∀ (os : List Out) (i : Nat) (σ : St), (∀ j, j < os.length → listed.getD (i + j) false = true) → stL (fun j => listed.getD j false) i os σ = stL (fun _ => true) i os σ := by
    intro os
    induction os with
    | nil => intro i σ _; rfl
    | cons y os ih =>
     intro i σ h
     rw [stL, stL]
     have h0 := h 0 (by simp)
     rw [Nat.add_zero] at h0
     simp only [h0, cond_true]
     exact ih (i + 1) _ fun j hj => by rw [show i + 1 + j = i + (j + 1) by omega]; exact h (j + 1) (by simp; omega)
   exact key outs 0 _ fun j hj => by rw [Nat.zero_add]; exact hall j (by omega)
  rw [e] at hJ
  exact hfin a w hJ
 ·have e : stL (fun j => (Array.replicate l.toArray.size false).getD j false) 0 outs ⟨n, sl, rs⟩ = ⟨n, sl, rs⟩ := by
   have key : ∀ (os : List Out) (i : Nat) (σ : St), stL (fun j => (Array.replicate l.toArray.size false).getD j false) i os σ = σ := by
    intro os
    induction os with
    | nil => intro i σ; rfl
    | cons y os ih =>
     intro i σ
     rw [stL, getD_replicate_false]
     exact ih (i + 1) σ
   exact key outs 0 _
  show Rel w0 (stL (fun j => (Array.replicate l.toArray.size false).getD j false) 0 outs ⟨n, sl, rs⟩) a _
  rw [e]
  obtain ⟨I, hI⟩ := hr
  exact ⟨I, hI.later (Ext.refl w).drawn⟩
end Go.Q
