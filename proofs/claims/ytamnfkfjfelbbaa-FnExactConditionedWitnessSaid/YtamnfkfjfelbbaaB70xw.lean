import Derived.Test.YtamnfkfjfelbbaaB67xw
import Derived.Test.YtamnfkfjfelbbaaB18xw
set_option linter.unusedVariables false
set_option linter.unusedSimpArgs false
set_option maxHeartbeats 1000000
set_option maxRecDepth 100000
namespace Go.Q
open Go.D
structure TNd where
 node : Int
 set : Nat
 from_ : Int
 step : TStep
def cNd (x : TNd) : List T := [.v (.int .i64 x.node), .v (.int .i64 (x.set : Int)), .v (.int .i64 x.from_), .v (.int .i64 x.step.Edge), .v (.bool x.step.Inverse)]
def keyN (x : TNd) : Int × Nat := (x.node, x.set)
def setOf (g : TGraph) (a : TAutomaton) (d : TNd) (y : TArc) : Nat := aftS a d.set (valAt g d.node) y.letter
def skipN (g : TGraph) (a : TAutomaton) (c : Int) (d : TNd) (y : TArc) : Bool := decide (setOf g a d y = 0) || !condOk c (valAt g d.node) (valAt g y.to)
def sameN (u : Int) (m : Nat) (e : TNd) : Bool := decide (e.node = u) && decide (e.set = m)
def addN (g : TGraph) (a : TAutomaton) (c : Int) (k : Nat) (d : TNd) (L : List TNd) (y : TArc) : List TNd :=
 if skipN g a c d y || L.any (sameN y.to (setOf g a d y)) then L else L ++ [⟨y.to, setOf g a d y, (k : Int), y.step⟩]
def expN (g : TGraph) (a : TAutomaton) (c : Int) (k : Nat) (d : TNd) (j : Nat) (L : List TNd) : List TNd := ((arcsAt g d.node).take j).foldl (addN g a c k d) L
def startN (a : TAutomaton) (x : Int) : TNd := ⟨x, 2 ^ a.Start.toNat, -1, ⟨0, false⟩⟩
def expAt (g : TGraph) (a : TAutomaton) (c x : Int) : Nat → List TNd
 | 0 => [startN a x]
 | k + 1 => match (expAt g a c x k)[k]? with
  | none => expAt g a c x k
  | some d => expN g a c k d (arcsAt g d.node).length (expAt g a c x k)
theorem expN_at {g : TGraph} {a : TAutomaton} {c : Int} {k : Nat} {d : TNd} {j : Nat} {y : TArc} (h : (arcsAt g d.node)[j]? = some y) (L : List TNd) : expN g a c k d (j + 1) L = addN g a c k d (expN g a c k d j L) y := by
 unfold expN; rw [take_at h, List.foldl_append]; rfl
theorem expAt_stay {g : TGraph} {a : TAutomaton} {c x : Int} {k : Nat} (h : (expAt g a c x k).length ≤ k) : ∀ m, k ≤ m → expAt g a c x m = expAt g a c x k := by
 intro m hm
 obtain ⟨d, rfl⟩ := Nat.le.dest hm
 clear hm
 induction d with
 | zero => rfl
 | succ d ih =>
  show expAt g a c x (k + d + 1) = _
  rw [expAt]
  rw [ih]
  rw [List.getElem?_eq_none (by omega)]
theorem addN_pre (g : TGraph) (a : TAutomaton) (c : Int) (k : Nat) (d : TNd) (L : List TNd) (y : TArc) : ∃ r, addN g a c k d L y = L ++ r := by
 unfold addN
 split
 · exact ⟨[], by simp⟩
 · exact ⟨_, rfl⟩
theorem expN_pre (g : TGraph) (a : TAutomaton) (c : Int) (k : Nat) (d : TNd) (L : List TNd) : ∀ l : List TArc, ∃ r, l.foldl (addN g a c k d) L = L ++ r := by
 intro l
 induction l generalizing L with
 | nil => exact ⟨[], by simp⟩
 | cons y l ih =>
  obtain ⟨r1, h1⟩ := addN_pre g a c k d L y
  obtain ⟨r2, h2⟩ := ih (addN g a c k d L y)
  exact ⟨r1 ++ r2, by rw [List.foldl_cons, h2, h1, List.append_assoc]⟩
theorem expN_get {g : TGraph} {a : TAutomaton} {c : Int} {k : Nat} {d : TNd} {j i : Nat} {L : List TNd} (hi : i < L.length) : (expN g a c k d j L)[i]? = L[i]? := by
 obtain ⟨r, h⟩ := expN_pre g a c k d L ((arcsAt g d.node).take j)
 unfold expN
 rw [h, List.getElem?_append_left hi]
structure ExI (g : TGraph) (a : TAutomaton) (c x : Int) (L : List TNd) : Prop where
 rch : ∀ d ∈ L, RchS g a c x d.node d.set
 nod : (L.map keyN).Nodup
theorem any_same {L : List TNd} {u : Int} {m : Nat} : L.any (sameN u m) = true ↔ (u, m) ∈ L.map keyN := by
 rw [List.any_eq_true]
 unfold sameN keyN
 simp only [Bool.and_eq_true, decide_eq_true_eq, List.mem_map, Prod.mk.injEq]
theorem skip_no {g : TGraph} {a : TAutomaton} {c : Int} {d : TNd} {y : TArc} (hy : y ∈ arcsAt g d.node) : skipN g a c d y = false ↔ y ∈ arcsC g c d.node ∧ setOf g a d y ≠ 0 := by
 unfold skipN arcsC
 rw [Bool.or_eq_false_iff, List.mem_filter]
 simp only [decide_eq_false_iff_not, Bool.not_eq_false', ne_eq]
 exact ⟨fun h => ⟨⟨hy, h.2⟩, h.1⟩, fun h => ⟨h.2, h.1.2⟩⟩
theorem ExI.add {g : TGraph} {a : TAutomaton} {c x : Int} {L : List TNd} (h : ExI g a c x L) {k : Nat} {d : TNd} (hd : RchS g a c x d.node d.set) {y : TArc} (hy : y ∈ arcsAt g d.node) : ExI g a c x (addN g a c k d L y) := by
 unfold addN
 split
 · exact h
 · rename_i hc
   simp only [Bool.or_eq_true, not_or, Bool.not_eq_true] at hc
   have h1 := (skip_no hy).1 hc.1
   refine ⟨fun e he => ?_, ?_⟩
   · rcases List.mem_append.1 he with he | he
     · exact h.rch e he
     · rw [List.mem_singleton] at he
       subst he
       exact .step hd h1.1 h1.2
   · rw [List.map_append, List.nodup_append]
     refine ⟨h.nod, by simp, fun z hz w hw e => ?_⟩
     rw [List.map_singleton, List.mem_singleton] at hw
     subst hw; subst e
     have : L.any (sameN y.to (setOf g a d y)) = true := any_same.2 hz
     rw [hc.2] at this; cases this
theorem ExI.adds {g : TGraph} {a : TAutomaton} {c x : Int} {k : Nat} {d : TNd} (hd : RchS g a c x d.node d.set) : ∀ {l : List TArc} {L : List TNd}, (∀ y ∈ l, y ∈ arcsAt g d.node) → ExI g a c x L → ExI g a c x (l.foldl (addN g a c k d) L)
 | [], _, _, h => h
 | y :: l, L, hl, h => ExI.adds hd (l := l) (fun z hz => hl z (by simp [hz])) (h.add hd (hl y (by simp)))
theorem ExI.expN {g : TGraph} {a : TAutomaton} {c x : Int} {k : Nat} {d : TNd} (hd : RchS g a c x d.node d.set) (j : Nat) {L : List TNd} (h : ExI g a c x L) : ExI g a c x (Go.Q.expN g a c k d j L) := ExI.adds hd (fun y hy => List.mem_of_mem_take hy) h
theorem ExI.at (g : TGraph) (a : TAutomaton) (c x : Int) : ∀ k, ExI g a c x (expAt g a c x k)
 | 0 => ⟨fun d hd => by rw [expAt, List.mem_singleton] at hd; subst hd; exact .start, by simp [expAt]⟩
 | k + 1 => by
  rw [expAt]
  have ih := ExI.at g a c x k
  split
  · exact ih
  · rename_i d hd
    exact ih.expN (ih.rch d (List.mem_of_getElem? hd)) _
def clsd (g : TGraph) (a : TAutomaton) (c : Int) (L : List TNd) (d : TNd) (l : List TArc) : Prop := ∀ y ∈ l, skipN g a c d y = false → (y.to, setOf g a d y) ∈ L.map keyN
theorem clsd.more {g : TGraph} {a : TAutomaton} {c : Int} {L r : List TNd} {d : TNd} {l : List TArc} (h : clsd g a c L d l) : clsd g a c (L ++ r) d l := fun y hy hs => by
 rw [List.map_append]; exact List.mem_append.2 (.inl (h y hy hs))
theorem clsd_add (g : TGraph) (a : TAutomaton) (c : Int) (k : Nat) (d : TNd) (L : List TNd) (y : TArc) (hs : skipN g a c d y = false) : (y.to, setOf g a d y) ∈ (addN g a c k d L y).map keyN := by
 unfold addN
 rw [hs, Bool.false_or]
 split
 · rename_i h; exact any_same.1 h
 · rw [List.map_append]; exact List.mem_append.2 (.inr (by simp [keyN]))
theorem clsd_adds {g : TGraph} {a : TAutomaton} {c : Int} {k : Nat} {d : TNd} : ∀ (l : List TArc) (L : List TNd), clsd g a c (l.foldl (addN g a c k d) L) d l
 | [], _ => fun y hy => by cases hy
 | z :: l, L => fun y hy hs => by
  rw [List.foldl_cons]
  rcases List.mem_cons.1 hy with rfl | hy
  · have h1 := clsd_add g a c k d L y hs
    obtain ⟨r, h2⟩ := expN_pre g a c k d (addN g a c k d L y) l
    rw [h2, List.map_append]
    exact List.mem_append.2 (.inl h1)
  · exact clsd_adds l _ y hy hs
theorem clsd_at {g : TGraph} {a : TAutomaton} {c x : Int} : ∀ {k i : Nat} {d : TNd}, i < k → (expAt g a c x k)[i]? = some d → clsd g a c (expAt g a c x k) d (arcsAt g d.node)
 | k + 1, i, d, hi, hd => by
  rw [expAt] at hd ⊢
  split at hd
  · rename_i h
    have hik : i < k := by
     have := (List.getElem?_eq_some_iff.1 hd).1
     have := List.getElem?_eq_none_iff.1 h
     omega
    exact clsd_at hik hd
  · rename_i e he
    have hk := (List.getElem?_eq_some_iff.1 he).1
    rw [expN_get (by omega)] at hd
    by_cases hik : i = k
    · subst hik
      rw [he] at hd
      cases hd
      unfold expN
      rw [List.take_of_length_le (Nat.le_refl _)]
      exact clsd_adds _ _
    · have h1 := clsd_at (k := k) (i := i) (by omega) hd
      obtain ⟨r, h2⟩ := expN_pre g a c k e (expAt g a c x k) ((arcsAt g e.node).take (arcsAt g e.node).length)
      show clsd g a c (List.foldl _ _ _) d _
      rw [h2]
      exact h1.more
theorem exp_all {g : TGraph} {a : TAutomaton} {c x : Int} {k : Nat} (h : (expAt g a c x k).length ≤ k) {u : Int} {m : Nat} (hr : RchS g a c x u m) : (u, m) ∈ (expAt g a c x k).map keyN := by
 induction hr with
 | start =>
  have : ∀ k, (expAt g a c x k)[0]? = some (startN a x) := by
   intro k
   induction k with
   | zero => rfl
   | succ k ih =>
    rw [expAt]
    split
    · exact ih
    · rw [expN_get (by have := (List.getElem?_eq_some_iff.1 ih).1; omega)]; exact ih
  exact List.mem_map.2 ⟨_, List.mem_of_getElem? (this k), rfl⟩
 | @step u m y _ hy hn ih =>
  obtain ⟨d, hd, e⟩ := List.mem_map.1 ih
  unfold keyN at e
  cases e
  obtain ⟨i, hi⟩ := List.getElem?_of_mem hd
  have hil := (List.getElem?_eq_some_iff.1 hi).1
  have hya := (List.mem_filter.1 hy).1
  exact clsd_at (by omega) hi y hya ((skip_no hya).2 ⟨hy, hn⟩)
theorem ExI.len {g : TGraph} {a : TAutomaton} (ha : validA a = true) (hg : validG g = true) {c x : Int} (hx : 0 ≤ x ∧ x < g.Values.length) {L : List TNd} (h : ExI g a c x L) : L.length ≤ 20480 := by
 have hG := validG_len hg
 have hP := pow_le_12 ha
 have h1 : ((L.map keyN).map fun p : Int × Nat => p.1.toNat * 2 ^ a.Accept.length + p.2).Nodup := by
  refine List.pairwise_map.2 (List.Pairwise.imp_of_mem ?_ h.nod)
  intro p q hp hq hne e
  refine hne ?_
  obtain ⟨d, hd, rfl⟩ := List.mem_map.1 hp
  obtain ⟨d', hd', rfl⟩ := List.mem_map.1 hq
  have r1 := (h.rch d hd).rng ha hg hx
  have r2 := (h.rch d' hd').rng ha hg hx
  have i1 := div_idx (x := d.node.toNat) r1.2
  have i2 := div_idx (x := d'.node.toNat) r2.2
  have e : d.node.toNat * 2 ^ a.Accept.length + d.set = d'.node.toNat * 2 ^ a.Accept.length + d'.set := e
  have e1 : d.node.toNat = d'.node.toNat := by rw [← i1.1, ← i2.1, e]
  have e2 : d.set = d'.set := by rw [← i1.2, ← i2.2, e]
  unfold keyN
  rw [Prod.mk.injEq]
  exact ⟨by omega, e2⟩
 have h2 := nodup_le (r := List.range (g.Values.length * 2 ^ a.Accept.length)) h1 (fun z hz => by
  obtain ⟨p, hp, rfl⟩ := List.mem_map.1 hz
  obtain ⟨d, hd, rfl⟩ := List.mem_map.1 hp
  have r1 := (h.rch d hd).rng ha hg hx
  refine List.mem_range.2 ?_
  show d.node.toNat * 2 ^ a.Accept.length + d.set < _
  have h3 : (d.node.toNat + 1) * 2 ^ a.Accept.length ≤ g.Values.length * 2 ^ a.Accept.length := Nat.mul_le_mul_right _ (by omega)
  rw [Nat.succ_mul] at h3
  omega)
 rw [List.length_map, List.length_map, List.length_range] at h2
 have h4 : g.Values.length * 2 ^ a.Accept.length ≤ 5 * 4096 := Nat.mul_le_mul hG.2.1 hP
 omega
def expL (g : TGraph) (a : TAutomaton) (c x : Int) : List TNd := expAt g a c x (20480 + x.toNat)
theorem expL_eq {g : TGraph} {a : TAutomaton} {c x : Int} {k : Nat} (hk : k ≤ 20480) (h : (expAt g a c x k).length ≤ k) : expL g a c x = expAt g a c x k := by unfold expL; exact expAt_stay h _ (by omega)
theorem expK_mem {g : TGraph} {a : TAutomaton} (ha : validA a = true) (hg : validG g = true) {c x : Int} (hx : 0 ≤ x ∧ x < g.Values.length) {u : Int} {m K : Nat} (hK : 20480 ≤ K) : (u, m) ∈ (expAt g a c x K).map keyN ↔ RchS g a c x u m := by
 have hI := ExI.at g a c x K
 constructor
 · intro h
   obtain ⟨d, hd, e⟩ := List.mem_map.1 h
   unfold keyN at e
   cases e
   exact hI.rch d hd
 · exact fun h => exp_all (Nat.le_trans (hI.len ha hg hx) hK) h
theorem expL_mem {g : TGraph} {a : TAutomaton} (ha : validA a = true) (hg : validG g = true) {c x : Int} (hx : 0 ≤ x ∧ x < g.Values.length) {u : Int} {m : Nat} : (u, m) ∈ (expL g a c x).map keyN ↔ RchS g a c x u m := by
 unfold expL
 exact expK_mem ha hg hx (Nat.le_add_right _ _)
theorem expL_len {g : TGraph} {a : TAutomaton} (ha : validA a = true) (hg : validG g = true) {c x : Int} (hx : 0 ≤ x ∧ x < g.Values.length) : (expL g a c x).length ≤ 20480 := by
 unfold expL
 exact (ExI.at g a c x _).len ha hg hx
def endN (g : TGraph) (a : TAutomaton) (d : TNd) : Bool := accS a d.set (valAt g d.node)
end Go.Q
