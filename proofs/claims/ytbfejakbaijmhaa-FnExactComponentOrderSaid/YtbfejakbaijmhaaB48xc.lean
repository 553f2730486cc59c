/- The order of the components: the plain law. -/
import Derived.Test.YtbfejakbaijmhaaB38xc
import Derived.Test.YtbfejakbaijmhaaB47xc
set_option linter.unusedVariables false
set_option linter.unusedSimpArgs false
set_option maxHeartbeats 1000000
set_option maxRecDepth 100000
namespace Go.Q
open Go.D
section
variable {rel : Nat → Nat → Bool}
theorem cntRep_lt {i j : Nat} (h : isRep rel i = true) (hij : i < j) : cntRep rel i < cntRep rel j := by
  have h1 := cntRep_succ (rel := rel) i
  rw [if_pos h] at h1
  have := cntRep_mono (rel := rel) (i := i + 1) (j := j) (by omega)
  omega
theorem repOf_rel (i : Nat) : repOf rel i = i ∨ rel i (repOf rel i) = true := by
  rcases repOf_spec (rel := rel) i with h | h
  · exact .inl h.2
  · exact .inr h.2.1
theorem numOf_inj (hs : ∀ a b, rel a b = true → rel b a = true) (ht : ∀ a b c, rel a b = true → rel b c = true → rel a c = true) {i k : Nat} (h : numOf rel i = numOf rel k) : i = k ∨ rel i k = true := by
  unfold numOf at h
  have h1 := repOf_rep ht i
  have h2 := repOf_rep ht k
  have e : repOf rel i = repOf rel k := by
    rcases Nat.lt_trichotomy (repOf rel i) (repOf rel k) with h3 | h3 | h3
    · have := cntRep_lt h1 h3; omega
    · exact h3
    · have := cntRep_lt h2 h3; omega
  rcases repOf_rel (rel := rel) i with h3 | h3
  · rcases repOf_rel (rel := rel) k with h4 | h4
    · exact .inl (by omega)
    · exact .inr (by rw [h3] at e; rw [← e] at h4; exact hs _ _ h4)
  · rcases repOf_rel (rel := rel) k with h4 | h4
    · exact .inr (by rw [e, h4] at h3; exact h3)
    · exact .inr (by rw [e] at h3; exact ht _ _ _ h3 (hs _ _ h4))
theorem numOf_rel (hs : ∀ a b, rel a b = true → rel b a = true) (ht : ∀ a b c, rel a b = true → rel b c = true → rel a c = true) {i k : Nat} (h : rel i k = true) : numOf rel i = numOf rel k := by
  rcases Nat.lt_trichotomy i k with h1 | rfl | h1
  · unfold numOf; rw [repOf_same hs ht (hs _ _ h) h1]
  · rfl
  · unfold numOf; rw [repOf_same hs ht h h1]
theorem numOf_surj (ht : ∀ a b c, rel a b = true → rel b c = true → rel a c = true) : ∀ {N c : Nat}, c < cntRep rel N → ∃ i, i < N ∧ numOf rel i = c
  | 0, c, h => by simp [cntRep] at h
  | N + 1, c, h => by
    rw [cntRep_succ] at h
    by_cases h1 : c < cntRep rel N
    · obtain ⟨i, hi, e⟩ := numOf_surj ht h1
      exact ⟨i, by omega, e⟩
    · cases hr : isRep rel N with
      | true => rw [hr, if_pos rfl] at h; exact ⟨N, by omega, by rw [numOf_rep hr]; omega⟩
      | false => rw [hr] at h; simp only [Bool.false_eq_true, if_false] at h; omega
end
/-! ### An order in which nothing comes ahead of what leads to it -/
structure OrdF (N n : Nat) (C : Nat → Int) (r : Nat → Nat → Bool) (e : Nat → Nat → Prop) : Prop where
  tr : ∀ a b c, a < N → b < N → c < N → r a b = true → r b c = true → r a c = true
  ed : ∀ a b, a < N → b < N → e a b → r a b = true
  pa : ∀ a b, a < N → b < N → r a b = true → ∀ Q : Nat → Prop, (∀ x y, x < N → y < N → e x y → Q y → Q x) → Q b → Q a
  co : ∀ a b, a < N → b < N → (C a = C b ↔ a = b ∨ (r a b = true ∧ r b a = true))
  su : ∀ c : Nat, c < n → ∃ i, i < N ∧ C i = (c : Int)
  lt : ∀ a, a < N → 0 ≤ C a ∧ C a < n
structure OI (N n : Nat) (C : Nat → Int) (r : Nat → Nat → Bool) (out : List Int) : Prop where
  nd : out.Nodup
  rg : ∀ c ∈ out, 0 ≤ c ∧ c < n
  cl : ∀ c ∈ out, ∀ i k, i < N → k < N → C k = c → r i k = true → C i ∈ out
def freeS (N : Nat) (C : Nat → Int) (r : Nat → Nat → Bool) (out : List Int) (c : Int) : Prop := c ∉ out ∧ ∀ i k, i < N → k < N → C k = c → C i ≠ c → r i k = true → C i ∈ out
def freeI (N : Nat) (C : Nat → Int) (e : Nat → Nat → Prop) (out : List Int) (c : Int) : Prop := c ∉ out ∧ ∀ i k, i < N → k < N → C i ≠ c → C i ∉ out → e i k → C k ≠ c
section
variable {N n : Nat} {C : Nat → Int} {r : Nat → Nat → Bool} {e : Nat → Nat → Prop} {out : List Int} {c : Int}
theorem free_iff (F : OrdF N n C r e) (h : OI N n C r out) : freeS N C r out c ↔ freeI N C e out c := by
  constructor
  · rintro ⟨h1, h2⟩
    exact ⟨h1, fun i k hi hk a1 a2 a3 a4 => a2 (h2 i k hi hk a4 a1 (F.ed i k hi hk a3))⟩
  · rintro ⟨h1, h2⟩
    refine ⟨h1, fun i k hi hk a1 a2 a3 => ?_⟩
    have := F.pa i k hi hk a3 (fun x => C x = c ∨ C x ∈ out) (fun x y hx hy exy hq => by
      by_cases g : C x = c
      · exact .inl g
      · by_cases g2 : C x ∈ out
        · exact .inr g2
        · rcases hq with hq | hq
          · exact absurd hq (h2 x y hx hy g g2 exy)
          · exact .inr (h.cl _ hq x y hx hy rfl (F.ed x y hx hy exy))) (.inl a1)
    exact this.resolve_left a2
theorem OI.add (h : OI N n C r out) (hf : freeS N C r out c) (hc : 0 ≤ c ∧ c < n) : OI N n C r (out ++ [c]) := by
  refine ⟨?_, fun d hd => ?_, fun d hd i k hi hk a1 a2 => ?_⟩
  · rw [List.nodup_append]
    refine ⟨h.nd, by simp, fun a ha b hb => ?_⟩
    rw [List.mem_singleton] at hb
    subst hb
    exact fun e => hf.1 (by rw [← e]; exact ha)
  · rcases List.mem_append.1 hd with hd | hd
    · exact h.rg d hd
    · rw [List.mem_singleton] at hd; subst hd; exact hc
  · rw [List.mem_append, List.mem_singleton]
    rcases List.mem_append.1 hd with hd | hd
    · exact .inl (h.cl d hd i k hi hk a1 a2)
    · rw [List.mem_singleton] at hd
      subst hd
      by_cases g : C i = d
      · exact .inr g
      · exact .inl (hf.2 i k hi hk a1 g a2)
theorem free_some (F : OrdF N n C r e) : ∀ (m i : Nat), i < N → C i ∉ out → (List.range N).countP (fun p => decide (p = i) || r p i) ≤ m → ∃ c : Nat, c < n ∧ freeS N C r out (c : Int)
  | m, i, hi, ho, hm => by
    have hl := F.lt i hi
    by_cases hf : freeS N C r out (C i)
    · exact ⟨(C i).toNat, by omega, by rw [Int.toNat_of_nonneg hl.1]; exact hf⟩
    · have hx : ∃ j k, j < N ∧ k < N ∧ C k = C i ∧ C j ≠ C i ∧ r j k = true ∧ C j ∉ out := Classical.byContradiction fun hno => hf ⟨ho, fun j k hj hk a1 a2 a3 => Classical.byContradiction fun a4 => hno ⟨j, k, hj, hk, a1, a2, a3, a4⟩⟩
      obtain ⟨j, k, hj, hk, a1, a2, a3, a4⟩ := hx
      have hji : r j i = true := by
        rcases (F.co k i hk hi).1 a1 with rfl | h
        · exact a3
        · exact F.tr j k i hj hk hi a3 h.1
      have hlt := countP_lt (p := fun p => decide (p = j) || r p j) (q := fun p => decide (p = i) || r p i) (a := i) (l := List.range N) (fun p hp hpj => by
        have hp := List.mem_range.1 hp
        simp only [Bool.or_eq_true, decide_eq_true_eq] at hpj ⊢
        rcases hpj with rfl | hpj
        · exact .inr hji
        · exact .inr (F.tr p j i hp hj hi hpj hji)) (List.mem_range.2 hi) (by
        simp only [Bool.or_eq_false_iff, decide_eq_false_iff_not]
        refine ⟨fun e => a2 (by rw [e]), ?_⟩
        cases hr : r i j with
        | false => rfl
        | true => exact absurd ((F.co i j hi hj).2 (.inr ⟨hr, hji⟩)).symm a2) (by simp)
      match m with
      | 0 => omega
      | m + 1 => exact free_some F m j hj a4 (by omega)
theorem free_ex (F : OrdF N n C r e) (h : OI N n C r out) (hl : out.length < n) : ∃ c : Nat, c < n ∧ freeS N C r out (c : Int) := by
  have : ∃ c : Nat, c < n ∧ (c : Int) ∉ out := Classical.byContradiction fun hno => by
    have := nodup_le (l := (List.range n).map fun (c : Nat) => (c : Int)) (r := out) (by
      rw [List.nodup_iff_pairwise_ne, List.pairwise_map]
      exact List.Pairwise.imp (fun h e => by omega) List.pairwise_lt_range) fun x hx => by
      obtain ⟨c, hc, rfl⟩ := List.mem_map.1 hx
      exact Classical.byContradiction fun hn => hno ⟨c, List.mem_range.1 hc, hn⟩
    simp at this; omega
  obtain ⟨c, hc, ho⟩ := this
  obtain ⟨i, hi, he⟩ := F.su c hc
  exact free_some F _ i hi (by rw [he]; exact ho) (Nat.le_refl _)
end
def ordG (p : List Int → Nat → Bool) (n : Nat) : Nat → List Int → List Int
  | 0, out => out
  | f + 1, out => match (List.range n).find? (p out) with
    | some c => ordG p n f (out ++ [(c : Int)])
    | none => out
theorem find_range {p : Nat → Bool} {n c : Nat} (hc : c < n) (h : p c = true) (hno : ∀ d, d < c → p d = false) : (List.range n).find? p = some c := by
  rw [List.find?_eq_some_iff_append]
  refine ⟨h, List.range c, (List.range (n - c)).tail.map (c + ·), ?_, fun d hd => by rw [hno d (List.mem_range.1 hd)]; rfl⟩
  obtain ⟨m, rfl⟩ : ∃ m, n = c + 1 + m := ⟨n - (c + 1), by omega⟩
  rw [show c + 1 + m - c = m + 1 by omega, List.range_succ_eq_map, List.tail_cons, List.map_map, Nat.add_assoc, List.range_add, Nat.add_comm 1 m, List.range_succ_eq_map, List.map_cons, List.map_map]
  simp
theorem ordG_on {p : List Int → Nat → Bool} {n c : Nat} {out : List Int} (hl : out.length < n) (hc : c < n) (h : p out c = true) (hno : ∀ d, d < c → p out d = false) : ordG p n (n - out.length) out = ordG p n (n - (out ++ [(c : Int)]).length) (out ++ [(c : Int)]) := by
  obtain ⟨f, hf⟩ : ∃ f, n - out.length = f + 1 := ⟨n - out.length - 1, by omega⟩
  rw [hf, ordG, find_range hc h hno, List.length_append, List.length_singleton, show n - (out.length + 1) = f by omega]
theorem ordG_len (p : List Int → Nat → Bool) (n : Nat) : ∀ (f : Nat) (out : List Int), (ordG p n f out).length ≤ out.length + f
  | 0, out => Nat.le_refl _
  | f + 1, out => by
    rw [ordG]
    split
    · rename_i c _
      have := ordG_len p n f (out ++ [(c : Int)])
      rw [List.length_append, List.length_singleton] at this
      omega
    · omega
/-! ### The product's -/
def freeB (N : Nat) (C : Nat → Int) (r : Nat → Nat → Bool) (out : List Int) (c : Int) : Bool := !decide (c ∈ out) && (List.range N).all fun i => (List.range N).all fun k => !(decide (C k = c) && (!decide (C i = c) && (r i k && !decide (C i ∈ out))))
def entB (next : List (List Int)) (C : Nat → Int) (out : List Int) (c : Int) : Bool := (List.range next.length).any fun i => !decide (C i = c) && (!decide (C i ∈ out) && (nxL next i).any fun k => decide (C k.toNat = c))
theorem freeB_iff {N : Nat} {C : Nat → Int} {r : Nat → Nat → Bool} {out : List Int} {c : Int} : freeB N C r out c = true ↔ freeS N C r out c := by
  unfold freeB freeS
  simp only [Bool.and_eq_true, Bool.not_eq_true', decide_eq_false_iff_not, List.all_eq_true, List.mem_range, Bool.and_eq_false_iff, Bool.not_eq_false', decide_eq_true_eq]
  constructor
  · rintro ⟨h1, h2⟩
    refine ⟨h1, fun i k hi hk a1 a2 a3 => ?_⟩
    rcases h2 i hi k hk with h | h | h | h
    · exact absurd a1 h
    · exact absurd h a2
    · rw [h] at a3; cases a3
    · exact h
  · rintro ⟨h1, h2⟩
    refine ⟨h1, fun i hi k hk => ?_⟩
    by_cases g1 : C k = c
    · by_cases g2 : C i = c
      · exact .inr (.inl g2)
      · cases g3 : r i k with
        | false => exact .inr (.inr (.inl rfl))
        | true => exact .inr (.inr (.inr (h2 i k hi hk g1 g2 g3)))
    · exact .inl g1
theorem entB_iff {next : List (List Int)} (hn : ∀ p, p < next.length → ∀ k ∈ nxL next p, 0 ≤ k ∧ k < next.length) {C : Nat → Int} {out : List Int} {c : Int} : (!decide (c ∈ out) && !entB next C out c) = true ↔ freeI next.length C (fun i k => (k : Int) ∈ nxL next i) out c := by
  unfold entB freeI
  simp only [Bool.and_eq_true, Bool.not_eq_true', decide_eq_false_iff_not, List.any_eq_false, List.mem_range, Bool.not_eq_true, Bool.and_eq_false_iff, Bool.not_eq_false', decide_eq_true_eq]
  constructor
  · rintro ⟨h1, h2⟩
    exact ⟨h1, fun i k hi hk a1 a2 a3 hc => h2 i hi ⟨a1, a2, List.any_eq_true.2 ⟨_, a3, by simpa using hc⟩⟩⟩
  · rintro ⟨h1, h2⟩
    refine ⟨h1, fun i hi => ?_⟩
    rintro ⟨g1, g2, g3⟩
    obtain ⟨k, hk, hd⟩ := List.any_eq_true.1 g3
    have hb := hn i hi k hk
    exact h2 i k.toNat hi (by omega) g1 g2 (by rwa [Int.toNat_of_nonneg hb.1]) (of_decide_eq_true hd)
end Go.Q
namespace Go.Q
open Go.D
theorem ordF {next : List (List Int)} (hn : ∀ p, p < next.length → ∀ k ∈ nxL next p, 0 ≤ k ∧ k < next.length) : OrdF next.length (cntRep (relN next) next.length) (fun p => ((numOf (relN next) p : Nat) : Int)) (fun i k => (wK (nxL next) next.length i).testBit k) (fun i k => (k : Int) ∈ nxL next i) := by
  have hn0 : ∀ p, ∀ k ∈ nxL next p, 0 ≤ k ∧ k < next.length := fun p k hk => by
    by_cases hp : p < next.length
    · exact hn p hp k hk
    · unfold nxL at hk; rw [List.getElem?_eq_none (by omega)] at hk; cases hk
  have hs := relN_symm next
  have ht := relN_trans hn
  refine ⟨fun a b c _ hb _ h1 h2 => wK_trans _ _ b a c hb h1 h2, fun a b _ _ h => wK_more _ _ _ _ ((wB_test (fun k hk => (hn0 a k hk).1) b).2 h), fun a b ha hb h Q hQ hq => ?_, fun a b _ _ => ?_, fun c hc => ?_, fun a ha => ?_⟩
  · have h1 := wK_sound (fun p k hk => (hn0 p k hk).1) _ _ _ h
    unfold R1 at h1
    have key : ∀ q : Int, Rch (nxL next) (· ∈ nxL next a) q → Q q.toNat → Q a := by
      intro q hr
      induction hr with
      | base hq0 => intro h; have := hn0 _ _ hq0; exact hQ _ _ ha (by omega) (by rw [Int.toNat_of_nonneg this.1]; exact hq0) h
      | @step q k hr hk ih =>
        intro h
        have h1 := hn0 _ _ hk
        have hqN : q.toNat < next.length := by
          rcases Nat.lt_or_ge q.toNat next.length with h2 | h2
          · exact h2
          · unfold nxL at hk; rw [List.getElem?_eq_none (by omega)] at hk; cases hk
        exact ih (hQ _ _ hqN (by omega) (by rw [Int.toNat_of_nonneg h1.1]; exact hk) h)
    exact key _ h1 (by simpa using hq)
  · constructor
    · intro h
      rcases numOf_inj hs ht (by omega : numOf (relN next) a = numOf (relN next) b) with h | h
      · exact .inl h
      · unfold relN at h; rw [Bool.and_eq_true] at h; exact .inr h
    · rintro (rfl | h)
      · rfl
      · have := numOf_rel hs ht (i := a) (k := b) (by unfold relN; rw [Bool.and_eq_true]; exact h)
        first | omega | (simp only; omega)
  · obtain ⟨i, hi, h⟩ := numOf_surj ht hc
    exact ⟨i, hi, by first | omega | (simp only; omega)⟩
  · have h1 := numOf_lt ht a
    have h2 := cntRep_mono (rel := relN next) (i := a + 1) (j := next.length) (by omega)
    first | omega | (simp only; omega)
def ordOf (g : TGraph) (a : TAutomaton) : List Int := if goodC g a then ordG (fun out (c : Nat) => freeB (NP g a) (fun p => ((numOf (relN (nextsV g a)) p : Nat) : Int)) (fun i k => (wK (nxL (nextsV g a)) (NP g a) i).testBit k) out c) (cntOf g a) (cntOf g a) [] else []
end Go.Q
