import Derived.Test.YtamnfkfjfelbbaaB56xw
set_option linter.unusedVariables false
set_option linter.unusedSimpArgs false
set_option maxHeartbeats 1000000
set_option maxRecDepth 100000
namespace Go.Q
open Go.D
def condOk (c v w : Int) : Bool := if c = 0 then true else if c = 1 then decide (v = w) else if c = 2 then decide (v ≤ w) else if c = 3 then decide (v < w) else if c = 4 then !decide (v = w) else false
def valAt (g : TGraph) (x : Int) : Int := g.Values[x.toNat]?.getD 0
def arcsC (g : TGraph) (c x : Int) : List TArc := (arcsAt g x).filter fun y => condOk c (valAt g x) (valAt g y.to)
def nxC (g : TGraph) (a : TAutomaton) (c : Int) (i : Nat) : List Int := (arcsC g c ((i / a.Accept.length : Nat) : Int)).flatMap (vertN a ((i % a.Accept.length : Nat) : Int) (valAt g ((i / a.Accept.length : Nat) : Int)))
def nextC (g : TGraph) (a : TAutomaton) (c : Int) : List (List Int) := (List.range (NP g a)).map (nxC g a c)
theorem nextC_len (g : TGraph) (a : TAutomaton) (c : Int) : (nextC g a c).length = NP g a := by unfold nextC; simp
theorem nextC_at {g : TGraph} {a : TAutomaton} {c : Int} {p : Nat} (h : p < NP g a) : nxL (nextC g a c) p = nxC g a c p := nxL_at (by unfold nextC; exact range_get _ h)
theorem nxC_sub {g : TGraph} {a : TAutomaton} {c : Int} {i : Nat} : ∀ k ∈ nxC g a c i, k ∈ nxN g a i := by
 intro k hk
 unfold nxC at hk
 obtain ⟨y, hy, hk⟩ := List.mem_flatMap.1 hk
 unfold nxN nextsOf
 exact List.mem_flatMap.2 ⟨y, (List.mem_filter.1 hy).1, hk⟩
theorem nxC_ok {g : TGraph} {a : TAutomaton} (ha : validA a = true) (hg : validG g = true) {c : Int} {p : Nat} (hp : p < NP g a) : ∀ k ∈ nxC g a c p, 0 ≤ k ∧ k < (NP g a : Int) := fun k hk => nxN_ok ha hg hp k (nxC_sub k hk)
theorem nextC_ok {g : TGraph} {a : TAutomaton} (ha : validA a = true) (hg : validG g = true) (c : Int) : ∀ p, p < (nextC g a c).length → ∀ k ∈ nxL (nextC g a c) p, 0 ≤ k ∧ k < (nextC g a c).length := fun p hp k hk => by
 rw [nextC_len] at hp ⊢
 rw [nextC_at hp] at hk
 exact nxC_ok ha hg hp k hk
def distC (g : TGraph) (a : TAutomaton) (c y v : Int) : List Int := spreadOf (nxL (turnedL (nextC g a c))) (turnedL (nextC g a c)).length (goalsL a y v)
theorem toC_ok {g : TGraph} {a : TAutomaton} (ha : validA a = true) (hg : validG g = true) (c : Int) {y v : Int} (hy : 0 ≤ y ∧ y < g.Values.length) (hv : g.Values[y.toNat]? = some v) : (distC g a c y v).length = NP g a ∧ ∀ i, i < NP g a → (0 ≤ atI (distC g a c y v) (i : Int) ↔ CanR (nxC g a c) (goalOf g a y) i) := by
 have hnl : (nextC g a c).length = NP g a := nextC_len g a c
 have htl : (turnedL (nextC g a c)).length = NP g a := by rw [turnedL_len, hnl]
 have hl : (distC g a c y v).length = NP g a := by unfold distC; rw [(spread_ok (fun p hp k hk => by rw [turnedL_len] at hp ⊢; exact turnedL_ok p hp k hk) (by rw [htl]; exact goals_rng ha hy)).1, htl]
 refine ⟨hl, fun i hi => ?_⟩
 have h1 := spread_vis (nx := nxL (turnedL (nextC g a c))) (N := (turnedL (nextC g a c)).length) (fun p hp k hk => by rw [turnedL_len] at hp ⊢; exact turnedL_ok p hp k hk) (l := goalsL a y v) (by rw [htl]; exact goals_rng ha hy) (j := (i : Int))
 have h2 := turned_can (next := nextC g a c) (nextC_ok ha hg c) (gl := goalsL a y v) (G := goalOf g a y) (fun j hj => goals_iff ha hy.1 hv (by rw [← hnl]; exact hj)) (by rw [hnl]; exact goals_rng ha hy) (j := i) (by rw [hnl]; exact hi)
 rw [h2] at h1
 have h3 : CanR (nxL (nextC g a c)) (goalOf g a y) i ↔ CanR (nxC g a c) (goalOf g a y) i :=
  ⟨fun h => h.congr (N := NP g a) (fun p hp k hk => by rw [← hnl] at hp ⊢; exact nextC_ok ha hg c p hp k hk) (fun p hp => nextC_at hp) hi, fun h => h.congr (N := NP g a) (fun p hp => nxC_ok ha hg hp) (fun p hp => (nextC_at hp).symm) hi⟩
 rw [← h3, ← h1]
 unfold visI
 constructor
 · intro h; exact ⟨by omega, by show (i : Int) < ((distC g a c y v).length : Int); omega, h⟩
 · exact fun h => h.2.2
theorem mem_bitsN {m q : Nat} : q ∈ bitsN m ↔ q < 64 ∧ m.testBit q = true := by unfold bitsN; rw [List.mem_filter, List.mem_range]
theorem aftF_bit {a : TAutomaton} {k : Int} {t : Nat} : ∀ {l : List Nat} {m : Nat}, (aftF a k l m).testBit t = true ↔ m.testBit t = true ∨ ∃ s ∈ l, 0 ≤ nextOf a s k ∧ (nextOf a s k).toNat = t
 | [], m => by simp [aftF]
 | s :: l, m => by
  have ih := aftF_bit (a := a) (k := k) (t := t) (l := l) (m := if 0 ≤ nextOf a s k then m ||| 2 ^ (nextOf a s k).toNat else m)
  show (aftF a k l (if 0 ≤ nextOf a s k then m ||| 2 ^ (nextOf a s k).toNat else m)).testBit t = true ↔ _
  rw [ih]
  by_cases h : 0 ≤ nextOf a s k
  · rw [if_pos h, testBit_or_pow, Bool.or_eq_true, decide_eq_true_eq]
    constructor
    · rintro ((h1 | h1) | ⟨s', h1, h2⟩)
      · exact .inl h1
      · exact .inr ⟨s, by simp, h, h1⟩
      · exact .inr ⟨s', by simp [h1], h2⟩
    · rintro (h1 | ⟨s', h1, h2⟩)
      · exact .inl (.inl h1)
      · rcases List.mem_cons.1 h1 with rfl | h1
        · exact .inl (.inr h2.2)
        · exact .inr ⟨s', h1, h2⟩
  · rw [if_neg h]
    constructor
    · rintro (h1 | ⟨s', h1, h2⟩)
      · exact .inl h1
      · exact .inr ⟨s', by simp [h1], h2⟩
    · rintro (h1 | ⟨s', h1, h2⟩)
      · exact .inl h1
      · rcases List.mem_cons.1 h1 with rfl | h1
        · exact absurd h2.1 h
        · exact .inr ⟨s', h1, h2⟩
theorem aft1_bit {a : TAutomaton} {s v k : Int} {t : Nat} : (aft1 a s v k).testBit t = true ↔ ∃ r ∈ bitsN (closure a s v), 0 ≤ nextOf a r k ∧ (nextOf a r k).toNat = t := by
 unfold aft1; rw [aftF_bit]; simp
theorem aftS_bit' {a : TAutomaton} {v k : Int} {t : Nat} : ∀ {l : List Nat} {o : Nat}, (l.foldl (fun out (s : Nat) => aftF a k (bitsN (closure a s v)) out) o).testBit t = true ↔ o.testBit t = true ∨ ∃ q ∈ l, (aft1 a (q : Nat) v k).testBit t = true
 | [], o => by simp
 | s :: l, o => by
  rw [List.foldl_cons, aftS_bit' (l := l), aftF_bit]
  constructor
  · rintro ((h1 | h1) | ⟨s', h1, h2⟩)
    · exact .inl h1
    · exact .inr ⟨s, by simp, aft1_bit.2 h1⟩
    · exact .inr ⟨s', by simp [h1], h2⟩
  · rintro (h1 | ⟨s', h1, h2⟩)
    · exact .inl (.inl h1)
    · rcases List.mem_cons.1 h1 with rfl | h1
      · exact .inl (.inr (aft1_bit.1 h2))
      · exact .inr ⟨s', h1, h2⟩
theorem aftS_bit {a : TAutomaton} {m : Nat} {v k : Int} {t : Nat} : (aftS a m v k).testBit t = true ↔ ∃ q ∈ bitsN m, (aft1 a (q : Nat) v k).testBit t = true := by
 unfold aftS; rw [aftS_bit']; simp
theorem lt_of_bits {m n : Nat} (h : ∀ t, m.testBit t = true → t < n) : m < 2 ^ n := Nat.lt_pow_two_of_testBit _ fun i hi => by
 cases ht : m.testBit i with
 | false => rfl
 | true => exact absurd (h i ht) (by omega)
theorem aftS_lt {a : TAutomaton} (ha : validA a = true) {m : Nat} (hm : m < 2 ^ a.Accept.length) {v k : Int} (hv : 0 ≤ v ∧ v ≤ 2) (hk : 0 ≤ k ∧ k < 9) : aftS a m v k < 2 ^ a.Accept.length := lt_of_bits fun t ht => by
 obtain ⟨q, hq, h⟩ := aftS_bit.1 ht
 have hqn := bits_lt hm hq
 have hlt := aft1_lt ha hv (s := (q : Int)) (by omega) hk
 cases Nat.lt_or_ge t a.Accept.length with
 | inl h1 => exact h1
 | inr h1 => rw [testBit_lt hlt h1] at h; cases h
theorem bit_ne {m t : Nat} (h : m.testBit t = true) : m ≠ 0 := fun e => by rw [e, Nat.zero_testBit] at h; cases h
inductive RchS (g : TGraph) (a : TAutomaton) (c x : Int) : Int → Nat → Prop where
 | start : RchS g a c x x (2 ^ a.Start.toNat)
 | step {u : Int} {m : Nat} {y : TArc} : RchS g a c x u m → y ∈ arcsC g c u → aftS a m (valAt g u) y.letter ≠ 0 → RchS g a c x y.to (aftS a m (valAt g u) y.letter)
theorem arc_mem {g : TGraph} (hg : validG g = true) {x : Int} {y : TArc} (hy : y ∈ arcsAt g x) : 0 ≤ y.letter ∧ y.letter < 6 ∧ 0 ≤ y.to ∧ y.to < g.Values.length := by
 obtain ⟨j, hj⟩ := List.getElem?_of_mem hy
 exact arcsAt_ok hg hj
theorem valAt_ok {g : TGraph} (hg : validG g = true) {x : Int} (hx : 0 ≤ x ∧ x < g.Values.length) : g.Values[x.toNat]? = some (valAt g x) ∧ 0 ≤ valAt g x ∧ valAt g x ≤ 2 := by
 have h : g.Values[x.toNat]? = some (g.Values[x.toNat]'(by omega)) := List.getElem?_eq_getElem _
 have e : valAt g x = g.Values[x.toNat]'(by omega) := by unfold valAt; rw [h]; rfl
 rw [e]
 exact ⟨h, validG_val hg h⟩
theorem RchS.rng {g : TGraph} {a : TAutomaton} (ha : validA a = true) (hg : validG g = true) {c x : Int} (hx : 0 ≤ x ∧ x < g.Values.length) {u : Int} {m : Nat} (h : RchS g a c x u m) : (0 ≤ u ∧ u < g.Values.length) ∧ m < 2 ^ a.Accept.length := by
 induction h with
 | start => have hA := validA_len ha; exact ⟨hx, Nat.pow_lt_pow_right (by omega) (by omega)⟩
 | @step u m y _ hy _ ih =>
  have h1 := arc_mem hg (List.mem_filter.1 hy).1
  exact ⟨h1.2.2, aftS_lt ha ih.2 (valAt_ok hg ih.1).2 ⟨h1.1, by omega⟩⟩
def vtx (a : TAutomaton) (u : Int) (q : Nat) : Nat := u.toNat * a.Accept.length + q
theorem vtx_to {a : TAutomaton} {g : TGraph} {c u : Int} (hu : 0 ≤ u) {q t : Nat} (hq : q < a.Accept.length) {y : TArc} (hy : y ∈ arcsC g c u) (h0 : 0 ≤ y.to) (ht : t ∈ bitsN (aft1 a (q : Nat) (valAt g u) y.letter)) : ∃ z ∈ nxC g a c (vtx a u q), z.toNat = vtx a y.to t := by
 have hd := div_idx (x := u.toNat) hq
 refine ⟨y.to * a.Accept.length + t, ?_, ?_⟩
 · unfold nxC vtx
   rw [hd.1, hd.2, Int.toNat_of_nonneg hu]
   exact List.mem_flatMap.2 ⟨y, hy, List.mem_map.2 ⟨t, ht, rfl⟩⟩
 · unfold vtx
   obtain ⟨k, hk⟩ := Int.eq_ofNat_of_zero_le h0
   rw [hk]
   show ((k : Int) * (a.Accept.length : Int) + (t : Int)).toNat = k * a.Accept.length + t
   rw [← Int.natCast_mul, ← Int.natCast_add, Int.toNat_natCast]
theorem RchS.can {g : TGraph} {a : TAutomaton} (ha : validA a = true) (hg : validG g = true) {c x : Int} (hx : 0 ≤ x ∧ x < g.Values.length) {G : Nat → Bool} {u : Int} {m : Nat} (h : RchS g a c x u m) : ∀ q, m.testBit q = true → CanR (nxC g a c) G (vtx a u q) → CanR (nxC g a c) G (vtx a x a.Start.toNat) := by
 have hA := validA_len ha
 induction h with
 | start =>
  intro q hq hc
  rw [Nat.testBit_two_pow, decide_eq_true_eq] at hq
  rw [hq]; exact hc
 | @step u m y hr hy _ ih =>
  intro t ht hc
  have hur := hr.rng ha hg hx
  obtain ⟨q, hq, h1⟩ := aftS_bit.1 ht
  have hqn := bits_lt hur.2 hq
  have h2 := arc_mem hg (List.mem_filter.1 hy).1
  have hlt := aft1_lt ha (valAt_ok hg hur.1).2 (s := (q : Int)) (by omega) (k := y.letter) ⟨h2.1, by omega⟩
  have htn : t < a.Accept.length := by
   cases Nat.lt_or_ge t a.Accept.length with
   | inl h => exact h
   | inr h => rw [testBit_lt hlt h] at h1; cases h1
  obtain ⟨z, hz, e⟩ := vtx_to hur.1.1 hqn hy h2.2.2.1 (mem_bitsN.2 ⟨by omega, h1⟩)
  exact ih q (mem_bitsN.1 hq).2 (.step hz (by rw [e]; exact hc))
theorem can_RchS {g : TGraph} {a : TAutomaton} (ha : validA a = true) (hg : validG g = true) {c x y : Int} (hx : 0 ≤ x ∧ x < g.Values.length) {i : Nat} (h : CanR (nxC g a c) (goalOf g a y) i) : i < NP g a → ∀ u m, RchS g a c x u m → u.toNat = i / a.Accept.length → m.testBit (i % a.Accept.length) = true → ∃ m', RchS g a c x y m' ∧ accS a m' (valAt g y) = true := by
 have hA := validA_len ha
 induction h with
 | @goal i h =>
  intro hi u m hr hu hm
  have hur := hr.rng ha hg hx
  unfold goalOf at h
  simp only [Bool.and_eq_true, decide_eq_true_eq] at h
  have hdi : ((i : Int) / (a.Accept.length : Int)) = ((i / a.Accept.length : Nat) : Int) := rfl
  have hmi : ((i : Int) % (a.Accept.length : Int)) = ((i % a.Accept.length : Nat) : Int) := rfl
  have huy : u = y := by rw [← h.1, hdi, ← hu, Int.toNat_of_nonneg hur.1.1]
  have hqn : i % a.Accept.length < a.Accept.length := Nat.mod_lt _ (by omega)
  refine ⟨m, huy ▸ hr, ?_⟩
  unfold accS
  refine List.any_eq_true.2 ⟨i % a.Accept.length, mem_bitsN.2 ⟨by omega, hm⟩, ?_⟩
  rw [h.1, hmi] at h
  exact h.2
 | @step i z hz _ ih =>
  intro hi u m hr hu hm
  have hur := hr.rng ha hg hx
  have hqn : i % a.Accept.length < a.Accept.length := Nat.mod_lt _ (by omega)
  have hzr := nxC_ok ha hg hi z hz
  unfold nxC at hz
  rw [← hu, Int.toNat_of_nonneg hur.1.1] at hz
  obtain ⟨y', hy, hz⟩ := List.mem_flatMap.1 hz
  obtain ⟨t, ht, rfl⟩ := List.mem_map.1 hz
  have h2 := arc_mem hg (List.mem_filter.1 hy).1
  have hlt := aft1_lt ha (valAt_ok hg hur.1).2 (s := ((i % a.Accept.length : Nat) : Int)) (by omega) (k := y'.letter) ⟨h2.1, by omega⟩
  have htn := bits_lt hlt ht
  have hb : (aftS a m (valAt g u) y'.letter).testBit t = true := aftS_bit.2 ⟨i % a.Accept.length, mem_bitsN.2 ⟨by omega, hm⟩, (mem_bitsN.1 ht).2⟩
  have hd := div_idx (x := y'.to.toNat) htn
  have e : (y'.to * (a.Accept.length : Int) + (t : Int)).toNat = y'.to.toNat * a.Accept.length + t := by
   obtain ⟨k, hk⟩ := Int.eq_ofNat_of_zero_le h2.2.2.1
   rw [hk]
   show ((k : Int) * (a.Accept.length : Int) + (t : Int)).toNat = k * a.Accept.length + t
   rw [← Int.natCast_mul, ← Int.natCast_add, Int.toNat_natCast]
  rw [e] at ih
  have hlt2 : y'.to.toNat * a.Accept.length + t < NP g a := by
   have : (((y'.to.toNat * a.Accept.length + t : Nat)) : Int) < (NP g a : Int) := by rw [← e, Int.toNat_of_nonneg hzr.1]; exact hzr.2
   omega
  exact ih hlt2 y'.to _ (.step hr hy (bit_ne hb)) (by rw [hd.1]) (by rw [hd.2]; exact hb)
def condB (g : TGraph) (a : TAutomaton) (c x y : Int) : Bool := decide (0 ≤ atI (distC g a c y (valAt g y)) (x * a.Accept.length + a.Start))
theorem condB_iff {g : TGraph} {a : TAutomaton} (ha : validA a = true) (hg : validG g = true) {c x y : Int} (hx : 0 ≤ x ∧ x < g.Values.length) (hy : 0 ≤ y ∧ y < g.Values.length) : condB g a c x y = true ↔ ∃ m, RchS g a c x y m ∧ accS a m (valAt g y) = true := by
 have hA := validA_len ha
 have hvy := valAt_ok hg hy
 have hs := start_ok (g := g) ha hx
 have hNn : ((NP g a : Nat) : Int) = ((a.Accept.length * g.Values.length : Nat) : Int) := rfl
 have e : x * (a.Accept.length : Int) + a.Start = ((vtx a x a.Start.toNat : Nat) : Int) := by
  unfold vtx; rw [Int.natCast_add, Int.natCast_mul, Int.toNat_of_nonneg hx.1, Int.toNat_of_nonneg hA.2.2.2.1]
 have hi : vtx a x a.Start.toNat < NP g a := by omega
 unfold condB
 rw [decide_eq_true_eq, e, (toC_ok ha hg c hy hvy.1).2 _ hi]
 have hsn : a.Start.toNat < a.Accept.length := by omega
 have hd := div_idx (x := x.toNat) hsn
 constructor
 · intro h
   exact can_RchS ha hg hx h hi x _ .start (by unfold vtx; rw [hd.1]) (by unfold vtx; rw [hd.2]; simp)
 · rintro ⟨m, hr, hm⟩
   unfold accS at hm
   obtain ⟨q, hq, h1⟩ := List.any_eq_true.1 hm
   have hur := hr.rng ha hg hx
   have hqn := bits_lt hur.2 hq
   have hdq := div_idx (x := y.toNat) hqn
   refine hr.can ha hg hx q (mem_bitsN.1 hq).2 (.goal ?_)
   unfold goalOf vtx
   have e1 : (((y.toNat * a.Accept.length + q : Nat) : Int) / (a.Accept.length : Int)) = y := by
    show (((y.toNat * a.Accept.length + q) / a.Accept.length : Nat) : Int) = y
    rw [hdq.1, Int.toNat_of_nonneg hy.1]
   have e2 : (((y.toNat * a.Accept.length + q : Nat) : Int) % (a.Accept.length : Int)) = (q : Int) := by
    show (((y.toNat * a.Accept.length + q) % a.Accept.length : Nat) : Int) = q
    rw [hdq.2]
   rw [e1, e2]
   simpa [valAt] using h1
end Go.Q
