import Derived.Test.YtbkhopfpejhnlaaGreatB118ra
import Derived.Test.YtbkhopfpejhnlaaGreatB47ra
set_option linter.unusedVariables false
set_option linter.unusedSimpArgs false
set_option maxHeartbeats 1000000
set_option maxRecDepth 100000
namespace Go.Q
open Go.D
def nineL : List Int := (List.range 9).map fun i => ((i : Nat) : Int)
def wordsA (l : List Int) : Nat → List (List Int)
 | 0 => [[]]
 | d + 1 => (wordsA l d).flatMap fun b => l.map fun c => b ++ [c]
def lets : Tr → List Int
 | .leaf t => if t.Kind = 3 then [t.Letter] else []
 | .un _ x => lets x
 | .bin _ x y => lets x ++ lets y
def tk (x : Tr) (w : List Int) : Bool := wordR w x 0 w.length
def wordsUp (l : List Int) (x : Tr) (n : Nat) : List (List Int) := (List.range n).flatMap fun d => (wordsA l d).filter (tk x)
theorem wordsA_filter (p : Int → Bool) (l : List Int) : ∀ d, wordsA (l.filter p) d = (wordsA l d).filter fun w => w.all p
 | 0 => rfl
 | d + 1 => by
  rw [wordsA, wordsA, wordsA_filter p l d, List.filter_flatMap]
  have key : ∀ m : List (List Int), (m.filter fun w => w.all p).flatMap (fun b => (l.filter p).map fun c => b ++ [c]) = m.flatMap fun b => (l.map fun c => b ++ [c]).filter fun w => w.all p := by
   intro m
   induction m with
   | nil => rfl
   | cons b m ih =>
    rw [List.flatMap_cons, List.filter_map]
    have e : (fun w : List Int => w.all p) ∘ (fun c => b ++ [c]) = fun c => b.all p && p c := by funext c; simp
    rw [e]
    cases hb : b.all p with
    | true =>
     rw [List.filter_cons_of_pos (by simpa using hb), List.flatMap_cons, ih]
     simp
    | false =>
     rw [List.filter_cons_of_neg (by simpa using hb), ih]
     simp
  exact key _
theorem letR_lets {w : List Int} {k : Int} {i j : Nat} (h : letR w k i j = true) : j = i + 1 ∧ w[i]? = some k := by
 unfold letR at h
 simpa only [Bool.and_eq_true, decide_eq_true_eq] using h
def spells (w : List Int) (l : List Int) (f : GR) : Prop := ∀ i j, f i j = true → ∀ p, i ≤ p → p < j → ∃ c, w[p]? = some c ∧ c ∈ l
theorem spells_then {w l : List Int} {n : Nat} {f g : GR} (hf : spells w l f) (hg : spells w l g) : spells w l (thenR n f g) := fun i j h p h1 h2 => by
 obtain ⟨k, _, g1, g2⟩ := thenR_true.1 h
 rcases Nat.lt_or_ge p k with hp | hp
 · exact hf i k g1 p h1 hp
 · exact hg k j g2 p hp h2
theorem spells_or {w l : List Int} {f g : GR} (hf : spells w l f) (hg : spells w l g) : spells w l (orR f g) := fun i j h p h1 h2 => by
 unfold orR at h
 rcases Bool.or_eq_true _ _ ▸ h with h | h
 · exact hf i j h p h1 h2
 · exact hg i j h p h1 h2
theorem spells_id (w l : List Int) : spells w l idR := fun i j h p h1 h2 => by
 have e : i = j := by simpa [idR] using h
 omega
theorem spells_no (w l : List Int) : spells w l noR := fun i j h => by cases h
theorem spells_star {w l : List Int} {n : Nat} {f : GR} (hf : spells w l f) : ∀ k, spells w l (starR n f k)
 | 0 => spells_id w l
 | k + 1 => spells_or (spells_star hf k) (spells_then (spells_star hf k) hf)
theorem spells_pow {w l : List Int} {n : Nat} {f : GR} (hf : spells w l f) : ∀ k, spells w l (powR n f k)
 | 0 => spells_id w l
 | k + 1 => spells_then (spells_pow hf k) hf
theorem spells_rep {w l : List Int} {n : Nat} {f : GR} (hf : spells w l f) (low : Int) : ∀ k, spells w l (repR n f low k)
 | 0 => spells_no w l
 | k + 1 => by
  rw [repR]; split
  · exact spells_or (spells_rep hf low k) (spells_pow hf k)
  · exact spells_rep hf low k
theorem spells_sub {w l m : List Int} {f : GR} (hf : spells w l f) (h : ∀ c ∈ l, c ∈ m) : spells w m f := fun i j hij p h1 h2 => by
 obtain ⟨c, g1, g2⟩ := hf i j hij p h1 h2
 exact ⟨c, g1, h c g2⟩
theorem word_spells (w : List Int) : ∀ x : Tr, spells w (lets x) (wordR w x)
 | .leaf t => by
  rw [wordR]
  split
  · exact spells_id w _
  · split
    · rename_i h3
      intro i j h p h1 h2
      obtain ⟨rfl, hl⟩ := letR_lets h
      have : p = i := by omega
      subst this
      exact ⟨t.Letter, hl, by rw [lets, if_pos h3]; simp⟩
    · exact spells_no w _
 | .un t x => by
  rw [wordR]; split
  · exact spells_star (word_spells w x) _
  · exact spells_rep (word_spells w x) _ _
 | .bin t x y => by
  have h1 := spells_sub (word_spells w x) (m := lets x ++ lets y) fun c hc => List.mem_append_left _ hc
  have h2 := spells_sub (word_spells w y) (m := lets x ++ lets y) fun c hc => List.mem_append_right _ hc
  rw [wordR]; split
  · exact spells_then h1 h2
  · exact spells_or h1 h2
theorem tk_lets {x : Tr} {w : List Int} (h : tk x w = true) : w.all (fun c => decide (c ∈ lets x)) = true := by
 rw [List.all_eq_true]
 intro c hc
 obtain ⟨p, hp⟩ := List.getElem?_of_mem hc
 obtain ⟨c', h1, h2⟩ := word_spells w x 0 w.length h p (Nat.zero_le _) (List.getElem?_eq_some_iff.1 hp).1
 rw [hp] at h1
 cases h1
 simpa using h2
def alphaOf (x : Tr) : List Int := nineL.filter fun c => decide (c ∈ lets x)
theorem wordsUp_alpha (x : Tr) (n : Nat) : wordsUp (alphaOf x) x n = wordsUp nineL x n := by
 unfold wordsUp alphaOf
 congr 1
 funext d
 rw [wordsA_filter, List.filter_filter]
 apply List.filter_congr
 intro w _
 cases h : tk x w with
 | false => rfl
 | true => rw [tk_lets h]; rfl
def letsT (l : List TToken) : List Int := l.filterMap fun t => if t.Kind = 3 then some t.Letter else none
theorem letsT_append (a b : List TToken) : letsT (a ++ b) = letsT a ++ letsT b := by unfold letsT; rw [List.filterMap_append]
theorem letsT_at {l : List TToken} {k : Nat} {t : TToken} (h : l[k]? = some t) : letsT (l.take (k + 1)) = letsT (l.take k) ++ if t.Kind = 3 then [t.Letter] else [] := by
 rw [take_at h, letsT_append]
 congr 1
 by_cases e : t.Kind = 3 <;> simp [letsT, e]
theorem lets_toks : ∀ x : Tr, good x → letsT (toks x) = lets x
 | .leaf t, _ => by
  by_cases e : t.Kind = 3 <;> simp [toks, letsT, lets, e]
 | .un t x, hg => by
  have hk : ¬ t.Kind = 3 := by
   rcases (good_cases hg).2.2 with ⟨h1, _⟩ | ⟨y, _, h1⟩ | ⟨y, z, h1, _⟩
   · cases h1
   · simp only [Tr.tok] at h1; omega
   · simp [Tr.kids] at h1
  rw [show toks (.un t x) = toks x ++ [t] from rfl, letsT_append, lets_toks x (good_kids hg x (by simp [Tr.kids])), lets]
  simp [letsT, hk]
 | .bin t x y, hg => by
  have hk : ¬ t.Kind = 3 := by
   rcases (good_cases hg).2.2 with ⟨h1, _⟩ | ⟨z, h1, _⟩ | ⟨y', z, _, h1⟩
   · cases h1
   · simp [Tr.kids] at h1
   · simp only [Tr.tok] at h1; omega
  rw [show toks (.bin t x y) = toks x ++ toks y ++ [t] from rfl, letsT_append, letsT_append, lets_toks x (good_kids hg x (by simp [Tr.kids])), lets_toks y (good_kids hg y (by simp [Tr.kids])), lets]
  simp [letsT, hk]
theorem letter_rng {x : Tr} (hg : good x) (h : x.tok.Kind = 3) : 0 ≤ x.tok.Letter ∧ x.tok.Letter ≤ 8 := by
 have ha := good_arity hg
 unfold arity at ha
 rw [if_neg (by omega), if_pos h] at ha
 split at ha
 · rename_i hc; simp only [Bool.and_eq_true, inB, decide_eq_true_eq] at hc; omega
 · omega
theorem lets_rng : ∀ x : Tr, good x → ∀ c ∈ lets x, 0 ≤ c ∧ c ≤ 8
 | .leaf t, hg, c, hc => by
  rw [lets] at hc
  split at hc
  · rename_i h3
    simp only [List.mem_singleton] at hc
    subst hc
    exact letter_rng (x := .leaf t) hg h3
  · cases hc
 | .un t x, hg, c, hc => lets_rng x (good_kids hg x (by simp [Tr.kids])) c hc
 | .bin t x y, hg, c, hc => by
  rcases List.mem_append.1 hc with h | h
  · exact lets_rng x (good_kids hg x (by simp [Tr.kids])) c h
  · exact lets_rng y (good_kids hg y (by simp [Tr.kids])) c h
theorem alpha_set {x : Tr} (hg : good x) : setI (wB (lets x)) 30 = alphaOf x := by
 have hr := lets_rng x hg
 have ht : ∀ i : Nat, (wB (lets x)).testBit i = decide (((i : Nat) : Int) ∈ lets x) := fun i => by
  rw [Bool.eq_iff_iff, wB_test (fun k hk => (hr k hk).1) i, decide_eq_true_eq]
 unfold setI alphaOf nineL
 rw [List.filter_map]
 congr 1
 have h30 : List.range 30 = List.range 9 ++ (List.range 21).map (9 + ·) := by decide
 rw [h30, List.filter_append]
 have h2 : (((List.range 21).map (9 + ·)).filter fun i => (wB (lets x)).testBit i) = [] := by
  rw [List.filter_eq_nil_iff]
  intro i hi
  obtain ⟨j, _, rfl⟩ := List.mem_map.1 hi
  rw [ht]
  intro h
  have := hr _ (of_decide_eq_true h)
  omega
 rw [h2, List.append_nil]
 apply List.filter_congr
 intro i _
 rw [ht]; rfl
end Go.Q
