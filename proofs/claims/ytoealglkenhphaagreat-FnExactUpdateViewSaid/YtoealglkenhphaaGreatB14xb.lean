import Derived.Test.YtoealglkenhphaaGreatB05xb
import Derived.Test.YtoealglkenhphaaGreatAbsJxb
set_option linter.unusedVariables false
set_option linter.unusedSimpArgs false
set_option maxHeartbeats 1000000
set_option maxRecDepth 100000
namespace Go.Q
open Go.D
theorem testBit_or_pow (m s q : Nat) : (m ||| 2 ^ s).testBit q = (m.testBit q || decide (s = q)) := by
 rw [Nat.testBit_or, Nat.testBit_two_pow]
def unset (n m : Nat) : Nat := ((List.range n).filter fun q => !m.testBit q).length
theorem unset_succ (n m : Nat) : unset (n + 1) m = unset n m + if m.testBit n then 0 else 1 := by
 unfold unset
 rw [List.range_succ, List.filter_append, List.length_append]
 cases h : m.testBit n <;> simp [h]
theorem unset_high {m s : Nat} : ∀ {n : Nat}, n ≤ s → unset n (m ||| 2 ^ s) = unset n m
 | 0, _ => rfl
 | n + 1, h => by rw [unset_succ, unset_succ, unset_high (by omega), testBit_or_pow, decide_eq_false (by omega), Bool.or_false]
theorem unset_or {m s : Nat} (hb : m.testBit s = false) : ∀ {n : Nat}, s < n → unset n (m ||| 2 ^ s) + 1 = unset n m
 | n + 1, h => by
  rw [unset_succ, unset_succ, testBit_or_pow]
  by_cases e : s = n
  ·subst e
   rw [unset_high (Nat.le_refl _)]
   simp [hb]
  ·rw [decide_eq_false e, Bool.or_false]
   have := unset_or hb (n := n) (by omega)
   omega
theorem unset_le (m : Nat) : ∀ n : Nat, unset n m ≤ n
 | 0 => Nat.le_refl _
 | n + 1 => by rw [unset_succ]; have := unset_le m n; split <;> omega
theorem or_pow_lt {m s n : Nat} (h : m < 2 ^ n) (hs : s < n) : m ||| 2 ^ s < 2 ^ n := Nat.or_lt_two_pow h (Nat.pow_lt_pow_right (by omega) hs)
theorem testBit_lt {m n q : Nat} (h : m < 2 ^ n) (hq : n ≤ q) : m.testBit q = false := Nat.testBit_lt_two_pow (Nat.lt_of_lt_of_le h (Nat.pow_le_pow_right (by omega) hq))
theorem filter_range {m n : Nat} (h : m < 2 ^ n) : ∀ {k : Nat}, n ≤ k → (List.range k).filter m.testBit = (List.range n).filter m.testBit
 | 0, hk => by rw [show n = 0 by omega]
 | k + 1, hk => by
  by_cases e : n = k + 1
  ·rw [e]
  ·rw [List.range_succ, List.filter_append, filter_range h (k := k) (by omega)]
   simp [testBit_lt h (show n ≤ k by omega)]
def bitsN (m : Nat) : List Nat := (List.range 64).filter m.testBit
theorem bits_eq {m n : Nat} (h : m < 2 ^ n) (hn : n ≤ 64) : bitsN m = (List.range n).filter m.testBit := filter_range h hn
theorem range_filter_succ (p : Nat → Bool) (n : Nat) : (List.range (n + 1)).filter p = (List.range n).filter p ++ if p n then [n] else [] := by
 rw [List.range_succ, List.filter_append]
 cases h : p n <;> simp [h]
theorem bits_lt {m n q : Nat} (h : m < 2 ^ n) (hq : q ∈ bitsN m) : q < n := by
 unfold bitsN at hq
 rw [List.mem_filter] at hq
 rcases Nat.lt_or_ge q n with h1 | h1
 ·exact h1
 ·rw [testBit_lt h h1] at hq; cases hq.2
theorem bits_pow {s : Nat} (hs : s < 64) : bitsN (2 ^ s) = [s] := by
 rw [bits_eq (n := s + 1) (Nat.pow_lt_pow_right (by omega) (by omega)) (by omega), range_filter_succ]
 have : (List.range s).filter (2 ^ s).testBit = [] := by
  rw [List.filter_eq_nil_iff]
  intro q hq
  have := List.mem_range.1 hq
  rw [Nat.testBit_two_pow]
  simp; omega
 rw [this, Nat.testBit_two_pow]
 simp
theorem bits_len (m : Nat) : (bitsN m).length ≤ 64 := by
 unfold bitsN
 exact Nat.le_trans (List.length_filter_le _ _) (by simp)
def bitsI (m : Nat) : List Int := (bitsN m).map fun (q : Nat) => (q : Int)
theorem bitsI_at {m k : Nat} {x : Int} (h : (bitsI m)[k]? = some x) : ∃ q : Nat, x = (q : Int) ∧ (bitsN m)[k]? = some q := by
 unfold bitsI at h
 rw [List.getElem?_map] at h
 obtain ⟨q, hq, rfl⟩ := Option.map_eq_some_iff.1 h
 exact ⟨q, rfl, hq⟩
def rowOk (n : Int) (row : List Int) : Bool := (row.all fun t => inB t (-1) (n - 1)) && decide (row.length = 9)
def validA (a : TAutomaton) : Bool := inB a.Accept.length 1 12 && inB a.Start 0 (a.Accept.length - 1) && decide (a.Next.length = a.Accept.length) && a.Next.all (rowOk a.Accept.length)
def nextOf (a : TAutomaton) (s k : Int) : Int := (a.Next[s.toNat]?.getD [])[k.toNat]?.getD (-1)
theorem validA_len {a : TAutomaton} (h : validA a = true) : 1 ≤ a.Accept.length ∧ a.Accept.length ≤ 12 ∧ a.Next.length = a.Accept.length ∧ 0 ≤ a.Start ∧ a.Start < a.Accept.length := by
 unfold validA inB at h
 simp only [Bool.and_eq_true, decide_eq_true_eq] at h
 omega
theorem validA_next {a : TAutomaton} (h : validA a = true) {s k : Int} (hs : 0 ≤ s) (hs' : s < a.Accept.length) (hk : 0 ≤ k) (hk' : k < 9) :
  ∃ row, a.Next[s.toNat]? = some row ∧ row.length = 9 ∧ row[k.toNat]? = some (nextOf a s k) ∧ -1 ≤ nextOf a s k ∧ nextOf a s k < a.Accept.length := by
 have hl := validA_len h
 unfold validA at h
 simp only [Bool.and_eq_true, List.all_eq_true] at h
 have hlt : s.toNat < a.Next.length := by omega
 have h12 := h.2 _ (List.getElem_mem hlt)
 unfold rowOk at h12
 simp only [Bool.and_eq_true, List.all_eq_true] at h12
 obtain ⟨h1, h2⟩ := h12
 simp only [decide_eq_true_eq] at h2
 have hk2 : k.toNat < (a.Next[s.toNat]).length := by omega
 have h3 := h1 _ (List.getElem_mem hk2)
 have e : nextOf a s k = (a.Next[s.toNat])[k.toNat] := by
  unfold nextOf
  rw [List.getElem?_eq_getElem hlt, Option.getD_some, List.getElem?_eq_getElem hk2, Option.getD_some]
 refine ⟨_, List.getElem?_eq_getElem hlt, h2, by rw [e]; exact List.getElem?_eq_getElem hk2, ?_⟩
 rw [e]
 unfold inB at h3
 simp only [Bool.and_eq_true, decide_eq_true_eq] at h3
 omega
def clos (a : TAutomaton) (v : Int) : Nat → Int → Nat → Nat
 | 0, _, m => m
 | f + 1, s, m => if s < 0 || m.testBit s.toNat then m else clos a v f (nextOf a s (6 + v)) (m ||| 2 ^ s.toNat)
def closure (a : TAutomaton) (s v : Int) : Nat := clos a v (a.Accept.length + 1) s 0
theorem clos_stop {a : TAutomaton} {v s : Int} {m f : Nat} (h : s < 0 ∨ m.testBit s.toNat = true) : clos a v (f + 1) s m = m := by
 rw [clos, if_pos (by simp; exact h)]
theorem clos_on {a : TAutomaton} {v s : Int} {m f : Nat} (h : 0 ≤ s) (hb : m.testBit s.toNat = false) : clos a v (f + 1) s m = clos a v f (nextOf a s (6 + v)) (m ||| 2 ^ s.toNat) := by
 rw [clos, if_neg (by simp [hb]; omega)]
theorem clos_lt {a : TAutomaton} (ha : validA a = true) {v : Int} (hv : 0 ≤ v ∧ v ≤ 2) : ∀ {f : Nat} {s : Int} {m : Nat}, s < a.Accept.length → m < 2 ^ a.Accept.length → clos a v f s m < 2 ^ a.Accept.length
 | 0, _, _, _, h => h
 | f + 1, s, m, hs, h => by
  rw [clos]
  split
  ·exact h
  ·rename_i h1
   simp only [Bool.or_eq_true, decide_eq_true_eq, not_or] at h1
   obtain ⟨row, _, _, _, _, h2⟩ := validA_next ha (s := s) (k := 6 + v) (by omega) hs (by omega) (by omega)
   exact clos_lt ha hv h2 (or_pow_lt h (by omega))
theorem closure_lt {a : TAutomaton} (ha : validA a = true) {s v : Int} (hv : 0 ≤ v ∧ v ≤ 2) (hs : s < a.Accept.length) : closure a s v < 2 ^ a.Accept.length := clos_lt ha hv hs (Nat.two_pow_pos _)
theorem pow_le_12 {a : TAutomaton} (ha : validA a = true) : 2 ^ a.Accept.length ≤ 4096 := by
 have := (validA_len ha).2.1
 calc 2 ^ a.Accept.length ≤ 2 ^ 12 := Nat.pow_le_pow_right (by omega) this
  _ = 4096 := rfl
theorem pow_12 {a : TAutomaton} (ha : validA a = true) {x : Nat} (hx : x < a.Accept.length) : 2 ^ x ≤ 4096 := Nat.le_trans (Nat.pow_le_pow_right (by omega) (Nat.le_of_lt hx)) (pow_le_12 ha)
def accAt (a : TAutomaton) (t : Nat) : Bool := a.Accept[t]?.getD false
def acc (a : TAutomaton) (s v : Int) : Bool := (bitsN (closure a s v)).any (accAt a)
def aftF (a : TAutomaton) (k : Int) (l : List Nat) (m : Nat) : Nat := l.foldl (fun m (t : Nat) => if 0 ≤ nextOf a t k then m ||| 2 ^ (nextOf a t k).toNat else m) m
def aft1 (a : TAutomaton) (s v k : Int) : Nat := aftF a k (bitsN (closure a s v)) 0
def aftS (a : TAutomaton) (m : Nat) (v k : Int) : Nat := (bitsN m).foldl (fun out (s : Nat) => aftF a k (bitsN (closure a s v)) out) 0
theorem aftS_pow (a : TAutomaton) {s : Nat} (v k : Int) (hs : s < 64) : aftS a (2 ^ s) v k = aft1 a s v k := by unfold aftS; rw [bits_pow hs]; rfl
theorem aftF_lt {a : TAutomaton} (ha : validA a = true) {k : Int} (hk : 0 ≤ k ∧ k < 9) : ∀ {l : List Nat} {m : Nat}, (∀ t ∈ l, t < a.Accept.length) → m < 2 ^ a.Accept.length → aftF a k l m < 2 ^ a.Accept.length
 | [], _, _, h => h
 | t :: l, m, hl, h => by
  show aftF a k l _ < _
  refine aftF_lt ha hk (fun t ht => hl t (by simp [ht])) ?_
  dsimp only
  split
  ·obtain ⟨row, _, _, _, _, h2⟩ := validA_next ha (s := (t : Int)) (k := k) (by omega) (by have := hl t (by simp); omega) hk.1 hk.2
   exact or_pow_lt h (by omega)
  ·exact h
theorem aftF_at {a : TAutomaton} {k : Int} {l : List Nat} {j : Nat} {t : Nat} (h : l[j]? = some t) (m : Nat) : aftF a k (l.take (j + 1)) m = if 0 ≤ nextOf a t k then aftF a k (l.take j) m ||| 2 ^ (nextOf a t k).toNat else aftF a k (l.take j) m := by
 unfold aftF
 rw [take_at h, List.foldl_append]
 rfl
theorem aftS_at {a : TAutomaton} {m j q : Nat} {v k : Int} (h : (bitsN m)[j]? = some q) : ((bitsN m).take (j + 1)).foldl (fun out (s : Nat) => aftF a k (bitsN (closure a s v)) out) 0 = aftF a k (bitsN (closure a q v)) (((bitsN m).take j).foldl (fun out (s : Nat) => aftF a k (bitsN (closure a s v)) out) 0) := by
 rw [take_at h, List.foldl_append]; rfl
theorem bitsI_len (m : Nat) : (bitsI m).length = (bitsN m).length := by unfold bitsI; simp
theorem bitsI_le (m : Nat) : (bitsI m).length ≤ 64 := by rw [bitsI_len]; exact bits_len m
theorem closure_bits {a : TAutomaton} (ha : validA a = true) {s v : Int} (hv : 0 ≤ v ∧ v ≤ 2) (hs : s < a.Accept.length) : ∀ t ∈ bitsN (closure a s v), t < a.Accept.length := fun _ ht => bits_lt (closure_lt ha hv hs) ht
theorem aft1_lt {a : TAutomaton} (ha : validA a = true) {s v k : Int} (hv : 0 ≤ v ∧ v ≤ 2) (hs : s < a.Accept.length) (hk : 0 ≤ k ∧ k < 9) : aft1 a s v k < 2 ^ a.Accept.length := aftF_lt ha hk (closure_bits ha hv hs) (Nat.two_pow_pos _)
structure TArc where
 step : TStep
 letter : Int
 to : Int
 deriving DecidableEq
def arcsOf (e : TEdge) (x : Int) : List TArc := (if e.From = x then [⟨⟨e.ID, false⟩, reads e false, e.To⟩] else []) ++ if e.To = x then [⟨⟨e.ID, true⟩, reads e true, e.From⟩] else []
def arcsL (l : List TEdge) (x : Int) : List TArc := l.flatMap fun e => arcsOf e x
def arcsAt (g : TGraph) (x : Int) : List TArc := arcsL g.Edges x
theorem arcsL_at {l : List TEdge} {k : Nat} {e : TEdge} (h : l[k]? = some e) (x : Int) : arcsL (l.take (k + 1)) x = arcsL (l.take k) x ++ arcsOf e x := by
 unfold arcsL
 rw [take_at h, List.flatMap_append]; simp
theorem arcsL_len (l : List TEdge) (x : Int) : (arcsL l x).length ≤ 2 * l.length := by
 induction l with
 | nil => simp [arcsL]
 | cons e l ih =>
  have e1 : arcsL (e :: l) x = arcsOf e x ++ arcsL l x := by simp [arcsL]
  have e2 : (arcsOf e x).length ≤ 2 := by
   unfold arcsOf
   rw [List.length_append]
   split <;> split <;> simp
  rw [e1, List.length_append, List.length_cons]; omega
def cArc (x : TArc) : List T := [.v (.int .i64 x.step.Edge), .v (.bool x.step.Inverse), .v (.int .i64 x.letter), .v (.int .i64 x.to)]
def cArcS (x : List TArc) : List T := [.sl 4 (x.map cArc)]
def arcsV (g : TGraph) : List (List TArc) := (List.range g.Values.length).map fun (x : Nat) => arcsAt g x
def bothB (g : TGraph) (a : TAutomaton) (l : List Int) : Bool := (l.all fun x => inB x 0 (g.Values.length - 1)) && (validG g && validA a)
def goodB (g : TGraph) (a : TAutomaton) (x s : Int) : Bool := validG g && validA a && inB x 0 (g.Values.length - 1) && inB s 0 (a.Accept.length - 1)
def vertS (a : TAutomaton) (s v : Int) (y : TArc) : List TProductStep := (bitsN (aft1 a s v y.letter)).map fun (t : Nat) => ⟨y.step, y.to, t⟩
def stepsOf (g : TGraph) (a : TAutomaton) (x s : Int) : List TProductStep := (arcsAt g x).flatMap (vertS a s (g.Values[x.toNat]?.getD 0))
def vertN (a : TAutomaton) (s v : Int) (y : TArc) : List Int := (bitsN (aft1 a s v y.letter)).map fun (t : Nat) => y.to * a.Accept.length + t
def nextsOf (g : TGraph) (a : TAutomaton) (x s : Int) : List Int := (arcsAt g x).flatMap (vertN a s (g.Values[x.toNat]?.getD 0))
theorem nextsOf_eq (g : TGraph) (a : TAutomaton) (x s : Int) : nextsOf g a x s = (stepsOf g a x s).map fun (p : TProductStep) => p.Node * (a.Accept.length : Int) + p.State := by
 unfold nextsOf stepsOf
 rw [List.map_flatMap]
 congr 1
 funext y
 unfold vertN vertS
 simp
theorem validG_len {g : TGraph} (h : validG g = true) : 1 ≤ g.Values.length ∧ g.Values.length ≤ 5 ∧ g.Edges.length ≤ 12 := by
 unfold validG inB at h
 simp only [Bool.and_eq_true, decide_eq_true_eq] at h
 omega
theorem validG_val {g : TGraph} (h : validG g = true) {k : Nat} {v : Int} (hv : g.Values[k]? = some v) : 0 ≤ v ∧ v ≤ 2 := by
 unfold validG at h
 simp only [Bool.and_eq_true, List.all_eq_true] at h
 have := h.1.1 _ (List.mem_of_getElem? hv)
 unfold inB at this
 simpa using this
theorem validG_edge {g : TGraph} (h : validG g = true) {k : Nat} {e : TEdge} (he : g.Edges[k]? = some e) : 0 ≤ e.From ∧ e.From < g.Values.length ∧ 0 ≤ e.To ∧ e.To < g.Values.length ∧ 0 ≤ e.Label ∧ e.Label ≤ 2 ∧ 1 ≤ e.ID ∧ e.ID ≤ 99 := by
 unfold validG at h
 simp only [Bool.and_eq_true, List.all_eq_true] at h
 have := h.1.2 k (List.mem_range.2 (List.getElem?_eq_some_iff.1 he).1)
 unfold edgeAt at this
 rw [he] at this
 simp only [Bool.and_eq_true] at this
 have := this.1
 unfold edgeOk inB at this
 simp only [Bool.and_eq_true, decide_eq_true_eq] at this
 omega
theorem validG_lt {g : TGraph} (h : validG g = true) {k : Nat} {e e' : TEdge} (he : g.Edges[k]? = some e) (he' : g.Edges[k + 1]? = some e') : e.ID < e'.ID := by
 unfold validG at h
 simp only [Bool.and_eq_true, List.all_eq_true] at h
 have := h.1.2 (k + 1) (List.mem_range.2 (List.getElem?_eq_some_iff.1 he').1)
 unfold edgeAt at this
 rw [he'] at this
 simp only [Bool.and_eq_true, Nat.add_sub_cancel, he, Option.getD_some] at this
 have := this.2
 simp at this
 omega
theorem validG_mono {g : TGraph} (h : validG g = true) : ∀ {d k : Nat} {e e' : TEdge}, g.Edges[k]? = some e → g.Edges[k + d + 1]? = some e' → e.ID < e'.ID
 | 0, k, e, e', he, he' => validG_lt h he he'
 | d + 1, k, e, e', he, he' => by
  have hlt : k + d + 1 < g.Edges.length := by have := (List.getElem?_eq_some_iff.1 he').1; omega
  have h1 := validG_mono h (d := d) he (List.getElem?_eq_getElem hlt)
  have h2 := validG_lt h (List.getElem?_eq_getElem hlt) he'
  omega
theorem edgeIndex_at {g : TGraph} (h : validG g = true) {k : Nat} {e : TEdge} (he : g.Edges[k]? = some e) : edgeIndex g e.ID = (k : Int) := by
 unfold edgeIndex
 rw [findI_at (k := k) (fun j y hj hy => ?_) he (by simp)]
 ·simp
 ·have h1 := validG_mono h (d := k - j - 1) hy (e' := e) (by rw [show j + (k - j - 1) + 1 = k by omega]; exact he)
  simp; omega
theorem arcsAt_edge {g : TGraph} (h : validG g = true) {x : Int} {j : Nat} {y : TArc} (hy : (arcsAt g x)[j]? = some y) : ∃ (k : Nat) (e : TEdge), g.Edges[k]? = some e ∧ y.step.Edge = e.ID ∧ y.letter = reads e y.step.Inverse ∧ y.to = (if y.step.Inverse then e.From else e.To) := by
 have hm := List.mem_of_getElem? hy
 unfold arcsAt arcsL at hm
 rw [List.mem_flatMap] at hm
 obtain ⟨e, he, hm⟩ := hm
 obtain ⟨k, hk⟩ := List.getElem?_of_mem he
 refine ⟨k, e, hk, ?_⟩
 unfold arcsOf at hm
 rw [List.mem_append] at hm
 rcases hm with hm | hm
 ·split at hm
  ·rw [List.mem_singleton] at hm; subst hm; simp
  ·cases hm
 ·split at hm
  ·rw [List.mem_singleton] at hm; subst hm; simp
  ·cases hm
theorem arcsAt_ok {g : TGraph} (h : validG g = true) {x : Int} {j : Nat} {y : TArc} (hy : (arcsAt g x)[j]? = some y) : 0 ≤ y.letter ∧ y.letter < 6 ∧ 0 ≤ y.to ∧ y.to < g.Values.length := by
 obtain ⟨k, e, he, h1, h2, h3⟩ := arcsAt_edge h hy
 have := validG_edge h he
 rw [h2, h3]
 unfold reads
 cases y.step.Inverse <;> simp <;> omega
theorem range_set {α : Type} (f : Nat → α) (y : α) {n i : Nat} : ((List.range n).map f).set i y = (List.range n).map fun x => if x = i then y else f x := by
 apply List.ext_getElem?
 intro j
 rw [List.getElem?_set]
 simp only [List.length_map, List.length_range, List.getElem?_map]
 by_cases e : i = j
 ·subst e
  by_cases h : i < n
  ·simp [h]
  ·simp [h]
 ·rw [if_neg e]
  by_cases h : j < n
  ·rw [List.getElem?_range h]; simp; intro e'; exact absurd e'.symm e
  ·simp [h]
theorem range_get {α : Type} (f : Nat → α) {n i : Nat} (h : i < n) : ((List.range n).map f)[i]? = some (f i) := by
 rw [List.getElem?_map, List.getElem?_range h]; rfl
end Go.Q
namespace Go.Proofs.YtoealglkenhphaaGreat
open Go.RowKit Go.Q Go.D
theorem implmembers (m : Nat) (hm : m < 9223372036854775808) : FnT Tryz.prog 193 [.one (.v (.int .i64 (m : Int)))] (.a (.one (.sl 1 ((bitsI m).map cInt)))) := by
 refine FnT.walk Tryz.func193 rfl (by kernel_rfl) Tryz.ntmps193 rfl fun hlen w0 => ?_
 try simp [cEdge, cGraph, cStep, cChange, cBatch, cAutomaton, cProductStep, cView] at hlen
 refine AW.sr ?_
 refine AWl.ac rfl rfl rfl rfl rfl ?_
 refine AWl.nilS (i := 2) 20001 1 rfl rfl ?_
 refine AWl.nil ?_
 refine AW.sr ?_
 refine AWl.add (R_empty 5 rfl rfl rfl Tryz.underlying22 ty3 rfl) rfl ?_
 refine AWl.av rfl rfl rfl rfl rfl ?_
 refine AWl.nil ?_
 refine AW.seq ?_
 refine AW.sr ?_
 refine AWl.ac rfl rfl rfl rfl rfl ?_
 refine AWl.nil ?_
 refine AW.block ?_
 refine AW.loop1 (fun (i : Nat) => (i ≤ 63) ∧ True) (fun (i : Nat) => ⟨_, [(4, (true, .a (.one (.t (.v (.int .i64 (i : Nat))))))), (3, (true, .a (.one (.rf 5)))), (0, _), (2, _)], [(5, .row 1 ((((List.range i).filter m.testBit).map fun (q : Nat) => (q : Int)).map cInt))]⟩) (fun (i : Nat) => 64 - i) (0) ⟨by omega, trivial⟩ (Le.sub0 rfl ⟨rfl, rfl, rfl, rfl, trivial⟩ ⟨rfl, trivial⟩) ?_
 rintro i ⟨hk, he⟩
 refine AW.seq ?_
 refine AW.sr ?_
 refine AWl.mv rfl rfl rfl rfl rfl ?_
 refine AWl.mv rfl rfl rfl rfl rfl ?_
 refine AWl.put (R_shr rfl (.no rfl) rfl (.tm rfl) (.tm rfl) (fun _ => by omega)) rfl ?_
 refine AWl.put (R_ne rfl (.no rfl) rfl (.tm rfl) (.const rfl)) rfl ?_
 refine AWl.nil ?_
 refine AW.cond (.tm rfl) (fun h9 => ?_) (fun h9 => ?_)
 ·skip
  try simp only [bit_at, bit_zero, shr_zero] at h9
  try simp only [Int.toNat_natCast] at h9
  try simp at h9
  have hi : i ≤ 62 := by (rcases Nat.lt_or_ge i 63 with h | h; omega; have := Nat.pow_le_pow_right (n := 2) (by omega) h; omega)
  have hl : ((List.range i).filter m.testBit).length ≤ 62 := Nat.le_trans (List.length_filter_le _ _) (by simp; omega)
  refine AW.skip ?_
  refine AW.seq ?_
  refine AW.block ?_
  refine AW.sr ?_
  refine AWl.mv rfl rfl rfl rfl rfl ?_
  refine AWl.mv rfl rfl rfl rfl rfl ?_
  refine AWl.put (R_shr rfl (.no rfl) rfl (.tm rfl) (.tm rfl) (fun _ => by omega)) rfl ?_
  refine AWl.put (R_and1 rfl (.no rfl) rfl (.tm rfl) (.const rfl) (fun _ => by first | exact Int.natCast_nonneg _ | omega)) rfl ?_
  refine AWl.put (R_eq rfl (.no rfl) rfl (.tm rfl) (.const rfl)) rfl ?_
  refine AWl.nil ?_
  refine AW.cond (.tm rfl) (fun h16 => ?_) (fun h16 => ?_)
  ·skip
   try simp only [bit_at, bit_zero, shr_zero] at h16
   try simp only [Int.toNat_natCast] at h16
   try simp at h16
   refine AW.le (σ' := ⟨_, [(0, _), (2, _), (3, _), (4, _)], [(5, _)]⟩) (Le.sub0 rfl ⟨rfl, rfl, rfl, rfl, trivial⟩ ⟨rfl, trivial⟩) ?_
   refine AW.region ?_
   refine AWl.mv rfl rfl rfl rfl rfl ?_
   refine AWl.mv rfl rfl rfl rfl rfl ?_
   refine AWl.absadd (R_list (xs := [.tmp 18]) 19 rfl rfl rfl (.cons (.tm rfl) rfl rfl .nil) Tryz.underlying22 in3 rfl rfl rfl rfl) rfl ?_
   refine AWl.chgput (R_append rfl rfl rfl (.tm rfl) rfl (.tm rfl) (by exact .rf rfl) (by rfl) Tryz.underlying22 in3 rfl (by (simp [chunk]; omega)) (by (unfold maxLen; simp [chunk]; omega))) rfl ?_
   refine AWl.le (σ' := ⟨_, [(0, _), (2, _), (3, _), (4, _), (20, _)], [(5, _), (19, _)]⟩) (Le.sub0 rfl ⟨rfl, rfl, rfl, rfl, rfl, trivial⟩ ⟨rfl, rfl, trivial⟩) ?_
   refine AWl.av rfl rfl rfl rfl rfl ?_
   refine AWl.nil ?_
   refine AW.region ?_
   refine AWl.mv rfl rfl rfl rfl rfl ?_
   refine AWl.put (R_add rfl (.no rfl) rfl (.tm rfl) (.const rfl) (fun _ => by omega)) rfl ?_
   refine AWl.av rfl rfl rfl rfl rfl ?_
   refine AWl.nil ?_
   repeat (with_reducible refine BlockQ.nor ?_)
   refine Round1.next (i + 1) ⟨by omega, trivial⟩ (by omega) (Le.sub0 rfl ⟨rfl, rfl, rfl, rfl, trivial⟩ ⟨congrArg (fun r => some (R.row 1 r)) (by rw [range_filter_succ, h16]; simp [chunk, cInt]), trivial⟩)
  ·skip
   try simp only [bit_at, bit_zero, shr_zero] at h16
   try simp only [Int.toNat_natCast] at h16
   try simp at h16
   refine AW.skip ?_
   refine AW.le (σ' := ⟨_, [(0, _), (2, _), (3, _), (4, _)], [(5, _)]⟩) (Le.sub0 rfl ⟨rfl, rfl, rfl, rfl, trivial⟩ ⟨rfl, trivial⟩) ?_
   refine AW.region ?_
   refine AWl.mv rfl rfl rfl rfl rfl ?_
   refine AWl.put (R_add rfl (.no rfl) rfl (.tm rfl) (.const rfl) (fun _ => by omega)) rfl ?_
   refine AWl.av rfl rfl rfl rfl rfl ?_
   refine AWl.nil ?_
   repeat (with_reducible refine BlockQ.nor ?_)
   refine Round1.next (i + 1) ⟨by omega, trivial⟩ (by omega) (Le.sub0 rfl ⟨rfl, rfl, rfl, rfl, trivial⟩ ⟨congrArg (fun r => some (R.row 1 r)) (by rw [range_filter_succ, h16]; simp), trivial⟩)
 ·skip
  try simp only [bit_at, bit_zero, shr_zero] at h9
  try simp only [Int.toNat_natCast] at h9
  try simp at h9
  refine AW.exit ?_
  refine AW.sr ?_
  refine AWl.mv rfl rfl rfl rfl rfl ?_
  refine AWl.av rfl rfl rfl rfl rfl ?_
  refine AWl.nil ?_
  refine AW.ret ?_
  refine Res.one rfl (.tmp rfl .nil) rfl ?_
  unfold bitsI; rw [bits_eq h9 (by omega)]; rfl
theorem implIsValidAutomaton (a : TAutomaton) : FnT Tryz.prog 210 [.agg (cAutomaton a)] (.a (.one (.v (.bool (validA a))))) := by
 refine FnT.walk Tryz.func210 rfl (by kernel_rfl) Tryz.ntmps210 rfl fun hlen w0 => ?_
 try simp [cEdge, cGraph, cStep, cChange, cBatch, cAutomaton, cProductStep, cView] at hlen
 refine AW.sr ?_
 refine AWl.put (R_boxz rfl rfl rfl (.tm rfl) (ts := _) (by rfl)) rfl ?_
 refine AWl.ac rfl rfl rfl rfl rfl ?_
 refine AWl.nil ?_
 refine AW.sr ?_
 refine AWl.put (by exact R_fieldAddr rfl (.no rfl) rfl (.tm rfl) fl36_1) rfl ?_
 refine AWl.put (by exact R_load rfl (.no rfl) rfl (.tm rfl) ty26 rfl rfl) rfl ?_
 refine AWl.put (by exact R_lenm rfl (.no rfl) rfl (.tm rfl) (by exact .t) Tryz.underlying26) rfl ?_
 refine AWl.av rfl rfl rfl rfl rfl ?_
 refine AWl.nil ?_
 refine AW.seq ?_
 refine AW.sr ?_
 refine AWl.mv rfl rfl rfl rfl rfl ?_
 refine AWl.put (R_callz (FnT.fr (implwithin _ _ _)) rfl (.no rfl) rfl (.cons (.tm rfl) rfl (.cons (.const rfl) rfl (.cons (.const rfl) rfl .nil)))) rfl ?_
 refine AWl.put (R_not rfl (.no rfl) rfl (.tm rfl)) rfl ?_
 refine AWl.mv rfl rfl rfl rfl rfl ?_
 refine AWl.put (by exact R_fieldAddr rfl (by exact .not1 rfl rfl rfl rfl) rfl (.tmp rfl (by exact fun _ => rfl)) fl36_0) rfl ?_
 refine AWl.put (by exact R_load rfl (by exact .not1 rfl rfl rfl rfl) rfl (.tmp rfl (by exact id)) ty3 rfl rfl) rfl ?_
 refine AWl.put (R_move rfl (by exact .not1 rfl rfl rfl rfl) rfl (.tmp rfl (by exact fun _ => rfl))) rfl ?_
 refine AWl.put (R_sub rfl (by exact .not1 rfl rfl rfl rfl) rfl (.tmp rfl (by exact id)) (.const rfl) (fun hq => by first | omega | (simp at hq; omega))) rfl ?_
 refine AWl.put (R_callz (FnT.fr (implwithin _ _ _)) rfl (by exact .not1 rfl rfl rfl rfl) rfl (.cons (.tmp rfl (by exact id)) rfl (.cons (.const rfl) rfl (.cons (.tmp rfl (by exact id)) rfl .nil)))) rfl ?_
 refine AWl.put (R_not rfl (by exact .not1 rfl rfl rfl rfl) rfl (.tmp rfl (by exact id))) rfl ?_
 refine AWl.put (R_or rfl (.no rfl) rfl (.tm rfl) (.tmp rfl (by exact id))) rfl ?_
 refine AWl.mv rfl rfl rfl rfl rfl ?_
 refine AWl.put (by exact R_fieldAddr rfl (by exact .not1 rfl rfl rfl rfl) rfl (.tmp rfl (by exact fun _ => rfl)) fl36_2) rfl ?_
 refine AWl.put (by exact R_load rfl (by exact .not1 rfl rfl rfl rfl) rfl (.tmp rfl (by exact id)) ty27 rfl rfl) rfl ?_
 refine AWl.put (by exact R_lenm rfl (by exact .not1 rfl rfl rfl rfl) rfl (.tmp rfl (by exact id)) (by exact .t) Tryz.underlying27) rfl ?_
 refine AWl.put (R_move rfl (by exact .not1 rfl rfl rfl rfl) rfl (.tmp rfl (by exact fun _ => rfl))) rfl ?_
 refine AWl.put (R_ne rfl (by exact .not1 rfl rfl rfl rfl) rfl (.tmp rfl (by exact id)) (.tmp rfl (by exact id))) rfl ?_
 refine AWl.put (R_or rfl (.no rfl) rfl (.tm rfl) (.tmp rfl (by exact id))) rfl ?_
 refine AWl.nil ?_
 refine AW.cond (.tm rfl) (fun h28 => ?_) (fun h28 => ?_)
 ·skip
  try simp at h28
  refine AW.seq ?_
  refine AW.le (σ' := ⟨_, [(0, _), (1, _), (2, _), (3, _)], []⟩) (Le.sub0 rfl ⟨rfl, rfl, rfl, rfl, trivial⟩ trivial) ?_
  refine AW.region ?_
  refine AWl.ac rfl rfl rfl rfl rfl ?_
  refine AWl.nil ?_
  refine AW.ret ?_
  refine Res.v rfl rfl ?_
  congr 1; unfold validA; revert h28; generalize inB (a.Accept.length : Int) 1 12 = b1; generalize inB a.Start 0 (a.Accept.length - 1) = b2; cases b1 <;> cases b2 <;> simp <;> omega
 ·skip
  try simp at h28
  refine AW.skip ?_
  refine AW.seq ?_
  refine AW.seq ?_
  refine AW.le (σ' := ⟨_, [(0, _), (1, _), (2, _), (3, _)], []⟩) (Le.sub0 rfl ⟨rfl, rfl, rfl, rfl, trivial⟩ trivial) ?_
  refine AW.region ?_
  refine AWl.put (by exact R_fieldAddr rfl (.no rfl) rfl (.tm rfl) fl36_2) rfl ?_
  refine AWl.put (by exact R_load rfl (.no rfl) rfl (.tm rfl) ty27 rfl rfl) rfl ?_
  refine AWl.put (by exact R_lenm rfl (.no rfl) rfl (.tm rfl) (by exact .t) Tryz.underlying27) rfl ?_
  refine AWl.put (R_move rfl (.no rfl) rfl (.const rfl)) rfl ?_
  refine AWl.nil ?_
  refine AW.block ?_
  refine AW.loop (β := Nat) (fun x => x ≤ (a.Next).length ∧ ∀ j y, j < x → (a.Next)[j]? = some y → (rowOk a.Accept.length) y = true) (fun x => ⟨_, [(32, (true, .a (.one (.t (.v (.int .i64 (x : Nat))))))), (3, _), (30, _), (31, _)], []⟩) (fun x => (a.Next).length - x) (0) ⟨Nat.zero_le _, fun j y hj => absurd hj (Nat.not_lt_zero j)⟩ (Le.sub0 rfl ⟨rfl, rfl, rfl, rfl, trivial⟩ trivial) ?_
  intro k hk
  refine AW.sr ?_
  refine AWl.put (R_lt rfl (.no rfl) rfl (.tm rfl) (.tm rfl)) rfl ?_
  refine AWl.nil ?_
  refine AW.seq ?_
  refine AW.cond (.tm rfl) (fun hlt => ?_) (fun hlt => ?_)
  ·skip
   try simp at hlt
   obtain ⟨x, hx⟩ : ∃ ξ, (a.Next)[k]? = some ξ := ⟨_, List.getElem?_eq_getElem (by exact hlt)⟩
   have hxl : x.length ≤ 9223372036854775807 := by (have h := LenR_map.1 hlen.2.2 x (List.mem_of_getElem? hx); simp only [cIntS, LenL, LenT_sl, List.length_map] at h; exact h.1.1)
   refine AW.skip ?_
   refine AW.seq ?_
   refine AW.block ?_
   refine AW.sr ?_
   refine AWl.put ((by exact R_indexAddr rfl (.no rfl) rfl (.tm rfl) (.tm rfl) Tryz.underlying27 ty22 (fun _ => ⟨by omega, (by exact map_get (by assumption))⟩))) rfl ?_
   refine AWl.put (by exact R_load rfl (.no rfl) rfl (.tm rfl) ty22 rfl rfl) rfl ?_
   refine AWl.av rfl rfl rfl rfl rfl ?_
   refine AWl.nil ?_
   refine AW.seq ?_
   refine AW.sr ?_
   refine AWl.mv rfl rfl rfl rfl rfl ?_
   refine AWl.put (by exact R_lenm rfl (.no rfl) rfl (.tm rfl) (by exact .t) Tryz.underlying22) rfl ?_
   refine AWl.put (R_move rfl (.no rfl) rfl (.const rfl)) rfl ?_
   refine AWl.nil ?_
   refine AW.block ?_
   refine AW.loop (β := Nat) (fun ι => ι ≤ (x).length ∧ ∀ j y, j < ι → (x)[j]? = some y → (fun t => inB t (-1) (a.Accept.length - 1)) y = true) (fun ι => ⟨_, [(38, (true, .a (.one (.t (.v (.int .i64 (ι : Nat))))))), (3, _), (5, _), (30, _), (31, _), (32, _), (36, _), (37, _)], []⟩) (fun ι => (x).length - ι) (0) ⟨Nat.zero_le _, fun j y hj => absurd hj (Nat.not_lt_zero j)⟩ (Le.sub0 rfl ⟨rfl, rfl, rfl, rfl, rfl, rfl, rfl, rfl, trivial⟩ trivial) ?_
   intro k1 hk1
   refine AW.sr ?_
   refine AWl.put (R_lt rfl (.no rfl) rfl (.tm rfl) (.tm rfl)) rfl ?_
   refine AWl.nil ?_
   refine AW.seq ?_
   refine AW.cond (.tm rfl) (fun hlt1 => ?_) (fun hlt1 => ?_)
   ·skip
    try simp at hlt1
    obtain ⟨x1, hx1⟩ : ∃ ξ, (x)[k1]? = some ξ := ⟨_, List.getElem?_eq_getElem (by exact hlt1)⟩
    refine AW.skip ?_
    refine AW.seq ?_
    refine AW.block ?_
    refine AW.sr ?_
    refine AWl.put ((by exact R_indexAddr rfl (.no rfl) rfl (.tm rfl) (.tm rfl) Tryz.underlying22 ty3 (fun _ => ⟨by omega, (by exact map_get (by assumption))⟩))) rfl ?_
    refine AWl.put (by exact R_load rfl (.no rfl) rfl (.tm rfl) ty3 rfl rfl) rfl ?_
    refine AWl.av rfl rfl rfl rfl rfl ?_
    refine AWl.nil ?_
    refine AW.sr ?_
    refine AWl.mv rfl rfl rfl rfl rfl ?_
    refine AWl.mv rfl rfl rfl rfl rfl ?_
    refine AWl.put (R_sub rfl (.no rfl) rfl (.tm rfl) (.const rfl) (fun _ => by omega)) rfl ?_
    refine AWl.put (R_callz (FnT.fr (implwithin _ _ _)) rfl (.no rfl) rfl (.cons (.tm rfl) rfl (.cons (.const rfl) rfl (.cons (.tm rfl) rfl .nil)))) rfl ?_
    refine AWl.put (R_not rfl (.no rfl) rfl (.tm rfl)) rfl ?_
    refine AWl.nil ?_
    refine AW.cond (.tm rfl) (fun h46 => ?_) (fun h46 => ?_)
    ·skip
     try simp at h46
     refine AW.seq ?_
     refine AW.le (σ' := ⟨_, [(3, _), (5, _), (7, _), (30, _), (31, _), (32, _), (36, _), (37, _), (38, _)], []⟩) (Le.sub0 rfl ⟨rfl, rfl, rfl, rfl, rfl, rfl, rfl, rfl, rfl, trivial⟩ trivial) ?_
     refine AW.region ?_
     refine AWl.ac rfl rfl rfl rfl rfl ?_
     refine AWl.nil ?_
     refine AW.ret ?_
     refine Res.v rfl rfl ?_
     congr 1; unfold validA; rw [not_all hx (by unfold rowOk; rw [not_all hx1 h46]; rfl)]; simp
    ·skip
     try simp at h46
     refine AW.skip ?_
     refine AW.le (σ' := ⟨_, [(3, _), (5, _), (7, _), (30, _), (31, _), (32, _), (36, _), (37, _), (38, _)], []⟩) (Le.sub0 rfl ⟨rfl, rfl, rfl, rfl, rfl, rfl, rfl, rfl, rfl, trivial⟩ trivial) ?_
     refine AW.region ?_
     refine AWl.put (R_add rfl (.no rfl) rfl (.tm rfl) (.const rfl) (fun _ => by omega)) rfl ?_
     refine AWl.mv rfl rfl rfl rfl rfl ?_
     refine AWl.nil ?_
     refine Round.next (k1 + 1) ⟨by omega, each_succ hk1.2 hx1 (h46)⟩ (by omega) (Le.sub0 rfl ⟨rfl, rfl, rfl, rfl, rfl, rfl, rfl, rfl, trivial⟩ trivial)
   ·skip
    try simp at hlt1
    refine AW.exit ?_
    refine AW.sr ?_
    refine AWl.mv rfl rfl rfl rfl rfl ?_
    refine AWl.put (by exact R_lenm rfl (.no rfl) rfl (.tm rfl) (by exact .t) Tryz.underlying22) rfl ?_
    refine AWl.put (R_ne rfl (.no rfl) rfl (.tm rfl) (.const rfl)) rfl ?_
    refine AWl.nil ?_
    refine AW.cond (.tm rfl) (fun h50 => ?_) (fun h50 => ?_)
    ·skip
     try simp at h50
     refine AW.sr ?_
     refine AWl.ac rfl rfl rfl rfl rfl ?_
     refine AWl.nil ?_
     refine AW.ret ?_
     refine Res.v rfl rfl ?_
     congr 1; unfold validA; rw [not_all hx (by unfold rowOk; rw [decide_eq_false (by omega), Bool.and_false])]; simp
    ·skip
     try simp at h50
     refine AW.skip ?_
     refine AW.region ?_
     refine AWl.put (R_add rfl (.no rfl) rfl (.tm rfl) (.const rfl) (fun _ => by omega)) rfl ?_
     refine AWl.mv rfl rfl rfl rfl rfl ?_
     refine AWl.nil ?_
     refine Round.next (k + 1) ⟨by omega, each_succ hk.2 hx (by unfold rowOk; rw [each_all hk1.2 (by omega), decide_eq_true (by omega)]; rfl)⟩ (by omega) (Le.sub0 rfl ⟨rfl, rfl, rfl, rfl, trivial⟩ trivial)
  ·skip
   try simp at hlt
   refine AW.exit ?_
   refine AW.sr ?_
   refine AWl.ac rfl rfl rfl rfl rfl ?_
   refine AWl.nil ?_
   refine AW.ret ?_
   refine Res.v rfl rfl ?_
   congr 1; unfold validA; rw [each_all hk.2 (by omega)]; revert h28; generalize inB (a.Accept.length : Int) 1 12 = b1; generalize inB a.Start 0 (a.Accept.length - 1) = b2; cases b1 <;> cases b2 <;> simp <;> omega
def fitsA (a : TAutomaton) : Bool := inB a.Start 0 (a.Accept.length - 1) && decide (a.Next.length = a.Accept.length) && a.Next.all (rowOk a.Accept.length)
theorem specl11Fits (a : TAutomaton) : FnT Tryz.prog 205 [.agg (cAutomaton a)] (.a (.one (.v (.bool (fitsA a))))) := by
 refine FnT.walk Tryz.func205 rfl (by kernel_rfl) Tryz.ntmps205 rfl fun hlen w0 => ?_
 try simp [cEdge, cGraph, cStep, cChange, cBatch, cAutomaton, cProductStep, cView] at hlen
 refine AW.sr ?_
 refine AWl.put (R_boxz rfl rfl rfl (.tm rfl) (ts := _) (by rfl)) rfl ?_
 refine AWl.ac rfl rfl rfl rfl rfl ?_
 refine AWl.nil ?_
 refine AW.sr ?_
 refine AWl.put (by exact R_fieldAddr rfl (.no rfl) rfl (.tm rfl) fl36_1) rfl ?_
 refine AWl.put (by exact R_load rfl (.no rfl) rfl (.tm rfl) ty26 rfl rfl) rfl ?_
 refine AWl.put (by exact R_lenm rfl (.no rfl) rfl (.tm rfl) (by exact .t) Tryz.underlying26) rfl ?_
 refine AWl.av rfl rfl rfl rfl rfl ?_
 refine AWl.nil ?_
 refine AW.seq ?_
 refine AW.sr ?_
 refine AWl.put (by exact R_fieldAddr rfl (.no rfl) rfl (.tm rfl) fl36_0) rfl ?_
 refine AWl.put (by exact R_load rfl (.no rfl) rfl (.tm rfl) ty3 rfl rfl) rfl ?_
 refine AWl.mv rfl rfl rfl rfl rfl ?_
 refine AWl.put (R_sub rfl (.no rfl) rfl (.tm rfl) (.const rfl) (fun _ => by omega)) rfl ?_
 refine AWl.put (R_callz (FnT.fr (specl1In _ _ _)) rfl (.no rfl) rfl (.cons (.tm rfl) rfl (.cons (.const rfl) rfl (.cons (.tm rfl) rfl .nil)))) rfl ?_
 refine AWl.put (R_not rfl (.no rfl) rfl (.tm rfl)) rfl ?_
 refine AWl.mv rfl rfl rfl rfl rfl ?_
 refine AWl.put (by exact R_fieldAddr rfl (by exact .not1 rfl rfl rfl rfl) rfl (.tmp rfl (by exact fun _ => rfl)) fl36_2) rfl ?_
 refine AWl.put (by exact R_load rfl (by exact .not1 rfl rfl rfl rfl) rfl (.tmp rfl (by exact id)) ty27 rfl rfl) rfl ?_
 refine AWl.put (by exact R_lenm rfl (by exact .not1 rfl rfl rfl rfl) rfl (.tmp rfl (by exact id)) (by exact .t) Tryz.underlying27) rfl ?_
 refine AWl.put (R_move rfl (by exact .not1 rfl rfl rfl rfl) rfl (.tmp rfl (by exact fun _ => rfl))) rfl ?_
 refine AWl.put (R_ne rfl (by exact .not1 rfl rfl rfl rfl) rfl (.tmp rfl (by exact id)) (.tmp rfl (by exact id))) rfl ?_
 refine AWl.put (R_or rfl (.no rfl) rfl (.tm rfl) (.tmp rfl (by exact id))) rfl ?_
 refine AWl.nil ?_
 refine AW.cond (.tm rfl) (fun h21 => ?_) (fun h21 => ?_)
 ·skip
  try simp at h21
  refine AW.seq ?_
  refine AW.le (σ' := ⟨_, [(0, _), (1, _), (2, _), (3, _)], []⟩) (Le.sub0 rfl ⟨rfl, rfl, rfl, rfl, trivial⟩ trivial) ?_
  refine AW.region ?_
  refine AWl.ac rfl rfl rfl rfl rfl ?_
  refine AWl.nil ?_
  refine AW.ret ?_
  refine Res.v rfl rfl ?_
  congr 1; unfold fitsA; revert h21; generalize inB a.Start 0 (a.Accept.length - 1) = b2; cases b2 <;> simp <;> omega
 ·skip
  try simp at h21
  have hnl : a.Next.length = a.Accept.length := by (revert h21; simp; omega)
  refine AW.skip ?_
  refine AW.seq ?_
  refine AW.seq ?_
  refine AW.le (σ' := ⟨_, [(0, _), (1, _), (2, _), (3, _)], []⟩) (Le.sub0 rfl ⟨rfl, rfl, rfl, rfl, trivial⟩ trivial) ?_
  refine AW.region ?_
  refine AWl.ac rfl rfl rfl rfl rfl ?_
  refine AWl.nil ?_
  refine AW.block ?_
  refine AW.loop (β := Nat) (fun x => x ≤ (a.Next).length ∧ ∀ j y, j < x → (a.Next)[j]? = some y → (rowOk a.Accept.length) y = true) (fun x => ⟨_, [(4, (true, .a (.one (.t (.v (.int .i64 (x : Nat))))))), (1, _), (3, _)], []⟩) (fun x => (a.Next).length - x) (0) ⟨Nat.zero_le _, fun j y hj => absurd hj (Nat.not_lt_zero j)⟩ (Le.sub0 rfl ⟨rfl, rfl, rfl, trivial⟩ trivial) ?_
  intro k hk
  refine AW.seq ?_
  refine AW.sr ?_
  refine AWl.mv rfl rfl rfl rfl rfl ?_
  refine AWl.mv rfl rfl rfl rfl rfl ?_
  refine AWl.put (R_lt rfl (.no rfl) rfl (.tm rfl) (.tm rfl)) rfl ?_
  refine AWl.nil ?_
  refine AW.cond (.tm rfl) (fun hlt => ?_) (fun hlt => ?_)
  ·skip
   try simp at hlt
   obtain ⟨x, hx⟩ : ∃ ξ, (a.Next)[k]? = some ξ := ⟨_, List.getElem?_eq_getElem (by omega)⟩
   refine AW.skip ?_
   refine AW.seq ?_
   refine AW.block ?_
   refine AW.seq ?_
   refine AW.sr ?_
   refine AWl.put (by exact R_fieldAddr rfl (.no rfl) rfl (.tm rfl) fl36_2) rfl ?_
   refine AWl.put (by exact R_load rfl (.no rfl) rfl (.tm rfl) ty27 rfl rfl) rfl ?_
   refine AWl.mv rfl rfl rfl rfl rfl ?_
   refine AWl.put ((by exact R_indexAddr rfl (.no rfl) rfl (.tm rfl) (.tm rfl) Tryz.underlying27 ty22 (fun _ => ⟨by omega, (by exact map_get (by assumption))⟩))) rfl ?_
   refine AWl.put (by exact R_load rfl (.no rfl) rfl (.tm rfl) ty22 rfl rfl) rfl ?_
   refine AWl.put (by exact R_lenm rfl (.no rfl) rfl (.tm rfl) (by exact .t) Tryz.underlying22) rfl ?_
   refine AWl.put (R_ne rfl (.no rfl) rfl (.tm rfl) (.const rfl)) rfl ?_
   refine AWl.nil ?_
   refine AW.cond (.tm rfl) (fun h33 => ?_) (fun h33 => ?_)
   ·skip
    try simp at h33
    refine AW.seq ?_
    refine AW.le (σ' := ⟨_, [(1, _), (3, _), (4, _)], []⟩) (Le.sub0 rfl ⟨rfl, rfl, rfl, trivial⟩ trivial) ?_
    refine AW.region ?_
    refine AWl.ac rfl rfl rfl rfl rfl ?_
    refine AWl.nil ?_
    refine AW.ret ?_
    refine Res.v rfl rfl ?_
    congr 1; unfold fitsA; rw [not_all hx (by unfold rowOk; rw [decide_eq_false (by omega), Bool.and_false])]; simp
   ·skip
    try simp at h33
    refine AW.skip ?_
    refine AW.seq ?_
    refine AW.le (σ' := ⟨_, [(1, _), (3, _), (4, _)], []⟩) (Le.sub0 rfl ⟨rfl, rfl, rfl, trivial⟩ trivial) ?_
    refine AW.region ?_
    refine AWl.ac rfl rfl rfl rfl rfl ?_
    refine AWl.nil ?_
    refine AW.block ?_
    refine AW.loop (β := Nat) (fun ι => ι ≤ (x).length ∧ ∀ j y, j < ι → (x)[j]? = some y → (fun t => inB t (-1) (a.Accept.length - 1)) y = true) (fun ι => ⟨_, [(5, (true, .a (.one (.t (.v (.int .i64 (ι : Nat))))))), (1, _), (3, _), (4, _)], []⟩) (fun ι => (x).length - ι) (0) ⟨Nat.zero_le _, fun j y hj => absurd hj (Nat.not_lt_zero j)⟩ (Le.sub0 rfl ⟨rfl, rfl, rfl, rfl, trivial⟩ trivial) ?_
    intro k1 hk1
    refine AW.seq ?_
    refine AW.sr ?_
    refine AWl.mv rfl rfl rfl rfl rfl ?_
    refine AWl.put (R_lt rfl (.no rfl) rfl (.tm rfl) (.const rfl)) rfl ?_
    refine AWl.nil ?_
    refine AW.cond (.tm rfl) (fun hlt1 => ?_) (fun hlt1 => ?_)
    ·skip
     try simp at hlt1
     obtain ⟨x1, hx1⟩ : ∃ ξ, (x)[k1]? = some ξ := ⟨_, List.getElem?_eq_getElem (by omega)⟩
     refine AW.skip ?_
     refine AW.seq ?_
     refine AW.block ?_
     refine AW.sr ?_
     refine AWl.put (by exact R_fieldAddr rfl (.no rfl) rfl (.tm rfl) fl36_2) rfl ?_
     refine AWl.put (by exact R_load rfl (.no rfl) rfl (.tm rfl) ty27 rfl rfl) rfl ?_
     refine AWl.mv rfl rfl rfl rfl rfl ?_
     refine AWl.put ((by exact R_indexAddr rfl (.no rfl) rfl (.tm rfl) (.tm rfl) Tryz.underlying27 ty22 (fun _ => ⟨by omega, (by exact map_get (by assumption))⟩))) rfl ?_
     refine AWl.put (by exact R_load rfl (.no rfl) rfl (.tm rfl) ty22 rfl rfl) rfl ?_
     refine AWl.mv rfl rfl rfl rfl rfl ?_
     refine AWl.put ((by exact R_indexAddr rfl (.no rfl) rfl (.tm rfl) (.tm rfl) Tryz.underlying22 ty3 (fun _ => ⟨by omega, (by exact map_get (by assumption))⟩))) rfl ?_
     refine AWl.put (by exact R_load rfl (.no rfl) rfl (.tm rfl) ty3 rfl rfl) rfl ?_
     refine AWl.mv rfl rfl rfl rfl rfl ?_
     refine AWl.put (R_sub rfl (.no rfl) rfl (.tm rfl) (.const rfl) (fun _ => by omega)) rfl ?_
     refine AWl.put (R_callz (FnT.fr (specl1In _ _ _)) rfl (.no rfl) rfl (.cons (.tm rfl) rfl (.cons (.const rfl) rfl (.cons (.tm rfl) rfl .nil)))) rfl ?_
     refine AWl.put (R_not rfl (.no rfl) rfl (.tm rfl)) rfl ?_
     refine AWl.nil ?_
     refine AW.cond (.tm rfl) (fun h49 => ?_) (fun h49 => ?_)
     ·skip
      try simp at h49
      refine AW.seq ?_
      refine AW.le (σ' := ⟨_, [(1, _), (3, _), (4, _), (5, _)], []⟩) (Le.sub0 rfl ⟨rfl, rfl, rfl, rfl, trivial⟩ trivial) ?_
      refine AW.region ?_
      refine AWl.ac rfl rfl rfl rfl rfl ?_
      refine AWl.nil ?_
      refine AW.ret ?_
      refine Res.v rfl rfl ?_
      congr 1; unfold fitsA; rw [not_all hx (by unfold rowOk; rw [not_all hx1 h49]; rfl)]; simp
     ·skip
      try simp at h49
      refine AW.skip ?_
      refine AW.le (σ' := ⟨_, [(1, _), (3, _), (4, _), (5, _)], []⟩) (Le.sub0 rfl ⟨rfl, rfl, rfl, rfl, trivial⟩ trivial) ?_
      refine AW.region ?_
      refine AWl.mv rfl rfl rfl rfl rfl ?_
      refine AWl.put (R_add rfl (.no rfl) rfl (.tm rfl) (.const rfl) (fun _ => by omega)) rfl ?_
      refine AWl.av rfl rfl rfl rfl rfl ?_
      refine AWl.nil ?_
      refine Round.next (k1 + 1) ⟨by omega, each_succ hk1.2 hx1 (h49)⟩ (by omega) (Le.sub0 rfl ⟨rfl, rfl, rfl, rfl, trivial⟩ trivial)
    ·skip
     try simp at hlt1
     refine AW.exit ?_
     refine AW.region ?_
     refine AWl.mv rfl rfl rfl rfl rfl ?_
     refine AWl.put (R_add rfl (.no rfl) rfl (.tm rfl) (.const rfl) (fun _ => by omega)) rfl ?_
     refine AWl.av rfl rfl rfl rfl rfl ?_
     refine AWl.nil ?_
     refine Round.next (k + 1) ⟨by omega, each_succ hk.2 hx (by unfold rowOk; rw [each_all hk1.2 (by omega), decide_eq_true (by omega)]; rfl)⟩ (by omega) (Le.sub0 rfl ⟨rfl, rfl, rfl, trivial⟩ trivial)
  ·skip
   try simp at hlt
   refine AW.exit ?_
   refine AW.sr ?_
   refine AWl.ac rfl rfl rfl rfl rfl ?_
   refine AWl.nil ?_
   refine AW.ret ?_
   refine Res.v rfl rfl ?_
   congr 1; unfold fitsA; rw [each_all hk.2 (by omega)]; revert h21; generalize inB a.Start 0 (a.Accept.length - 1) = b2; cases b2 <;> simp <;> omega
theorem fits_valid (a : TAutomaton) : (decide ((a.Accept.length : Int) ≤ 12) && fitsA a) = validA a := by
 unfold fitsA validA inB
 rw [Bool.eq_iff_iff]
 simp only [Bool.and_eq_true, decide_eq_true_eq]
 constructor
 ·rintro ⟨h1, ⟨⟨h2, h3⟩, h4⟩, h5⟩; exact ⟨⟨⟨⟨by omega, h1⟩, h2, h3⟩, h4⟩, h5⟩
 ·rintro ⟨⟨⟨⟨h0, h1⟩, h2, h3⟩, h4⟩, h5⟩; exact ⟨h1, ⟨⟨h2, h3⟩, h4⟩, h5⟩
theorem specIsValidAutomaton (a : TAutomaton) : FnT Tryz.prog 186 [.agg (cAutomaton a)] (.a (.one (.v (.bool (validA a))))) := by
 refine FnT.walk Tryz.func186 rfl (by kernel_rfl) Tryz.ntmps186 rfl fun hlen w0 => ?_
 try simp [cEdge, cGraph, cStep, cChange, cBatch, cAutomaton, cProductStep, cView] at hlen
 refine AW.sr ?_
 refine AWl.put (R_boxz rfl rfl rfl (.tm rfl) (ts := _) (by rfl)) rfl ?_
 refine AWl.ac rfl rfl rfl rfl rfl ?_
 refine AWl.nil ?_
 refine AW.sr ?_
 refine AWl.put (by exact R_fieldAddr rfl (.no rfl) rfl (.tm rfl) fl36_1) rfl ?_
 refine AWl.put (by exact R_load rfl (.no rfl) rfl (.tm rfl) ty26 rfl rfl) rfl ?_
 refine AWl.put (by exact R_lenm rfl (.no rfl) rfl (.tm rfl) (by exact .t) Tryz.underlying26) rfl ?_
 refine AWl.put (R_le rfl (.no rfl) rfl (.tm rfl) (.const rfl)) rfl ?_
 refine AWl.mv rfl rfl rfl rfl rfl ?_
 refine AWl.put (by exact R_load rfl (by exact .yes1 rfl rfl rfl rfl) rfl (.tmp rfl (by exact fun _ => rfl)) ty36 rfl rfl) rfl ?_
 refine AWl.put (R_callz (FnT.fr (specl11Fits _)) rfl (by exact .yes1 rfl rfl rfl rfl) rfl (.cons (.tmp rfl (by exact id)) rfl .nil)) rfl ?_
 refine AWl.put (R_and rfl (.no rfl) rfl (.tm rfl) (.tmp rfl (by exact id))) rfl ?_
 refine AWl.av rfl rfl rfl rfl rfl ?_
 refine AWl.nil ?_
 refine AW.ret ?_
 refine Res.v rfl rfl ?_
 rw [← fits_valid]
theorem implmove (a : TAutomaton) (ha : validA a = true) (s k : Int) (hs : s < a.Accept.length) (hk : 0 ≤ k ∧ k < 9) : FnT Tryz.prog 214 [.agg (cAutomaton a), .one (.v (.int .i64 s)), .one (.v (.int .i64 k))] (.a (.one (.v (.int .i64 (if s < 0 then -1 else nextOf a s k))))) := by
 refine FnT.walk Tryz.func214 rfl (by kernel_rfl) Tryz.ntmps214 rfl fun hlen w0 => ?_
 try simp [cEdge, cGraph, cStep, cChange, cBatch, cAutomaton, cProductStep, cView] at hlen
 have hin : inB k 0 8 = true := by unfold inB; simp; omega
 refine AW.sr ?_
 refine AWl.put (R_boxz rfl rfl rfl (.tm rfl) (ts := _) (by rfl)) rfl ?_
 refine AWl.ac rfl rfl rfl rfl rfl ?_
 refine AWl.nil ?_
 refine AW.seq ?_
 refine AW.sr ?_
 refine AWl.mv rfl rfl rfl rfl rfl ?_
 refine AWl.put (R_lt rfl (.no rfl) rfl (.tm rfl) (.const rfl)) rfl ?_
 refine AWl.mv rfl rfl rfl rfl rfl ?_
 refine AWl.put (R_move rfl (by exact .not1 rfl rfl rfl rfl) rfl (.tmp rfl (by exact fun _ => rfl))) rfl ?_
 refine AWl.put (R_callz (FnT.fr (implisLetter _)) rfl (by exact .not1 rfl rfl rfl rfl) rfl (.cons (.tmp rfl (by exact id)) rfl .nil)) rfl ?_
 refine AWl.put (R_not rfl (by exact .not1 rfl rfl rfl rfl) rfl (.tmp rfl (by exact id))) rfl ?_
 refine AWl.put (R_or rfl (.no rfl) rfl (.tm rfl) (.tmp rfl (by exact id))) rfl ?_
 refine AWl.nil ?_
 refine AW.cond (.tm rfl) (fun h13 => ?_) (fun h13 => ?_)
 ·skip
  try simp at h13
  rw [hin] at h13; simp at h13
  refine AW.seq ?_
  refine AW.le (σ' := ⟨_, [(0, _), (1, _), (2, _), (3, _), (6, _)], []⟩) (Le.sub0 rfl ⟨rfl, rfl, rfl, rfl, rfl, trivial⟩ trivial) ?_
  refine AW.region ?_
  refine AWl.ac rfl rfl rfl rfl rfl ?_
  refine AWl.nil ?_
  refine AW.ret ?_
  refine Res.v rfl rfl ?_
  rw [if_pos (by omega)]
 ·skip
  try simp at h13
  rw [hin] at h13; simp at h13; obtain ⟨row, hr1, hr2, hr3, hr4⟩ := validA_next ha (s := s) (k := k) (by omega) hs hk.1 hk.2
  refine AW.skip ?_
  refine AW.seq ?_
  refine AW.le (σ' := ⟨_, [(0, _), (1, _), (2, _), (3, _), (6, _)], []⟩) (Le.sub0 rfl ⟨rfl, rfl, rfl, rfl, rfl, trivial⟩ trivial) ?_
  refine AW.region ?_
  refine AWl.put (by exact R_fieldAddr rfl (.no rfl) rfl (.tm rfl) fl36_2) rfl ?_
  refine AWl.put (by exact R_load rfl (.no rfl) rfl (.tm rfl) ty27 rfl rfl) rfl ?_
  refine AWl.mv rfl rfl rfl rfl rfl ?_
  refine AWl.put (by exact R_indexAddr rfl (.no rfl) rfl (.tm rfl) (.tm rfl) Tryz.underlying27 ty22 (fun _ => ⟨by omega, (by exact map_get hr1)⟩)) rfl ?_
  refine AWl.put (by exact R_load rfl (.no rfl) rfl (.tm rfl) ty22 rfl rfl) rfl ?_
  refine AWl.mv rfl rfl rfl rfl rfl ?_
  refine AWl.put (by exact R_indexAddr rfl (.no rfl) rfl (.tm rfl) (.tm rfl) Tryz.underlying22 ty3 (fun _ => ⟨by omega, (by exact map_get hr3)⟩)) rfl ?_
  refine AWl.put (by exact R_load rfl (.no rfl) rfl (.tm rfl) ty3 rfl rfl) rfl ?_
  refine AWl.av rfl rfl rfl rfl rfl ?_
  refine AWl.nil ?_
  refine AW.ret ?_
  refine Res.v rfl rfl ?_
  rw [if_neg (by omega)]
theorem implmoveN (a : TAutomaton) (ha : validA a = true) (t : Nat) (k : Int) (ht : t < a.Accept.length) (hk : 0 ≤ k ∧ k < 9) : FnT Tryz.prog 214 [.agg (cAutomaton a), .one (.v (.int .i64 (t : Int))), .one (.v (.int .i64 k))] (.a (.one (.v (.int .i64 (nextOf a t k))))) := by
 have := implmove a ha (t : Int) k (by omega) hk
 rwa [if_neg (by omega)] at this
theorem implclosure (a : TAutomaton) (ha : validA a = true) (s v : Int) (hst : -1 ≤ s ∧ s < a.Accept.length) (hv : 0 ≤ v ∧ v ≤ 2) : FnT Tryz.prog 213 [.agg (cAutomaton a), .one (.v (.int .i64 s)), .one (.v (.int .i64 v))] (.a (.one (.v (.int .i64 (closure a s v : Nat))))) := by
 refine FnT.walk Tryz.func213 rfl (by kernel_rfl) Tryz.ntmps213 rfl fun hlen w0 => ?_
 try simp [cEdge, cGraph, cStep, cChange, cBatch, cAutomaton, cProductStep, cView] at hlen
 have hA := validA_len ha
 have hP := pow_le_12 ha
 refine AW.sr ?_
 refine AWl.put (R_boxz rfl rfl rfl (.tm rfl) (ts := _) (by rfl)) rfl ?_
 refine AWl.ac rfl rfl rfl rfl rfl ?_
 refine AWl.nil ?_
 refine AW.sr ?_
 refine AWl.ac rfl rfl rfl rfl rfl ?_
 refine AWl.nil ?_
 refine AW.seq ?_
 refine AW.sr ?_
 refine AWl.mv rfl rfl rfl rfl rfl ?_
 refine AWl.av rfl rfl rfl rfl rfl ?_
 refine AWl.nil ?_
 refine AW.block ?_
 refine AW.loop3 (fun (x : Int) (m : Nat) (f : Nat) => (unset a.Accept.length m < f ∧ m < 2 ^ a.Accept.length ∧ -1 ≤ x ∧ x < a.Accept.length) ∧ closure a s v = clos a v f x m) (fun (x : Int) (m : Nat) (f : Nat) => ⟨_, [(8, (true, .a (.one (.t (.v (.int .i64 x)))))), (7, (true, .a (.one (.t (.v (.int .i64 (m : Nat))))))), (2, _), (3, _), (6, _)], []⟩) (fun (x : Int) (m : Nat) (f : Nat) => f) (s) (0) (a.Accept.length + 1) ⟨⟨by have := unset_le 0 a.Accept.length; omega, Nat.two_pow_pos _, hst.1, hst.2⟩, rfl⟩ (Le.sub0 rfl ⟨rfl, rfl, rfl, rfl, rfl, trivial⟩ trivial) ?_
 rintro x m f ⟨hk, he⟩
 refine AW.seq ?_
 refine AW.sr ?_
 refine AWl.mv rfl rfl rfl rfl rfl ?_
 refine AWl.put (R_ge rfl (.no rfl) rfl (.tm rfl) (.const rfl)) rfl ?_
 refine AWl.mv rfl rfl rfl rfl rfl ?_
 refine AWl.put (R_move rfl (by exact .yes1 rfl rfl rfl rfl) rfl (.tmp rfl (by exact fun _ => rfl))) rfl ?_
 refine AWl.put (R_move rfl (by exact .yes1 rfl rfl rfl rfl) rfl (.tmp rfl (by exact fun _ => rfl))) rfl ?_
 refine AWl.put (R_shr rfl (by exact .yes1 rfl rfl rfl rfl) rfl (.tmp rfl (by exact id)) (.tmp rfl (by exact id)) (fun hq => by first | omega | (simp at hq; omega))) rfl ?_
 refine AWl.put (R_and1 rfl (by exact .yes1 rfl rfl rfl rfl) rfl (.tmp rfl (by exact id)) (.const rfl) (fun _ => by first | exact Int.natCast_nonneg _ | omega)) rfl ?_
 refine AWl.put (R_eq rfl (by exact .yes1 rfl rfl rfl rfl) rfl (.tmp rfl (by exact id)) (.const rfl)) rfl ?_
 refine AWl.put (R_and rfl (.no rfl) rfl (.tm rfl) (.tmp rfl (by exact id))) rfl ?_
 refine AWl.nil ?_
 refine AW.cond (.tm rfl) (fun h18 => ?_) (fun h18 => ?_)
 ·skip
  try simp only [bit_at, bit_zero, shr_zero] at h18
  try simp only [Int.toNat_natCast] at h18
  try simp at h18
  obtain ⟨hx0, hbit⟩ : 0 ≤ x ∧ m.testBit x.toNat = false := h18
  obtain ⟨f', rfl⟩ : ∃ f', f = f' + 1 := ⟨f - 1, by omega⟩
  have h2x := pow_12 ha (x := x.toNat) (by omega)
  have h2p := Nat.two_pow_pos x.toNat
  have hun := unset_or (n := a.Accept.length) hbit (by omega)
  obtain ⟨_, _, _, _, hn1, hn2⟩ := validA_next ha (s := x) (k := 6 + v) hx0 hk.2.2.2 (by omega) (by omega)
  refine AW.skip ?_
  refine AW.seq ?_
  refine AW.block ?_
  refine AW.le (σ' := ⟨_, [(2, _), (3, _), (6, _), (7, _), (8, _)], []⟩) (Le.sub0 rfl ⟨rfl, rfl, rfl, rfl, rfl, trivial⟩ trivial) ?_
  refine AW.region ?_
  refine AWl.mv rfl rfl rfl rfl rfl ?_
  refine AWl.mv rfl rfl rfl rfl rfl ?_
  refine AWl.put (R_shlN rfl (.no rfl) rfl (.const rfl) (.tm rfl) (fun _ => by omega)) rfl ?_
  refine AWl.put (R_or_int rfl (.no rfl) rfl (.tm rfl) (.tm rfl) (fun _ => by omega)) rfl ?_
  refine AWl.av rfl rfl rfl rfl rfl ?_
  refine AWl.nil ?_
  refine AW.region ?_
  refine AWl.put (by exact R_load rfl (.no rfl) rfl (.tm rfl) ty36 rfl rfl) rfl ?_
  refine AWl.mv rfl rfl rfl rfl rfl ?_
  refine AWl.mv rfl rfl rfl rfl rfl ?_
  refine AWl.put (R_add rfl (.no rfl) rfl (.const rfl) (.tm rfl) (fun _ => by omega)) rfl ?_
  refine AWl.put (R_callz (FnT.fr (implmove a ha _ _ hk.2.2.2 (by omega))) rfl (.no rfl) rfl (.cons (.tm rfl) rfl (.cons (.tm rfl) rfl (.cons (.tm rfl) rfl .nil)))) rfl ?_
  refine AWl.av rfl rfl rfl rfl rfl ?_
  refine AWl.nil ?_
  repeat (with_reducible refine BlockQ.nor ?_)
  refine Round3.next ((if x < 0 then -1 else nextOf a x (6 + v))) (m ||| 2 ^ x.toNat) (f') ⟨⟨by omega, or_pow_lt hk.2.1 (by omega), by rw [if_neg (by omega)]; exact hn1, by rw [if_neg (by omega)]; exact hn2⟩, by rw [he, clos_on hx0 hbit, if_neg (by omega)]⟩ (by omega) (Le.sub0 rfl ⟨rfl, rfl, rfl, rfl, rfl, trivial⟩ trivial)
 ·skip
  try simp only [bit_at, bit_zero, shr_zero] at h18
  try simp only [Int.toNat_natCast] at h18
  try simp at h18
  refine AW.exit ?_
  refine AW.seq ?_
  refine AW.le (σ' := ⟨_, [(2, _), (3, _), (6, _), (7, _), (8, _)], []⟩) (Le.sub0 rfl ⟨rfl, rfl, rfl, rfl, rfl, trivial⟩ trivial) ?_
  refine AW.region ?_
  refine AWl.mv rfl rfl rfl rfl rfl ?_
  refine AWl.av rfl rfl rfl rfl rfl ?_
  refine AWl.nil ?_
  refine AW.ret ?_
  refine Res.v rfl rfl ?_
  rw [he]; obtain ⟨f', rfl⟩ : ∃ f', f = f' + 1 := ⟨f - 1, by omega⟩; rw [clos_stop (by rcases Int.lt_or_le x 0 with h | h; exact .inl h; exact .inr (h18 h))]
theorem specl14Closure (a : TAutomaton) (ha : validA a = true) (s v : Int) (hst : -1 ≤ s ∧ s < a.Accept.length) (hv : 0 ≤ v ∧ v ≤ 2) : FnT Tryz.prog 154 [.agg (cAutomaton a), .one (.v (.int .i64 s)), .one (.v (.int .i64 v))] (.a (.one (.v (.int .i64 (closure a s v : Nat))))) := by
 refine FnT.walk Tryz.func154 rfl (by kernel_rfl) Tryz.ntmps154 rfl fun hlen w0 => ?_
 try simp [cEdge, cGraph, cStep, cChange, cBatch, cAutomaton, cProductStep, cView] at hlen
 have hA := validA_len ha
 have hP := pow_le_12 ha
 refine AW.sr ?_
 refine AWl.put (R_boxz rfl rfl rfl (.tm rfl) (ts := _) (by rfl)) rfl ?_
 refine AWl.ac rfl rfl rfl rfl rfl ?_
 refine AWl.nil ?_
 refine AW.sr ?_
 refine AWl.ac rfl rfl rfl rfl rfl ?_
 refine AWl.nil ?_
 refine AW.seq ?_
 refine AW.block ?_
 refine AW.loop3 (fun (x : Int) (m : Nat) (f : Nat) => (unset a.Accept.length m < f ∧ m < 2 ^ a.Accept.length ∧ -1 ≤ x ∧ x < a.Accept.length) ∧ closure a s v = clos a v f x m) (fun (x : Int) (m : Nat) (f : Nat) => ⟨_, [(1, (true, .a (.one (.t (.v (.int .i64 x)))))), (7, (true, .a (.one (.t (.v (.int .i64 (m : Nat))))))), (2, _), (3, _), (6, _)], []⟩) (fun (x : Int) (m : Nat) (f : Nat) => f) (s) (0) (a.Accept.length + 1) ⟨⟨by have := unset_le 0 a.Accept.length; omega, Nat.two_pow_pos _, hst.1, hst.2⟩, rfl⟩ (Le.sub0 rfl ⟨rfl, rfl, rfl, rfl, rfl, trivial⟩ trivial) ?_
 rintro x m f ⟨hk, he⟩
 refine AW.seq ?_
 refine AW.sr ?_
 refine AWl.mv rfl rfl rfl rfl rfl ?_
 refine AWl.put (R_ge rfl (.no rfl) rfl (.tm rfl) (.const rfl)) rfl ?_
 refine AWl.mv rfl rfl rfl rfl rfl ?_
 refine AWl.put (R_move rfl (by exact .yes1 rfl rfl rfl rfl) rfl (.tmp rfl (by exact fun _ => rfl))) rfl ?_
 refine AWl.put (R_move rfl (by exact .yes1 rfl rfl rfl rfl) rfl (.tmp rfl (by exact fun _ => rfl))) rfl ?_
 refine AWl.put (R_shr rfl (by exact .yes1 rfl rfl rfl rfl) rfl (.tmp rfl (by exact id)) (.tmp rfl (by exact id)) (fun hq => by first | omega | (simp at hq; omega))) rfl ?_
 refine AWl.put (R_and1 rfl (by exact .yes1 rfl rfl rfl rfl) rfl (.tmp rfl (by exact id)) (.const rfl) (fun _ => by first | exact Int.natCast_nonneg _ | omega)) rfl ?_
 refine AWl.put (R_eq rfl (by exact .yes1 rfl rfl rfl rfl) rfl (.tmp rfl (by exact id)) (.const rfl)) rfl ?_
 refine AWl.put (R_and rfl (.no rfl) rfl (.tm rfl) (.tmp rfl (by exact id))) rfl ?_
 refine AWl.nil ?_
 refine AW.cond (.tm rfl) (fun h16 => ?_) (fun h16 => ?_)
 ·skip
  try simp only [bit_at, bit_zero, shr_zero] at h16
  try simp only [Int.toNat_natCast] at h16
  try simp at h16
  obtain ⟨hx0, hbit⟩ : 0 ≤ x ∧ m.testBit x.toNat = false := h16
  obtain ⟨f', rfl⟩ : ∃ f', f = f' + 1 := ⟨f - 1, by omega⟩
  have h2x := pow_12 ha (x := x.toNat) (by omega)
  have h2p := Nat.two_pow_pos x.toNat
  have hun := unset_or (n := a.Accept.length) hbit (by omega)
  obtain ⟨row, hr1, hr2, hr3, hn1, hn2⟩ := validA_next ha (s := x) (k := 6 + v) hx0 hk.2.2.2 (by omega) (by omega)
  refine AW.skip ?_
  refine AW.block ?_
  refine AW.seq ?_
  refine AW.le (σ' := ⟨_, [(1, _), (2, _), (3, _), (6, _), (7, _)], []⟩) (Le.sub0 rfl ⟨rfl, rfl, rfl, rfl, rfl, trivial⟩ trivial) ?_
  refine AW.region ?_
  refine AWl.mv rfl rfl rfl rfl rfl ?_
  refine AWl.mv rfl rfl rfl rfl rfl ?_
  refine AWl.put (R_shlN rfl (.no rfl) rfl (.const rfl) (.tm rfl) (fun _ => by omega)) rfl ?_
  refine AWl.put (R_or_int rfl (.no rfl) rfl (.tm rfl) (.tm rfl) (fun _ => by omega)) rfl ?_
  refine AWl.av rfl rfl rfl rfl rfl ?_
  refine AWl.nil ?_
  refine AW.region ?_
  refine AWl.put (by exact R_fieldAddr rfl (.no rfl) rfl (.tm rfl) fl36_2) rfl ?_
  refine AWl.put (by exact R_load rfl (.no rfl) rfl (.tm rfl) ty27 rfl rfl) rfl ?_
  refine AWl.mv rfl rfl rfl rfl rfl ?_
  refine AWl.put (by exact R_indexAddr rfl (.no rfl) rfl (.tm rfl) (.tm rfl) Tryz.underlying27 ty22 (fun _ => ⟨by omega, (by exact map_get hr1)⟩)) rfl ?_
  refine AWl.put (by exact R_load rfl (.no rfl) rfl (.tm rfl) ty22 rfl rfl) rfl ?_
  refine AWl.mv rfl rfl rfl rfl rfl ?_
  refine AWl.put (R_add rfl (.no rfl) rfl (.const rfl) (.tm rfl) (fun _ => by omega)) rfl ?_
  refine AWl.put (by exact R_indexAddr rfl (.no rfl) rfl (.tm rfl) (.tm rfl) Tryz.underlying22 ty3 (fun _ => ⟨by omega, (by exact map_get hr3)⟩)) rfl ?_
  refine AWl.put (by exact R_load rfl (.no rfl) rfl (.tm rfl) ty3 rfl rfl) rfl ?_
  refine AWl.av rfl rfl rfl rfl rfl ?_
  refine AWl.nil ?_
  repeat (with_reducible refine BlockQ.nor ?_)
  refine Round3.next (nextOf a x (6 + v)) (m ||| 2 ^ x.toNat) (f') ⟨⟨by omega, or_pow_lt hk.2.1 (by omega), hn1, hn2⟩, by rw [he, clos_on hx0 hbit]⟩ (by omega) (Le.sub0 rfl ⟨rfl, rfl, rfl, rfl, rfl, trivial⟩ trivial)
 ·skip
  try simp only [bit_at, bit_zero, shr_zero] at h16
  try simp only [Int.toNat_natCast] at h16
  try simp at h16
  refine AW.exit ?_
  refine AW.seq ?_
  refine AW.le (σ' := ⟨_, [(1, _), (2, _), (3, _), (6, _), (7, _)], []⟩) (Le.sub0 rfl ⟨rfl, rfl, rfl, rfl, rfl, trivial⟩ trivial) ?_
  refine AW.region ?_
  refine AWl.mv rfl rfl rfl rfl rfl ?_
  refine AWl.av rfl rfl rfl rfl rfl ?_
  refine AWl.nil ?_
  refine AW.ret ?_
  refine Res.v rfl rfl ?_
  rw [he]; obtain ⟨f', rfl⟩ : ∃ f', f = f' + 1 := ⟨f - 1, by omega⟩; rw [clos_stop (by rcases Int.lt_or_le x 0 with h | h; exact .inl h; exact .inr (h16 h))]
theorem implafter (a : TAutomaton) (ha : validA a = true) (m : Nat) (hm : m < 2 ^ a.Accept.length) (v k : Int) (hv : 0 ≤ v ∧ v ≤ 2) (hkk : 0 ≤ k ∧ k < 9) : FnT Tryz.prog 194 [.agg (cAutomaton a), .one (.v (.int .i64 (m : Int))), .one (.v (.int .i64 v)), .one (.v (.int .i64 k))] (.a (.one (.v (.int .i64 (aftS a m v k : Nat))))) := by
 refine FnT.walk Tryz.func194 rfl (by kernel_rfl) Tryz.ntmps194 rfl fun hlen w0 => ?_
 try simp [cEdge, cGraph, cStep, cChange, cBatch, cAutomaton, cProductStep, cView] at hlen
 have hA := validA_len ha
 have hP := pow_le_12 ha
 have hbl := bitsI_le m
 refine AW.sr ?_
 refine AWl.put (R_boxz rfl rfl rfl (.tm rfl) (ts := _) (by rfl)) rfl ?_
 refine AWl.ac rfl rfl rfl rfl rfl ?_
 refine AWl.nil ?_
 refine AW.sr ?_
 refine AWl.ac rfl rfl rfl rfl rfl ?_
 refine AWl.nil ?_
 refine AW.seq ?_
 refine AW.sr ?_
 refine AWl.mv rfl rfl rfl rfl rfl ?_
 refine AWl.put (R_callz (FnT.fr (implmembers m (by omega))) rfl (.no rfl) rfl (.cons (.tm rfl) rfl .nil)) rfl ?_
 refine AWl.put (by exact R_lenm rfl (.no rfl) rfl (.tm rfl) (by exact .t) Tryz.underlying22) rfl ?_
 refine AWl.put (R_move rfl (.no rfl) rfl (.const rfl)) rfl ?_
 refine AWl.nil ?_
 refine AW.block ?_
 refine AW.loop2 (fun (i : Nat) (o : Nat) => (i ≤ (bitsI m).length ∧ o < 2 ^ a.Accept.length) ∧ o = ((bitsN m).take i).foldl (fun out (s : Nat) => aftF a k (bitsN (closure a s v)) out) 0) (fun (i : Nat) (o : Nat) => ⟨_, [(18, (true, .a (.one (.t (.v (.int .i64 (i : Nat))))))), (9, (true, .a (.one (.t (.v (.int .i64 (o : Nat))))))), (2, _), (3, _), (4, _), (8, _), (16, _), (17, _)], []⟩) (fun (i : Nat) (o : Nat) => (bitsI m).length - i) (0) (0) ⟨⟨Nat.zero_le _, Nat.two_pow_pos _⟩, rfl⟩ (Le.sub0 rfl ⟨rfl, rfl, rfl, rfl, rfl, rfl, rfl, rfl, trivial⟩ trivial) ?_
 rintro i o ⟨hk, he⟩
 refine AW.sr ?_
 refine AWl.put (R_lt rfl (.no rfl) rfl (.tm rfl) (.tm rfl)) rfl ?_
 refine AWl.nil ?_
 refine AW.seq ?_
 refine AW.cond (.tm rfl) (fun h19 => ?_) (fun h19 => ?_)
 ·skip
  try simp at h19
  obtain ⟨x, hx⟩ : ∃ ξ, (bitsI m)[i]? = some ξ := ⟨_, List.getElem?_eq_getElem (by omega)⟩
  obtain ⟨q, rfl, hq⟩ := bitsI_at hx
  have hqn := bits_lt hm (List.mem_of_getElem? hq)
  have hcl := closure_lt ha (s := (q : Int)) hv (by omega)
  have hbc := bitsI_le (closure a q v)
  refine AW.skip ?_
  refine AW.seq ?_
  refine AW.block ?_
  refine AW.sr ?_
  refine AWl.put (by exact R_indexAddr rfl (.no rfl) rfl (.tm rfl) (.tm rfl) Tryz.underlying22 ty3 (fun _ => ⟨by omega, (by exact map_get hx)⟩)) rfl ?_
  refine AWl.put (by exact R_load rfl (.no rfl) rfl (.tm rfl) ty3 rfl rfl) rfl ?_
  refine AWl.av rfl rfl rfl rfl rfl ?_
  refine AWl.nil ?_
  refine AW.sr ?_
  refine AWl.put (by exact R_load rfl (.no rfl) rfl (.tm rfl) ty36 rfl rfl) rfl ?_
  refine AWl.mv rfl rfl rfl rfl rfl ?_
  refine AWl.mv rfl rfl rfl rfl rfl ?_
  refine AWl.put (R_callz (FnT.fr (implclosure a ha _ _ (by omega) hv)) rfl (.no rfl) rfl (.cons (.tm rfl) rfl (.cons (.tm rfl) rfl (.cons (.tm rfl) rfl .nil)))) rfl ?_
  refine AWl.put (R_callz (FnT.fr (implmembers (closure a q v) (by omega))) rfl (.no rfl) rfl (.cons (.tm rfl) rfl .nil)) rfl ?_
  refine AWl.put (by exact R_lenm rfl (.no rfl) rfl (.tm rfl) (by exact .t) Tryz.underlying22) rfl ?_
  refine AWl.put (R_move rfl (.no rfl) rfl (.const rfl)) rfl ?_
  refine AWl.nil ?_
  refine AW.block ?_
  refine AW.loop2 (fun (j : Nat) (p : Nat) => (j ≤ (bitsI (closure a q v)).length ∧ p < 2 ^ a.Accept.length) ∧ p = aftF a k ((bitsN (closure a q v)).take j) o) (fun (j : Nat) (p : Nat) => ⟨_, [(28, (true, .a (.one (.t (.v (.int .i64 (j : Nat))))))), (9, (true, .a (.one (.t (.v (.int .i64 (p : Nat))))))), (2, _), (3, _), (4, _), (8, _), (16, _), (17, _), (18, _), (26, _), (27, _)], []⟩) (fun (j : Nat) (p : Nat) => (bitsI (closure a q v)).length - j) (0) (o) ⟨⟨Nat.zero_le _, hk.2⟩, by simp [aftF]⟩ (Le.sub0 rfl ⟨rfl, rfl, rfl, rfl, rfl, rfl, rfl, rfl, rfl, rfl, rfl, trivial⟩ trivial) ?_
  rintro j p ⟨hk1, he1⟩
  refine AW.sr ?_
  refine AWl.put (R_lt rfl (.no rfl) rfl (.tm rfl) (.tm rfl)) rfl ?_
  refine AWl.nil ?_
  refine AW.seq ?_
  refine AW.cond (.tm rfl) (fun h29 => ?_) (fun h29 => ?_)
  ·skip
   try simp at h29
   obtain ⟨y, hy⟩ : ∃ ξ, (bitsI (closure a q v))[j]? = some ξ := ⟨_, List.getElem?_eq_getElem (by omega)⟩
   obtain ⟨t, rfl, ht⟩ := bitsI_at hy
   have htn := bits_lt hcl (List.mem_of_getElem? ht)
   obtain ⟨_, _, _, _, hn1, hn2⟩ := validA_next ha (s := (t : Int)) (k := k) (by omega) (by omega) hkk.1 hkk.2
   refine AW.skip ?_
   refine AW.seq ?_
   refine AW.block ?_
   refine AW.sr ?_
   refine AWl.put (by exact R_indexAddr rfl (.no rfl) rfl (.tm rfl) (.tm rfl) Tryz.underlying22 ty3 (fun _ => ⟨by omega, (by exact map_get hy)⟩)) rfl ?_
   refine AWl.put (by exact R_load rfl (.no rfl) rfl (.tm rfl) ty3 rfl rfl) rfl ?_
   refine AWl.av rfl rfl rfl rfl rfl ?_
   refine AWl.nil ?_
   refine AW.sr ?_
   refine AWl.put (by exact R_load rfl (.no rfl) rfl (.tm rfl) ty36 rfl rfl) rfl ?_
   refine AWl.mv rfl rfl rfl rfl rfl ?_
   refine AWl.mv rfl rfl rfl rfl rfl ?_
   refine AWl.put (R_callz (FnT.fr (implmoveN a ha t k htn hkk)) rfl (.no rfl) rfl (.cons (.tm rfl) rfl (.cons (.tm rfl) rfl (.cons (.tm rfl) rfl .nil)))) rfl ?_
   refine AWl.av rfl rfl rfl rfl rfl ?_
   refine AWl.nil ?_
   refine AW.seq ?_
   refine AW.le (σ' := ⟨_, [(2, _), (3, _), (4, _), (8, _), (9, _), (13, _), (14, _), (16, _), (17, _), (18, _), (26, _), (27, _), (28, _)], []⟩) (Le.sub0 rfl ⟨rfl, rfl, rfl, rfl, rfl, rfl, rfl, rfl, rfl, rfl, rfl, rfl, rfl, trivial⟩ trivial) ?_
   refine AW.region ?_
   refine AWl.mv rfl rfl rfl rfl rfl ?_
   refine AWl.put (R_ge rfl (.no rfl) rfl (.tm rfl) (.const rfl)) rfl ?_
   refine AWl.nil ?_
   refine AW.cond (.tm rfl) (fun h37 => ?_) (fun h37 => ?_)
   ·skip
    try simp at h37
    have h2x := pow_12 ha (x := (nextOf a t k).toNat) (by omega)
    have h2p := Nat.two_pow_pos (nextOf a t k).toNat
    refine AW.region ?_
    refine AWl.mv rfl rfl rfl rfl rfl ?_
    refine AWl.mv rfl rfl rfl rfl rfl ?_
    refine AWl.put (R_shlN rfl (.no rfl) rfl (.const rfl) (.tm rfl) (fun _ => by omega)) rfl ?_
    refine AWl.put (R_or_int rfl (.no rfl) rfl (.tm rfl) (.tm rfl) (fun _ => by omega)) rfl ?_
    refine AWl.av rfl rfl rfl rfl rfl ?_
    refine AWl.nil ?_
    refine AW.le (σ' := ⟨_, [(2, _), (3, _), (4, _), (8, _), (9, _), (13, _), (14, _), (16, _), (17, _), (18, _), (26, _), (27, _), (28, _)], []⟩) (Le.sub0 rfl ⟨rfl, rfl, rfl, rfl, rfl, rfl, rfl, rfl, rfl, rfl, rfl, rfl, rfl, trivial⟩ trivial) ?_
    refine AW.region ?_
    refine AWl.put (R_add rfl (.no rfl) rfl (.tm rfl) (.const rfl) (fun _ => by omega)) rfl ?_
    refine AWl.mv rfl rfl rfl rfl rfl ?_
    refine AWl.nil ?_
    repeat (with_reducible refine BlockQ.nor ?_)
    refine Round2.next (j + 1) (p ||| 2 ^ (nextOf a t k).toNat) ⟨⟨by omega, or_pow_lt hk1.2 (by omega)⟩, by rw [aftF_at ht, if_pos h37, he1]⟩ (by omega) (Le.sub0 rfl ⟨rfl, rfl, rfl, rfl, rfl, rfl, rfl, rfl, rfl, rfl, rfl, trivial⟩ trivial)
   ·skip
    try simp at h37
    refine AW.skip ?_
    refine AW.region ?_
    refine AWl.put (R_add rfl (.no rfl) rfl (.tm rfl) (.const rfl) (fun _ => by omega)) rfl ?_
    refine AWl.mv rfl rfl rfl rfl rfl ?_
    refine AWl.nil ?_
    repeat (with_reducible refine BlockQ.nor ?_)
    refine Round2.next (j + 1) (p) ⟨⟨by omega, hk1.2⟩, by rw [aftF_at ht, if_neg (by omega), he1]⟩ (by omega) (Le.sub0 rfl ⟨rfl, rfl, rfl, rfl, rfl, rfl, rfl, rfl, rfl, rfl, rfl, trivial⟩ trivial)
  ·skip
   try simp at h29
   refine AW.exit ?_
   refine AW.region ?_
   refine AWl.put (R_add rfl (.no rfl) rfl (.tm rfl) (.const rfl) (fun _ => by omega)) rfl ?_
   refine AWl.mv rfl rfl rfl rfl rfl ?_
   refine AWl.nil ?_
   repeat (with_reducible refine BlockQ.nor ?_)
   refine Round2.next (i + 1) (p) ⟨⟨by omega, hk1.2⟩, by rw [aftS_at hq, ← he, he1, List.take_of_length_le (by have := bitsI_len (closure a q v); omega)]⟩ (by omega) (Le.sub0 rfl ⟨rfl, rfl, rfl, rfl, rfl, rfl, rfl, rfl, trivial⟩ trivial)
 ·skip
  try simp at h19
  refine AW.exit ?_
  refine AW.sr ?_
  refine AWl.mv rfl rfl rfl rfl rfl ?_
  refine AWl.av rfl rfl rfl rfl rfl ?_
  refine AWl.nil ?_
  refine AW.ret ?_
  refine Res.v rfl rfl ?_
  rw [he, List.take_of_length_le (by have := bitsI_len m; omega)]; rfl
theorem implbothOk (g : TGraph) (a : TAutomaton) (l : List Int) : FnT Tryz.prog 190 [.agg (cGraph g), .agg (cAutomaton a), .one (.sl 1 (l.map cInt))] (.a (.one (.v (.bool (bothB g a l))))) := by
 refine FnT.walk Tryz.func190 rfl (by kernel_rfl) Tryz.ntmps190 rfl fun hlen w0 => ?_
 try simp [cEdge, cGraph, cStep, cChange, cBatch, cAutomaton, cProductStep, cView] at hlen
 skip
 refine AW.sr ?_
 refine AWl.put (R_boxz rfl rfl rfl (.tm rfl) (ts := _) (by rfl)) rfl ?_
 refine AWl.put (R_boxz rfl rfl rfl (.tm rfl) (ts := _) (by rfl)) rfl ?_
 refine AWl.ac rfl rfl rfl rfl rfl ?_
 refine AWl.nil ?_
 refine AW.seq ?_
 refine AW.sr ?_
 refine AWl.mv rfl rfl rfl rfl rfl ?_
 refine AWl.put (by exact R_lenm rfl (.no rfl) rfl (.tm rfl) (by exact .t) Tryz.underlying22) rfl ?_
 refine AWl.put (R_move rfl (.no rfl) rfl (.const rfl)) rfl ?_
 refine AWl.nil ?_
 refine AW.block ?_
 refine AW.loop (β := Nat) (fun x => x ≤ (l).length ∧ ∀ j y, j < x → (l)[j]? = some y → (fun x => inB x 0 (g.Values.length - 1)) y = true) (fun x => ⟨_, [(11, (true, .a (.one (.t (.v (.int .i64 (x : Nat))))))), (3, _), (4, _), (9, _), (10, _)], []⟩) (fun x => (l).length - x) (0) ⟨Nat.zero_le _, fun j y hj => absurd hj (Nat.not_lt_zero j)⟩ (Le.sub0 rfl ⟨rfl, rfl, rfl, rfl, rfl, trivial⟩ trivial) ?_
 intro k hk
 refine AW.sr ?_
 refine AWl.put (R_lt rfl (.no rfl) rfl (.tm rfl) (.tm rfl)) rfl ?_
 refine AWl.nil ?_
 refine AW.seq ?_
 refine AW.cond (.tm rfl) (fun hlt => ?_) (fun hlt => ?_)
 ·skip
  try simp at hlt
  obtain ⟨x, hx⟩ : ∃ ξ, (l)[k]? = some ξ := ⟨_, List.getElem?_eq_getElem (by exact hlt)⟩
  refine AW.skip ?_
  refine AW.seq ?_
  refine AW.block ?_
  refine AW.sr ?_
  refine AWl.put ((by exact R_indexAddr rfl (.no rfl) rfl (.tm rfl) (.tm rfl) Tryz.underlying22 ty3 (fun _ => ⟨by omega, (by exact map_get (by assumption))⟩))) rfl ?_
  refine AWl.put (by exact R_load rfl (.no rfl) rfl (.tm rfl) ty3 rfl rfl) rfl ?_
  refine AWl.av rfl rfl rfl rfl rfl ?_
  refine AWl.nil ?_
  refine AW.sr ?_
  refine AWl.mv rfl rfl rfl rfl rfl ?_
  refine AWl.put (by exact R_fieldAddr rfl (.no rfl) rfl (.tm rfl) fl43_0) rfl ?_
  refine AWl.put (by exact R_load rfl (.no rfl) rfl (.tm rfl) ty22 rfl rfl) rfl ?_
  refine AWl.put (by exact R_lenm rfl (.no rfl) rfl (.tm rfl) (by exact .t) Tryz.underlying22) rfl ?_
  refine AWl.put (R_sub rfl (.no rfl) rfl (.tm rfl) (.const rfl) (fun _ => by omega)) rfl ?_
  refine AWl.put (R_callz (FnT.fr (implwithin _ _ _)) rfl (.no rfl) rfl (.cons (.tm rfl) rfl (.cons (.const rfl) rfl (.cons (.tm rfl) rfl .nil)))) rfl ?_
  refine AWl.put (R_not rfl (.no rfl) rfl (.tm rfl)) rfl ?_
  refine AWl.nil ?_
  refine AW.cond (.tm rfl) (fun h21 => ?_) (fun h21 => ?_)
  ·skip
   try simp at h21
   refine AW.seq ?_
   refine AW.le (σ' := ⟨_, [(3, _), (4, _), (8, _), (9, _), (10, _), (11, _)], []⟩) (Le.sub0 rfl ⟨rfl, rfl, rfl, rfl, rfl, rfl, trivial⟩ trivial) ?_
   refine AW.region ?_
   refine AWl.ac rfl rfl rfl rfl rfl ?_
   refine AWl.nil ?_
   refine AW.ret ?_
   refine Res.v rfl rfl ?_
   unfold bothB; rw [not_all hx h21]; rfl
  ·skip
   try simp at h21
   refine AW.skip ?_
   refine AW.le (σ' := ⟨_, [(3, _), (4, _), (8, _), (9, _), (10, _), (11, _)], []⟩) (Le.sub0 rfl ⟨rfl, rfl, rfl, rfl, rfl, rfl, trivial⟩ trivial) ?_
   refine AW.region ?_
   refine AWl.put (R_add rfl (.no rfl) rfl (.tm rfl) (.const rfl) (fun _ => by omega)) rfl ?_
   refine AWl.mv rfl rfl rfl rfl rfl ?_
   refine AWl.nil ?_
   refine Round.next (k + 1) ⟨by omega, each_succ hk.2 hx (h21)⟩ (by omega) (Le.sub0 rfl ⟨rfl, rfl, rfl, rfl, rfl, trivial⟩ trivial)
 ·skip
  try simp at hlt
  refine AW.exit ?_
  refine AW.sr ?_
  refine AWl.put (by exact R_load rfl (.no rfl) rfl (.tm rfl) ty43 rfl rfl) rfl ?_
  refine AWl.put (R_callz (FnT.fr (implIsValidGraph _)) rfl (.no rfl) rfl (.cons (.tm rfl) rfl .nil)) rfl ?_
  refine AWl.mv rfl rfl rfl rfl rfl ?_
  refine AWl.put (by exact R_load rfl (by exact .yes1 rfl rfl rfl rfl) rfl (.tmp rfl (by exact fun _ => rfl)) ty36 rfl rfl) rfl ?_
  refine AWl.put (R_callz (FnT.fr (implIsValidAutomaton _)) rfl (by exact .yes1 rfl rfl rfl rfl) rfl (.cons (.tmp rfl (by exact id)) rfl .nil)) rfl ?_
  refine AWl.put (R_and rfl (.no rfl) rfl (.tm rfl) (.tmp rfl (by exact id))) rfl ?_
  refine AWl.av rfl rfl rfl rfl rfl ?_
  refine AWl.nil ?_
  refine AW.ret ?_
  refine Res.v rfl rfl ?_
  unfold bothB; rw [each_all hk.2 (by omega)]; rfl
theorem specl14Good (g : TGraph) (a : TAutomaton) (x s : Int) : FnT Tryz.prog 151 [.agg (cGraph g), .agg (cAutomaton a), .one (.v (.int .i64 x)), .one (.v (.int .i64 s))] (.a (.one (.v (.bool (goodB g a x s))))) := by
 refine FnT.walk Tryz.func151 rfl (by kernel_rfl) Tryz.ntmps151 rfl fun hlen w0 => ?_
 try simp [cEdge, cGraph, cStep, cChange, cBatch, cAutomaton, cProductStep, cView] at hlen
 skip
 refine AW.sr ?_
 refine AWl.put (R_boxz rfl rfl rfl (.tm rfl) (ts := _) (by rfl)) rfl ?_
 refine AWl.put (R_boxz rfl rfl rfl (.tm rfl) (ts := _) (by rfl)) rfl ?_
 refine AWl.ac rfl rfl rfl rfl rfl ?_
 refine AWl.nil ?_
 refine AW.sr ?_
 refine AWl.put (by exact R_load rfl (.no rfl) rfl (.tm rfl) ty43 rfl rfl) rfl ?_
 refine AWl.put (R_callz (FnT.fr (specIsValidGraph _)) rfl (.no rfl) rfl (.cons (.tm rfl) rfl .nil)) rfl ?_
 refine AWl.mv rfl rfl rfl rfl rfl ?_
 refine AWl.put (by exact R_load rfl (by exact .yes1 rfl rfl rfl rfl) rfl (.tmp rfl (by exact fun _ => rfl)) ty36 rfl rfl) rfl ?_
 refine AWl.put (R_callz (FnT.fr (specIsValidAutomaton _)) rfl (by exact .yes1 rfl rfl rfl rfl) rfl (.cons (.tmp rfl (by exact id)) rfl .nil)) rfl ?_
 refine AWl.put (R_and rfl (.no rfl) rfl (.tm rfl) (.tmp rfl (by exact id))) rfl ?_
 refine AWl.mv rfl rfl rfl rfl rfl ?_
 refine AWl.put (R_move rfl (by exact .yes1 rfl rfl rfl rfl) rfl (.tmp rfl (by exact fun _ => rfl))) rfl ?_
 refine AWl.put (by exact R_fieldAddr rfl (by exact .yes1 rfl rfl rfl rfl) rfl (.tmp rfl (by exact fun _ => rfl)) fl43_0) rfl ?_
 refine AWl.put (by exact R_load rfl (by exact .yes1 rfl rfl rfl rfl) rfl (.tmp rfl (by exact id)) ty22 rfl rfl) rfl ?_
 refine AWl.put (by exact R_lenm rfl (by exact .yes1 rfl rfl rfl rfl) rfl (.tmp rfl (by exact id)) (by exact .t) Tryz.underlying22) rfl ?_
 refine AWl.put (R_sub rfl (by exact .yes1 rfl rfl rfl rfl) rfl (.tmp rfl (by exact id)) (.const rfl) (fun hq => by first | omega | (simp at hq; omega))) rfl ?_
 refine AWl.put (R_callz (FnT.fr (specl1In _ _ _)) rfl (by exact .yes1 rfl rfl rfl rfl) rfl (.cons (.tmp rfl (by exact id)) rfl (.cons (.const rfl) rfl (.cons (.tmp rfl (by exact id)) rfl .nil)))) rfl ?_
 refine AWl.put (R_and rfl (.no rfl) rfl (.tm rfl) (.tmp rfl (by exact id))) rfl ?_
 refine AWl.mv rfl rfl rfl rfl rfl ?_
 refine AWl.put (R_move rfl (by exact .yes1 rfl rfl rfl rfl) rfl (.tmp rfl (by exact fun _ => rfl))) rfl ?_
 refine AWl.put (by exact R_fieldAddr rfl (by exact .yes1 rfl rfl rfl rfl) rfl (.tmp rfl (by exact fun _ => rfl)) fl36_1) rfl ?_
 refine AWl.put (by exact R_load rfl (by exact .yes1 rfl rfl rfl rfl) rfl (.tmp rfl (by exact id)) ty26 rfl rfl) rfl ?_
 refine AWl.put (by exact R_lenm rfl (by exact .yes1 rfl rfl rfl rfl) rfl (.tmp rfl (by exact id)) (by exact .t) Tryz.underlying26) rfl ?_
 refine AWl.put (R_sub rfl (by exact .yes1 rfl rfl rfl rfl) rfl (.tmp rfl (by exact id)) (.const rfl) (fun hq => by first | omega | (simp at hq; omega))) rfl ?_
 refine AWl.put (R_callz (FnT.fr (specl1In _ _ _)) rfl (by exact .yes1 rfl rfl rfl rfl) rfl (.cons (.tmp rfl (by exact id)) rfl (.cons (.const rfl) rfl (.cons (.tmp rfl (by exact id)) rfl .nil)))) rfl ?_
 refine AWl.put (R_and rfl (.no rfl) rfl (.tm rfl) (.tmp rfl (by exact id))) rfl ?_
 refine AWl.av rfl rfl rfl rfl rfl ?_
 refine AWl.nil ?_
 refine AW.ret ?_
 refine Res.v rfl rfl ?_
 rfl
end Go.Proofs.YtoealglkenhphaaGreat
