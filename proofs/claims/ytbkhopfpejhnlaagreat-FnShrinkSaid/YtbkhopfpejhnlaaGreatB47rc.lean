import Derived.Test.YtbkhopfpejhnlaaGreatB03rc
import Derived.Test.YtbkhopfpejhnlaaGreatAbsIrc
import Derived.Test.YtbkhopfpejhnlaaGreatB16rc
import Derived.Test.YtbkhopfpejhnlaaGreatTr2rc
set_option linter.unusedVariables false
set_option linter.unusedSimpArgs false
namespace Go.Q
open Go.D
def reads (e : TEdge) (b : Bool) : Int := if b then 2 * e.Label + 1 else 2 * e.Label
end Go.Q
namespace Go.Proofs.YtbkhopfpejhnlaaGreat
open Go.RowKit Go.Q Go.D
set_option maxRecDepth 100000 in
theorem implreads (e : TEdge) (b : Bool) (h : 0 ≤ e.Label ∧ e.Label ≤ 2) : FnT Tryz.prog 136 [.agg (cEdge e), .one (.v (.bool b))] (.a (.one (.v (.int .i64 (reads e b))))) := by
 refine FnT.walk Tryz.func136 U (by kernel_rfl) Tryz.ntmps136 U fun hlen w0 => ?_
 try simp [cPair, cToken, cExpr, cEdge, cGraph] at hlen
 refine AW.sr ?_
 refine AWl.p (R_boxz U U U (.tm U) (ts := _) (by rfl)) U ?_
 refine AWl.ac ?_
 refine AWl.nil (AW.seq ?_)
 refine AW.sr ?_
 refine AWl.mv ?_
 refine AWl.nil ?_
 refine AW.cond (.tm U) (fun h5 => ?_) (fun h5 => ?_)
 · skip
   try simp at h5
   refine AW.sr ?_
   refine AWl.p (by exact R_fieldAddr U (.no U) U (.tm U) fl39_3) U ?_
   refine AWl.p (by exact R_load U (.no U) U (.tm U) ty3 U U) U ?_
   refine AWl.p (R_mul U (.no U) U (.const U) (.tm U) (fun _ => by omega)) U ?_
   refine AWl.p (R_add U (.no U) U (.tm U) (.const U) (fun _ => by omega)) U ?_
   refine AWl.av ?_
   refine AWl.nil (AW.ret ?_)
   refine Res.v U U ?_
   simp [reads, h5]
 · skip
   try simp at h5
   refine AW.skip ?_
   refine AW.sr ?_
   refine AWl.p (by exact R_fieldAddr U (.no U) U (.tm U) fl39_3) U ?_
   refine AWl.p (by exact R_load U (.no U) U (.tm U) ty3 U U) U ?_
   refine AWl.p (R_mul U (.no U) U (.const U) (.tm U) (fun _ => by omega)) U ?_
   refine AWl.av ?_
   refine AWl.nil (AW.ret ?_)
   refine Res.v U U ?_
   simp [reads, h5]
end Go.Proofs.YtbkhopfpejhnlaaGreat
namespace Go.Q
open Go.D
end Go.Q
namespace Go.Proofs.YtbkhopfpejhnlaaGreat
open Go.RowKit Go.Q Go.D
end Go.Proofs.YtbkhopfpejhnlaaGreat
set_option maxHeartbeats 1000000
set_option maxRecDepth 100000
namespace Go.Q
open Go.D
def bitsN (m : Nat) : List Nat := (List.range 64).filter m.testBit
def nextOf (a : TAutomaton) (s k : Int) : Int := (a.Next[s.toNat]?.getD [])[k.toNat]?.getD (-1)
def clos (a : TAutomaton) (v : Int) : Nat → Int → Nat → Nat
 | 0, _, m => m
 | f + 1, s, m => if s < 0 || m.testBit s.toNat then m else clos a v f (nextOf a s (6 + v)) (m ||| 2 ^ s.toNat)
def closure (a : TAutomaton) (s v : Int) : Nat := clos a v (a.Accept.length + 1) s 0
def accAt (a : TAutomaton) (t : Nat) : Bool := a.Accept[t]?.getD false
def acc (a : TAutomaton) (s v : Int) : Bool := (bitsN (closure a s v)).any (accAt a)
structure TArc where
 step : TStep
 letter : Int
 to : Int
 deriving DecidableEq
def arcsOf (e : TEdge) (x : Int) : List TArc := (if e.From = x then [⟨⟨e.ID, false⟩, reads e false, e.To⟩] else []) ++ if e.To = x then [⟨⟨e.ID, true⟩, reads e true, e.From⟩] else []
def arcsL (l : List TEdge) (x : Int) : List TArc := l.flatMap fun e => arcsOf e x
def arcsAt (g : TGraph) (x : Int) : List TArc := arcsL g.Edges x
theorem arcsL_at {l : List TEdge} {k : Nat} {e : TEdge} (h : l[k]? = some e) (x : Int) : arcsL (l.take (k + 1)) x = arcsL (l.take k) x ++ arcsOf e x := by
 unfold arcsL
 rw [take_at h, List.flatMap_append]; simp
theorem arcsL_len (l : List TEdge) (x : Int) : (arcsL l x).length ≤ 2 * l.length := by
 induction l with
 | nil => simp [arcsL]
 | cons e l ih =>
  have e1 : arcsL (e :: l) x = arcsOf e x ++ arcsL l x := by simp [arcsL]
  have e2 : (arcsOf e x).length ≤ 2 := by
   unfold arcsOf
   rw [List.length_append]
   split <;> split <;> simp
  rw [e1, List.length_append, List.length_cons]; omega
def cArc (x : TArc) : List T := [.v (.int .i64 x.step.Edge), .v (.bool x.step.Inverse), .v (.int .i64 x.letter), .v (.int .i64 x.to)]
def cArcS (x : List TArc) : List T := [.sl 4 (x.map cArc)]
def arcsV (g : TGraph) : List (List TArc) := (List.range g.Values.length).map fun (x : Nat) => arcsAt g x
theorem validG_len {g : TGraph} (h : validG g = true) : 1 ≤ g.Values.length ∧ g.Values.length ≤ 5 ∧ g.Edges.length ≤ 12 := by
 unfold validG inB at h
 simp only [Bool.and_eq_true, decide_eq_true_eq] at h
 omega
theorem validG_val {g : TGraph} (h : validG g = true) {k : Nat} {v : Int} (hv : g.Values[k]? = some v) : 0 ≤ v ∧ v ≤ 2 := by
 unfold validG at h
 simp only [Bool.and_eq_true, List.all_eq_true] at h
 have := h.1.1 _ (List.mem_of_getElem? hv)
 unfold inB at this
 simpa using this
theorem validG_edge {g : TGraph} (h : validG g = true) {k : Nat} {e : TEdge} (he : g.Edges[k]? = some e) : 0 ≤ e.From ∧ e.From < g.Values.length ∧ 0 ≤ e.To ∧ e.To < g.Values.length ∧ 0 ≤ e.Label ∧ e.Label ≤ 2 ∧ 1 ≤ e.ID ∧ e.ID ≤ 99 := by
 unfold validG at h
 simp only [Bool.and_eq_true, List.all_eq_true] at h
 have := h.1.2 k (List.mem_range.2 (List.getElem?_eq_some_iff.1 he).1)
 unfold edgeAt at this
 rw [he] at this
 simp only [Bool.and_eq_true] at this
 have := this.1
 unfold edgeOk inB at this
 simp only [Bool.and_eq_true, decide_eq_true_eq] at this
 omega
theorem range_set {α : Type} (f : Nat → α) (y : α) {n i : Nat} : ((List.range n).map f).set i y = (List.range n).map fun x => if x = i then y else f x := by
 apply List.ext_getElem?
 intro j
 rw [List.getElem?_set]
 simp only [List.length_map, List.length_range, List.getElem?_map]
 by_cases e : i = j
 · subst e
   by_cases h : i < n
   · simp [h]
   · simp [h]
 · rw [if_neg e]
   by_cases h : j < n
   · rw [List.getElem?_range h]; simp; intro e'; exact absurd e'.symm e
   · simp [h]
theorem range_get {α : Type} (f : Nat → α) {n i : Nat} (h : i < n) : ((List.range n).map f)[i]? = some (f i) := by
 rw [List.getElem?_map, List.getElem?_range h]; rfl
end Go.Q
namespace Go.Proofs.YtbkhopfpejhnlaaGreat
open Go.RowKit Go.Q Go.D
end Go.Proofs.YtbkhopfpejhnlaaGreat
set_option maxHeartbeats 1000000
set_option maxRecDepth 100000
namespace Go.Q
open Go.D
theorem nodup_le {α : Type} [DecidableEq α] : ∀ {l r : List α}, l.Nodup → (∀ x ∈ l, x ∈ r) → l.length ≤ r.length
 | [], _, _, _ => Nat.zero_le _
 | a :: l, r, h, hs => by
  have h2 := List.nodup_cons.1 h
  have ha := hs a (by simp)
  have := nodup_le (l := l) (r := r.erase a) h2.2 fun x hx => (List.mem_erase_of_ne (fun e => h2.1 (by rw [← e]; exact hx))).2 (hs x (by simp [hx]))
  rw [List.length_erase_of_mem ha] at this
  have hp := List.length_pos_of_mem ha
  simp only [List.length_cons]; omega
theorem strict_same {l r : List TPair} (hl : StrictS pless l) (hr : StrictS pless r) (hs : ∀ x ∈ l, x ∈ r) (h : r.length ≤ l.length) : l = r := by
 refine strict_ext pless_so hl hr fun x => ⟨hs x, fun hx => ?_⟩
 by_cases hm : x ∈ l
 · exact hm
 · have := nodup_le (l := x :: l) (r := r) (List.nodup_cons.2 ⟨hm, strict_nodup pless_so hl⟩) fun y hy => by
    rcases List.mem_cons.1 hy with rfl | hy
    · exact hx
    · exact hs y hy
   simp only [List.length_cons] at this; omega
theorem setG_add (l : List TPair) (x : TPair) : setG pless (l ++ [x]) = putG pless (setG pless l) x := by unfold setG; rw [List.foldl_append]; rfl
theorem setG_ext {l r : List TPair} (h : ∀ x, x ∈ l ↔ x ∈ r) : setG pless l = setG pless r := strict_ext pless_so (setG_strict pless_so _) (setG_strict pless_so _) fun x => by rw [mem_setG, mem_setG]; exact h x
def idL (n : Nat) : List TPair := (List.range n).map fun (i : Nat) => ⟨(i : Int), (i : Int)⟩
theorem idL_succ (n : Nat) : idL (n + 1) = idL n ++ [⟨(n : Int), (n : Int)⟩] := by unfold idL; rw [List.range_succ]; simp
theorem mem_idL {n : Nat} {p : TPair} : p ∈ idL n ↔ (0 ≤ p.From ∧ p.From < n) ∧ p.To = p.From := by
 unfold idL
 simp only [List.mem_map, List.mem_range]
 constructor
 · rintro ⟨i, hi, rfl⟩; exact ⟨⟨by simp, by simpa using hi⟩, rfl⟩
 · rintro ⟨h1, h2⟩; exact ⟨p.From.toNat, by omega, by cases p; simp at h1 h2 ⊢; omega⟩
theorem idL_strict (n : Nat) : StrictS pless (idL n) := by
 unfold idL StrictS
 rw [List.pairwise_map]
 refine List.Pairwise.imp ?_ List.pairwise_lt_range
 intro i j h
 unfold pless
 simp; omega
def pairsC (a b : List TPair) : List TPair := a.flatMap fun p => (b.filter fun q => decide (p.To = q.From)).map fun q => ⟨p.From, q.To⟩
def compL (a b : List TPair) : List TPair := setG pless (pairsC a b)
theorem mem_pairsC {a b : List TPair} {p : TPair} : p ∈ pairsC a b ↔ ∃ x ∈ a, ∃ y ∈ b, x.To = y.From ∧ p.From = x.From ∧ p.To = y.To := by
 unfold pairsC
 simp only [List.mem_flatMap, List.mem_map, List.mem_filter, decide_eq_true_eq]
 constructor
 · rintro ⟨x, hx, y, ⟨hy, h⟩, rfl⟩; exact ⟨x, hx, y, hy, h, rfl, rfl⟩
 · rintro ⟨x, hx, y, hy, h, h1, h2⟩; exact ⟨x, hx, y, ⟨hy, h⟩, by cases p; simp at h1 h2 ⊢; exact ⟨h1.symm, h2.symm⟩⟩
theorem mem_compL {a b : List TPair} {p : TPair} : p ∈ compL a b ↔ ∃ x ∈ a, ∃ y ∈ b, x.To = y.From ∧ p.From = x.From ∧ p.To = y.To := by unfold compL; rw [mem_setG, mem_pairsC]
theorem mem_pmerge {a b : List TPair} {p : TPair} : p ∈ pmerge a b ↔ p ∈ a ∨ p ∈ b := by unfold pmerge; rw [mem_setG, List.mem_append]
theorem compL_set (a b : List TPair) : compL (setG pless a) b = compL a b := by
 unfold compL
 refine setG_ext fun p => ?_
 rw [mem_pairsC, mem_pairsC]
 simp only [mem_setG]
theorem pairsC_len (a b : List TPair) : (pairsC a b).length ≤ a.length * b.length := by
 unfold pairsC
 induction a with
 | nil => simp
 | cons p a ih =>
  rw [List.flatMap_cons, List.length_append, List.length_map, List.length_cons, Nat.succ_mul]
  have := List.length_filter_le (fun q => decide (p.To = q.From)) b
  omega
def relIn (n : Nat) (l : List TPair) : Prop := ∀ p ∈ l, (0 ≤ p.From ∧ p.From < n) ∧ 0 ≤ p.To ∧ p.To < n
theorem relIn_id (n : Nat) : relIn n (idL n) := fun p hp => by have := mem_idL.1 hp; omega
theorem relIn_comp {n : Nat} {a b : List TPair} (ha : relIn n a) (hb : relIn n b) : relIn n (compL a b) := fun p hp => by
 obtain ⟨x, hx, y, hy, _, h1, h2⟩ := mem_compL.1 hp
 have := ha x hx
 have := hb y hy
 omega
theorem relIn_merge {n : Nat} {a b : List TPair} (ha : relIn n a) (hb : relIn n b) : relIn n (pmerge a b) := fun p hp => by
 rcases mem_pmerge.1 hp with h | h
 · exact ha p h
 · exact hb p h
theorem relIn_len {n : Nat} {l : List TPair} (hl : StrictS pless l) (h : relIn n l) : l.length ≤ n * n := by
 have := nodup_le (l := l) (r := (List.range n).flatMap fun (i : Nat) => (List.range n).map fun (k : Nat) => (⟨(i : Int), (k : Int)⟩ : TPair)) (strict_nodup pless_so hl) fun p hp => by
  have := h p hp
  simp only [List.mem_flatMap, List.mem_map, List.mem_range]
  exact ⟨p.From.toNat, by omega, p.To.toNat, by omega, by cases p; simp at this ⊢; omega⟩
 refine Nat.le_trans this ?_
 have hf : ∀ m, ((List.range m).flatMap fun (i : Nat) => (List.range n).map fun (k : Nat) => (⟨(i : Int), (k : Int)⟩ : TPair)).length = m * n := by
  intro m
  induction m with
  | zero => simp
  | succ m ih => rw [List.range_succ, List.flatMap_append, List.length_append, ih, Nat.succ_mul]; simp
 rw [hf]; exact Nat.le_refl _
theorem relIn_len5 {n : Nat} (hn : n ≤ 5) {l : List TPair} (hl : StrictS pless l) (h : relIn n l) : l.length ≤ 25 := Nat.le_trans (relIn_len hl h) (Nat.mul_le_mul hn hn)
def itC (n : Nat) (l : List TPair) : Nat → List TPair
 | 0 => idL n
 | k + 1 => pmerge (itC n l k) (compL (itC n l k) l)
theorem itC_strict (n : Nat) (l : List TPair) : ∀ k, StrictS pless (itC n l k)
 | 0 => idL_strict n
 | k + 1 => setG_strict pless_so _
theorem itC_in {n : Nat} {l : List TPair} (hl : relIn n l) : ∀ k, relIn n (itC n l k)
 | 0 => relIn_id n
 | k + 1 => relIn_merge (itC_in hl k) (relIn_comp (itC_in hl k) hl)
theorem itC_more {n : Nat} {l : List TPair} {k : Nat} {p : TPair} (h : p ∈ itC n l k) : p ∈ itC n l (k + 1) := mem_pmerge.2 (.inl h)
theorem itC_stay {n : Nat} {l : List TPair} {k : Nat} (h : itC n l (k + 1) = itC n l k) : ∀ m, k ≤ m → itC n l m = itC n l k := by
 intro m hm
 induction hm with
 | refl => rfl
 | step _ ih => rw [itC, ih]; exact h
theorem countP_lt {α : Type} {p q : α → Bool} {a : α} : ∀ {l : List α}, (∀ x ∈ l, p x = true → q x = true) → a ∈ l → p a = false → q a = true → l.countP p < l.countP q
 | [], _, h, _, _ => by cases h
 | x :: l, hpq, h, hp, hq => by
  rw [List.countP_cons, List.countP_cons]
  have hm : l.countP p ≤ l.countP q := List.countP_mono_left fun y hy => hpq y (by simp [hy])
  rcases List.mem_cons.1 h with rfl | h
  · rw [hp, hq]; simp; omega
  · have := countP_lt (l := l) (fun y hy => hpq y (by simp [hy])) h hp hq
    have hx := hpq x (by simp)
    cases hpx : p x with
    | false => simp; omega
    | true => rw [hx hpx]; simp; omega
def cntC (n : Nat) (l : List TPair) (x : Int) (k : Nat) : Nat := (List.range n).countP fun (y : Nat) => decide ((⟨x, (y : Int)⟩ : TPair) ∈ itC n l k)
theorem itC_grow {n : Nat} {l : List TPair} (hl : relIn n l) {x : Int} (hx : 0 ≤ x ∧ x < n) : ∀ k, (∀ y, (⟨x, y⟩ : TPair) ∈ itC n l (k + 1) → (⟨x, y⟩ : TPair) ∈ itC n l k) ∨ k + 1 < cntC n l x (k + 1)
 | k => by
  have hpos : k + 1 ≤ cntC n l x k ∨ (∀ y, (⟨x, y⟩ : TPair) ∈ itC n l (k + 1) → (⟨x, y⟩ : TPair) ∈ itC n l k) := by
   cases k with
   | zero =>
    left
    have hm : x.toNat ∈ List.range n := List.mem_range.2 (by omega)
    have := countP_lt (p := fun _ => false) (q := fun (y : Nat) => decide ((⟨x, (y : Int)⟩ : TPair) ∈ itC n l 0)) (a := x.toNat) (l := List.range n) (fun _ _ h => by cases h) hm rfl (by simp only [decide_eq_true_eq]; exact mem_idL.2 ⟨hx, by simp; omega⟩)
    unfold cntC; omega
   | succ k =>
    rcases itC_grow hl hx k with h | h
    · right
      intro y hy
      rw [itC] at hy
      rcases mem_pmerge.1 hy with hy | hy
      · exact hy
      · obtain ⟨p, hp, q, hq, h1, h2, h3⟩ := mem_compL.1 hy
        have hp' : p = ⟨x, p.To⟩ := by cases p; simp at h2 ⊢; exact h2.symm
        rw [hp'] at hp
        rw [itC]
        exact mem_pmerge.2 (.inr (mem_compL.2 ⟨_, h _ hp, q, hq, h1, rfl, h3⟩))
    · left; omega
  rcases hpos with h | h
  · by_cases hs : ∀ y, (⟨x, y⟩ : TPair) ∈ itC n l (k + 1) → (⟨x, y⟩ : TPair) ∈ itC n l k
    · exact .inl hs
    · right
      obtain ⟨y, hy⟩ := Classical.not_forall.1 hs
      obtain ⟨hy1, hy2⟩ := Classical.not_imp.1 hy
      have hb := (itC_in hl (k + 1) _ hy1).2
      have hyn : ((y.toNat : Nat) : Int) = y := Int.toNat_of_nonneg hb.1
      have := countP_lt (p := fun (y : Nat) => decide ((⟨x, (y : Int)⟩ : TPair) ∈ itC n l k)) (q := fun (y : Nat) => decide ((⟨x, (y : Int)⟩ : TPair) ∈ itC n l (k + 1))) (a := y.toNat) (l := List.range n) (fun z _ hz => by simp only [decide_eq_true_eq] at hz ⊢; exact itC_more hz) (List.mem_range.2 (by have := hb.2; simp at this; omega)) (by simp only [decide_eq_false_iff_not, hyn]; exact hy2) (by simp only [decide_eq_true_eq, hyn]; exact hy1)
      have this' : cntC n l x k < cntC n l x (k + 1) := this
      exact Nat.lt_of_le_of_lt h this'
  · exact .inl h
theorem itC_fix {n : Nat} {l : List TPair} (hl : relIn n l) : itC n l (n + 1) = itC n l n := by
 refine strict_ext pless_so (itC_strict _ _ _) (itC_strict _ _ _) fun p => ⟨fun hp => ?_, itC_more⟩
 have hb := itC_in hl _ p hp
 rcases itC_grow hl (x := p.From) hb.1 n with h | h
 · exact h p.To hp
 · have : cntC n l p.From (n + 1) ≤ n := by unfold cntC; exact Nat.le_trans List.countP_le_length (by simp)
   omega
def closeL (n : Nat) (l : List TPair) : List TPair := itC n l 5
theorem closeL_stay {n : Nat} (hn : n ≤ 5) {l : List TPair} (hl : relIn n l) {k : Nat} (hk : 5 ≤ k) : itC n l k = closeL n l := by
 have h := itC_stay (itC_fix hl)
 unfold closeL
 rw [h k (by omega), h 5 (by omega)]
theorem itC_done {n : Nat} (hn : n ≤ 5) {l : List TPair} (hl : relIn n l) {k : Nat} (h : (itC n l (k + 1)).length = (itC n l k).length) : itC n l k = closeL n l := by
 have e := strict_same (itC_strict n l k) (itC_strict n l (k + 1)) (fun x hx => itC_more hx) (by omega)
 have h2 := itC_stay e.symm (max k 5) (by omega)
 rw [← h2]
 exact closeL_stay hn hl (by omega)
theorem itC_on {n : Nat} (hn : n ≤ 5) {l : List TPair} (hl : relIn n l) {k : Nat} (h : (itC n l (k + 1)).length ≠ (itC n l k).length) : k < 5 := by
 rcases Nat.lt_or_ge k 5 with h5 | h5
 · exact h5
 · exact absurd (by rw [closeL_stay hn hl (show 5 ≤ k + 1 by omega), closeL_stay hn hl h5]) h
def pwL (n : Nat) (l : List TPair) : Nat → List TPair
 | 0 => idL n
 | k + 1 => compL (pwL n l k) l
def outP (n : Nat) (l : List TPair) (low : Int) : Nat → List TPair
 | 0 => []
 | k + 1 => if low ≤ k then pmerge (outP n l low k) (pwL n l k) else outP n l low k
theorem pwL_in {n : Nat} {l : List TPair} (hl : relIn n l) : ∀ k, relIn n (pwL n l k)
 | 0 => relIn_id n
 | k + 1 => relIn_comp (pwL_in hl k) hl
theorem pwL_strict (n : Nat) (l : List TPair) : ∀ k, StrictS pless (pwL n l k)
 | 0 => idL_strict n
 | k + 1 => setG_strict pless_so _
theorem outP_in {n : Nat} {l : List TPair} {low : Int} (hl : relIn n l) : ∀ k, relIn n (outP n l low k)
 | 0 => fun p hp => by cases hp
 | k + 1 => by
  rw [outP]
  split
  · exact relIn_merge (outP_in hl k) (pwL_in hl k)
  · exact outP_in hl k
theorem outP_strict (n : Nat) (l : List TPair) (low : Int) : ∀ k, StrictS pless (outP n l low k)
 | 0 => List.Pairwise.nil
 | k + 1 => by
  rw [outP]
  split
  · exact setG_strict pless_so _
  · exact outP_strict n l low k
def powL (n : Nat) (l : List TPair) (low high : Int) : List TPair := outP n l low (high.toNat + 1)
def edgeP (k : Int) (e : TEdge) : List TPair := (if 2 * e.Label = k then [⟨e.From, e.To⟩] else []) ++ if 2 * e.Label + 1 = k then [⟨e.To, e.From⟩] else []
def selfP (g : TGraph) (k : Int) (x : Nat) : List TPair := if k = 6 + g.Values[x]?.getD 0 then [⟨(x : Int), (x : Int)⟩] else []
def letL (g : TGraph) (k : Int) : List TPair := setG pless ((List.range g.Values.length).flatMap (selfP g k) ++ g.Edges.flatMap (edgeP k))
def relOf (g : TGraph) : Tr → List TPair
 | .leaf t => if t.Kind = 2 then idL g.Values.length else if t.Kind = 3 then letL g t.Letter else []
 | .un t x => if t.Kind = 6 then closeL g.Values.length (relOf g x) else powL g.Values.length (relOf g x) t.Low t.High
 | .bin t x y => if t.Kind = 4 then compL (relOf g x) (relOf g y) else pmerge (relOf g x) (relOf g y)
theorem letL_in {g : TGraph} (hg : validG g = true) (k : Int) : relIn g.Values.length (letL g k) := fun p hp => by
 unfold letL at hp
 rw [mem_setG, List.mem_append] at hp
 rcases hp with hp | hp
 · obtain ⟨x, hx, hp⟩ := List.mem_flatMap.1 hp
   have := List.mem_range.1 hx
   unfold selfP at hp
   split at hp
   · rw [List.mem_singleton] at hp; subst hp; simp; omega
   · cases hp
 · obtain ⟨e, he, hp⟩ := List.mem_flatMap.1 hp
   obtain ⟨j, hj⟩ := List.getElem?_of_mem he
   have := validG_edge hg hj
   unfold edgeP at hp
   rcases List.mem_append.1 hp with hp | hp
   · split at hp
     · rw [List.mem_singleton] at hp; subst hp; simp only; omega
     · cases hp
   · split at hp
     · rw [List.mem_singleton] at hp; subst hp; simp only; omega
     · cases hp
theorem relOf_ok {g : TGraph} (hg : validG g = true) : ∀ x : Tr, relIn g.Values.length (relOf g x) ∧ StrictS pless (relOf g x)
 | .leaf t => by
  rw [relOf]
  split
  · exact ⟨relIn_id _, idL_strict _⟩
  · split
    · exact ⟨letL_in hg _, setG_strict pless_so _⟩
    · exact ⟨fun p hp => (by cases hp), List.Pairwise.nil⟩
 | .un t x => by
  have ih := relOf_ok hg x
  rw [relOf]
  split
  · exact ⟨itC_in ih.1 _, itC_strict _ _ _⟩
  · exact ⟨outP_in ih.1 _, outP_strict _ _ _ _⟩
 | .bin t x y => by
  have ih := relOf_ok hg x
  have ih2 := relOf_ok hg y
  rw [relOf]
  split
  · exact ⟨relIn_comp ih.1 ih2.1, setG_strict pless_so _⟩
  · exact ⟨relIn_merge ih.1 ih2.1, setG_strict pless_so _⟩
theorem relOf_len {g : TGraph} (hg : validG g = true) (x : Tr) : (relOf g x).length ≤ 25 := relIn_len5 (validG_len hg).2.1 (relOf_ok hg x).2 (relOf_ok hg x).1
end Go.Q
