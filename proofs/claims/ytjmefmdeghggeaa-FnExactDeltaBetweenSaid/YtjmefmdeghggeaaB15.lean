/- Pairs: both texts. -/
import Derived.Test.YtjmefmdeghggeaaSort
import Derived.Test.YtjmefmdeghggeaaB02
import Derived.Test.YtjmefmdeghggeaaAbsK
set_option linter.unusedVariables false
set_option linter.unusedSimpArgs false
set_option maxHeartbeats 1000000
set_option maxRecDepth 100000
namespace Go.Q
open Go.D
/-! ### Sets as sorted lists -/
structure SO {α : Type} (lt : α → α → Bool) : Prop where
  irr : ∀ x, lt x x = false
  tra : ∀ x y z, lt x y = true → lt y z = true → lt x z = true
  tri : ∀ x y, lt x y = true ∨ x = y ∨ lt y x = true
def putG {α : Type} [DecidableEq α] (lt : α → α → Bool) : List α → α → List α
  | [], p => [p]
  | x :: l, p => if lt x p then x :: putG lt l p else if x = p then x :: l else p :: x :: l
def StrictS {α : Type} (lt : α → α → Bool) (l : List α) : Prop := l.Pairwise fun a b => lt a b = true
section
variable {α : Type} {lt : α → α → Bool}
theorem strict_nodup (ho : SO lt) {l : List α} (h : StrictS lt l) : l.Nodup := List.Pairwise.imp (fun {a b} hab e => by subst e; rw [ho.irr] at hab; cases hab) h
theorem strict_ext (ho : SO lt) : ∀ {l r : List α}, StrictS lt l → StrictS lt r → (∀ x, x ∈ l ↔ x ∈ r) → l = r
  | [], [], _, _, _ => rfl
  | [], y :: r, _, _, h => by have := (h y).2 (by simp); cases this
  | x :: l, [], _, _, h => by have := (h x).1 (by simp); cases this
  | x :: l, y :: r, hl, hr, h => by
    have hl' := List.pairwise_cons.1 hl
    have hr' := List.pairwise_cons.1 hr
    have e : x = y := by
      rcases List.mem_cons.1 ((h x).1 (by simp)) with h1 | h1
      · exact h1
      · rcases List.mem_cons.1 ((h y).2 (by simp)) with h2 | h2
        · exact h2.symm
        · have h3 := hr'.1 x h1
          have h4 := hl'.1 y h2
          have := ho.tra _ _ _ h3 h4
          rw [ho.irr] at this; cases this
    subst e
    congr 1
    refine strict_ext ho hl'.2 hr'.2 fun z => ⟨fun hz => ?_, fun hz => ?_⟩
    · rcases List.mem_cons.1 ((h z).1 (by simp [hz])) with h1 | h1
      · subst h1; have := hl'.1 z hz; rw [ho.irr] at this; cases this
      · exact h1
    · rcases List.mem_cons.1 ((h z).2 (by simp [hz])) with h1 | h1
      · subst h1; have := hr'.1 z hz; rw [ho.irr] at this; cases this
      · exact h1
def leG (lt : α → α → Bool) (a b : α) : Bool := !lt b a
def sortG (lt : α → α → Bool) (l : List α) : List α := l.mergeSort (leG lt)
theorem leG_trans (ho : SO lt) (a b c : α) (h1 : leG lt a b = true) (h2 : leG lt b c = true) : leG lt a c = true := by
  unfold leG at *
  simp only [Bool.not_eq_true'] at *
  cases h : lt c a with
  | false => rfl
  | true =>
    rcases ho.tri a b with h3 | h3 | h3
    · have := ho.tra _ _ _ h h3; rw [h2] at this; cases this
    · subst h3; rw [h2] at h; cases h
    · rw [h1] at h3; cases h3
theorem leG_total (ho : SO lt) (a b : α) : (leG lt a b || leG lt b a) = true := by
  unfold leG
  cases h : lt b a with
  | false => rfl
  | true =>
    cases h2 : lt a b with
    | false => rfl
    | true => have := ho.tra _ _ _ h h2; rw [ho.irr] at this; cases this
theorem sortG_sorted (ho : SO lt) (l : List α) : (sortG lt l).Pairwise fun a b => lt b a = false := by
  have := List.pairwise_mergeSort (leG_trans ho) (leG_total ho) l
  exact this.imp fun h => by simpa [leG] using h
theorem mem_sortG {x : α} {l : List α} : x ∈ sortG lt l ↔ x ∈ l := (List.mergeSort_perm l _).mem_iff
theorem sortG_len (l : List α) : (sortG lt l).length = l.length := (List.mergeSort_perm l _).length_eq
theorem sortG_unique (ho : SO lt) {l r : List α} (hp : r.Perm l) (hs : r.Pairwise fun a b => lt b a = false) : r = sortG lt l := by
  refine List.Perm.eq_of_pairwise (le := fun a b => lt b a = false) (fun a b _ _ h1 h2 => ?_) hs (sortG_sorted ho l) (hp.trans (List.mergeSort_perm l _).symm)
  rcases ho.tri a b with h3 | h3 | h3
  · rw [h2] at h3; cases h3
  · exact h3
  · rw [h1] at h3; cases h3
theorem filter_strict {l : List α} (p : α → Bool) (h : StrictS lt l) : StrictS lt (l.filter p) := List.Pairwise.filter p h
end
section
variable {α : Type} [DecidableEq α] {lt : α → α → Bool}
theorem mem_putG {x p : α} : ∀ {l : List α}, x ∈ putG lt l p ↔ x ∈ l ∨ x = p
  | [] => by simp [putG]
  | y :: l => by
    rw [putG]
    split
    · simp [mem_putG (l := l), or_assoc]
    · split
      · rename_i h; subst h; simp; intro h; exact .inl h
      · simp; constructor
        · rintro (h | h | h) <;> simp [h]
        · rintro ((h | h) | h) <;> simp [h]
theorem putG_strict (ho : SO lt) {p : α} : ∀ {l : List α}, StrictS lt l → StrictS lt (putG lt l p)
  | [], _ => by simp [putG, StrictS]
  | y :: l, h => by
    have h' := List.pairwise_cons.1 h
    rw [putG]
    split
    · rename_i hy
      refine List.pairwise_cons.2 ⟨fun x hx => ?_, putG_strict ho h'.2⟩
      rcases mem_putG.1 hx with hx | rfl
      · exact h'.1 x hx
      · exact hy
    · rename_i hy
      split
      · exact h
      · rename_i hne
        have hlt : lt p y = true := by
          rcases ho.tri y p with h1 | h1 | h1
          · exact absurd h1 hy
          · exact absurd h1 hne
          · exact h1
        refine List.pairwise_cons.2 ⟨fun x hx => ?_, h⟩
        rcases List.mem_cons.1 hx with rfl | hx
        · exact hlt
        · exact ho.tra _ _ _ hlt (h'.1 x hx)
def setG (lt : α → α → Bool) (l : List α) : List α := l.foldl (putG lt) []
theorem foldl_strict (ho : SO lt) : ∀ {l acc : List α}, StrictS lt acc → StrictS lt (l.foldl (putG lt) acc)
  | [], _, h => h
  | x :: l, acc, h => foldl_strict ho (l := l) (putG_strict ho h)
theorem mem_foldl {x : α} : ∀ {l acc : List α}, x ∈ l.foldl (putG lt) acc ↔ x ∈ acc ∨ x ∈ l
  | [], acc => by simp
  | y :: l, acc => by
    rw [List.foldl_cons, mem_foldl, mem_putG, List.mem_cons, or_assoc]
theorem setG_strict (ho : SO lt) (l : List α) : StrictS lt (setG lt l) := foldl_strict ho List.Pairwise.nil
theorem mem_setG {x : α} {l : List α} : x ∈ setG lt l ↔ x ∈ l := by unfold setG; rw [mem_foldl]; simp
/-- Neighbours that are equal are one. -/
def compactL : List α → List α
  | [] => []
  | [x] => [x]
  | x :: y :: l => if x = y then compactL (y :: l) else x :: compactL (y :: l)
theorem mem_compactL {x : α} : ∀ {l : List α}, x ∈ compactL l ↔ x ∈ l
  | [] => Iff.rfl
  | [y] => Iff.rfl
  | y :: z :: l => by
    rw [compactL]
    split
    · rename_i h; subst h; rw [mem_compactL]; simp
    · rw [List.mem_cons, mem_compactL, List.mem_cons (l := z :: l)]
theorem compactL_strict (ho : SO lt) : ∀ {l : List α}, l.Pairwise (fun a b => lt b a = false) → StrictS lt (compactL l)
  | [], _ => List.Pairwise.nil
  | [y], _ => by simp [compactL, StrictS]
  | y :: z :: l, h => by
    have h' := List.pairwise_cons.1 h
    rw [compactL]
    split
    · exact compactL_strict ho h'.2
    · rename_i hne
      refine List.pairwise_cons.2 ⟨fun x hx => ?_, compactL_strict ho h'.2⟩
      have hyz : lt y z = true := by
        rcases ho.tri y z with h1 | h1 | h1
        · exact h1
        · exact absurd h1 hne
        · rw [h'.1 z (by simp)] at h1; cases h1
      rcases List.mem_cons.1 (mem_compactL.1 hx) with rfl | hx
      · exact hyz
      · have h2 := (List.pairwise_cons.1 h'.2).1 x hx
        rcases ho.tri z x with h3 | h3 | h3
        · exact ho.tra _ _ _ hyz h3
        · subst h3; exact hyz
        · rw [h2] at h3; cases h3
theorem compact_sort (ho : SO lt) (l : List α) : compactL (sortG lt l) = setG lt l :=
  strict_ext ho (compactL_strict ho (sortG_sorted ho l)) (setG_strict ho l) fun x => by rw [mem_compactL, mem_sortG, mem_setG]
/-- Those of a set of which p holds, put one after the other. -/
theorem setG_filter (ho : SO lt) (p : α → Bool) (l : List α) : (setG lt l).filter p = setG lt (l.filter p) :=
  strict_ext ho (filter_strict p (setG_strict ho l)) (setG_strict ho _) fun x => by rw [List.mem_filter, mem_setG, mem_setG, List.mem_filter]
theorem putG_len (p : α) : ∀ l : List α, (putG lt l p).length ≤ l.length + 1
  | [] => by simp [putG]
  | x :: l => by
    rw [putG]
    have := putG_len p l
    split
    · simp; omega
    · split <;> simp
theorem setG_len (l : List α) : (setG lt l).length ≤ l.length := by
  have key : ∀ (l acc : List α), (l.foldl (putG lt) acc).length ≤ acc.length + l.length := by
    intro l
    induction l with
    | nil => intro acc; simp
    | cons x l ih => intro acc; rw [List.foldl_cons]; have := ih (putG lt acc x); have := putG_len (lt := lt) x acc; simp; omega
  have := key l []
  simpa [setG] using this
/-- How it is put: behind those that are less. -/
theorem putG_at : ∀ {l : List α} {k : Nat} {p : α}, (∀ j y, j < k → l[j]? = some y → lt y p = true) → (∀ y, l[k]? = some y → lt y p = false) → k ≤ l.length → putG lt l p = if l[k]? = some p then l else l.take k ++ [p] ++ l.drop k
  | [], k, p, _, _, hk => by have : k = 0 := by simpa using hk
                             subst this; simp [putG]
  | x :: l, 0, p, _, h2, _ => by
    have := h2 x rfl
    rw [putG, if_neg (by rw [this]; simp)]
    simp
  | x :: l, k + 1, p, h1, h2, hk => by
    have hx := h1 0 x (by omega) rfl
    rw [putG, if_pos hx, putG_at (k := k) (fun j y hj hy => h1 (j + 1) y (by omega) (by simpa using hy)) (fun y hy => h2 y (by simpa using hy)) (by simpa using hk)]
    simp only [List.getElem?_cons_succ, List.take_succ_cons, List.drop_succ_cons, List.cons_append]
    split <;> rfl
end
/-! ### Pairs -/
def pless (a b : TPair) : Bool := decide (a.From < b.From) || decide (a.From = b.From) && decide (a.To < b.To)
theorem pless_so : SO pless := by
  refine ⟨fun x => by simp [pless], fun x y z => ?_, fun x y => ?_⟩
  · unfold pless
    simp only [Bool.or_eq_true, Bool.and_eq_true, decide_eq_true_eq]
    omega
  · unfold pless
    simp only [Bool.or_eq_true, Bool.and_eq_true, decide_eq_true_eq]
    have : x = y ↔ x.From = y.From ∧ x.To = y.To := by cases x; cases y; simp
    rw [this]; omega
def psub (a b : List TPair) : List TPair := setG pless (a.filter fun p => !decide (p ∈ b))
def pmerge (a b : List TPair) : List TPair := setG pless (a ++ b)
end Go.Q
namespace Go.Proofs
open Go.Shelf Go.RowKit Go.Lib Go.Sort
def Try.sortPair_ren:Go.Shelf.Ren:=⟨fun|6=>213|15=>165|14=>249|28=>224|29=>225|20=>259|21=>260|22=>261|23=>262|24=>263|25=>264|26=>265|27=>266|46=>277|47=>251|48=>252|49=>278|50=>279|57=>283|n=>n,fun|22=>37|24=>118|25=>186|3=>3|39=>184|0=>0|53=>231|55=>233|4=>4|46=>224|45=>223|50=>228|5=>5|9=>9|66=>247|70=>251|76=>265|77=>85|n=>n,fun|n=>n⟩
theorem Try.sortPair:Go.Proofs.SlLaysF0.n6 Try.prog Try.sortPair_ren:={
 mixed:=by kernel_rfl
 f6:=⟨Try.f213.name,by decide,Try.func213.trans (congrArg some (by kernel_rfl))⟩
 f14:=⟨Try.f249.name,by decide,Try.func249.trans (congrArg some (by kernel_rfl))⟩
 f15:=Try.func165.trans (congrArg some (by kernel_rfl))
 f20:=⟨Try.f259.name,by decide,Try.func259.trans (congrArg some (by kernel_rfl))⟩
 f21:=⟨Try.f260.name,by decide,Try.func260.trans (congrArg some (by kernel_rfl))⟩
 f22:=⟨Try.f261.name,by decide,Try.func261.trans (congrArg some (by kernel_rfl))⟩
 f23:=⟨Try.f262.name,by decide,Try.func262.trans (congrArg some (by kernel_rfl))⟩
 f24:=⟨Try.f263.name,by decide,Try.func263.trans (congrArg some (by kernel_rfl))⟩
 f25:=⟨Try.f264.name,by decide,Try.func264.trans (congrArg some (by kernel_rfl))⟩
 f26:=⟨Try.f265.name,by decide,Try.func265.trans (congrArg some (by kernel_rfl))⟩
 f27:=⟨Try.f266.name,by decide,Try.func266.trans (congrArg some (by kernel_rfl))⟩
 f28:=Try.func224.trans (congrArg some (by kernel_rfl))
 f29:=Try.func225.trans (congrArg some (by kernel_rfl))
 f46:=⟨Try.f277.name,by decide,Try.func277.trans (congrArg some (by kernel_rfl))⟩
 f47:=Try.func251.trans (congrArg some (by kernel_rfl))
 f48:=Try.func252.trans (congrArg some (by kernel_rfl))
 f49:=⟨Try.f278.name,by decide,Try.func278.trans (congrArg some (by kernel_rfl))⟩
 f50:=⟨Try.f279.name,by decide,Try.func279.trans (congrArg some (by kernel_rfl))⟩
 f57:=⟨Try.f283.name,by decide,Try.func283.trans (congrArg some (by kernel_rfl))⟩
 t0:=Try.underlying0
 a0:=Try.isAgg0
 z0:=Try.sizeOf0
 v0:=Try.zeroValue0
 t3:=Try.underlying3
 a3:=Try.isAgg3
 z3:=Try.sizeOf3
 v3:=Try.zeroValue3
 t4:=Try.underlying4
 a4:=Try.isAgg4
 z4:=Try.sizeOf4
 v4:=Try.zeroValue4
 t5:=Try.underlying5
 a5:=Try.isAgg5
 z5:=Try.sizeOf5
 v5:=Try.zeroValue5
 t9:=Try.underlying9
 a9:=Try.isAgg9
 z9:=Try.sizeOf9
 v9:=Try.zeroValue9
 t22:=Try.underlying37
 a22:=Try.isAgg37
 z22:=Try.sizeOf37
 v22:=Try.zeroValue37
 t25:=Try.underlying186
 a25:=Try.isAgg186
 z25:=Try.sizeOf186
 v25:=Try.zeroValue186
 t39:=Try.underlying184
 a39:=Try.isAgg184
 z39:=Try.sizeOf184
 v39:=Try.zeroValue184
 t45:=Try.underlying223
 a45:=Try.isAgg223
 z45:=Try.sizeOf223
 v45:=Try.zeroValue223
 t46:=Try.underlying224
 a46:=Try.isAgg224
 z46:=Try.sizeOf224
 v46:=Try.zeroValue224
 t50:=Try.underlying228
 a50:=Try.isAgg228
 z50:=Try.sizeOf228
 v50:=Try.zeroValue228
 t53:=Try.underlying231
 a53:=Try.isAgg231
 z53:=Try.sizeOf231
 v53:=Try.zeroValue231
 t55:=Try.underlying233
 a55:=Try.isAgg233
 z55:=Try.sizeOf233
 v55:=Try.zeroValue233
 t66:=Try.underlying247
 a66:=Try.isAgg247
 z66:=Try.sizeOf247
 v66:=Try.zeroValue247
 t70:=Try.underlying251
 a70:=Try.isAgg251
 z70:=Try.sizeOf251
 v70:=Try.zeroValue251
 t76:=Try.underlying265
 a76:=Try.isAgg265
 z76:=Try.sizeOf265
 v76:=Try.zeroValue265
 t77:=Try.underlying85
 a77:=Try.isAgg85
 z77:=Try.sizeOf85
 v77:=Try.zeroValue85 }
end Go.Proofs
namespace Go.Q
open Go.D
theorem put_found {l : List TPair} {k : Nat} {p d : TPair} (h1 : ∀ j y, j < k → l[j]? = some y → pless y p = true) (hk : k < l.length) (he : l[k]?.getD d = p) : putG pless l p = l := by
  have hg : l[k]? = some p := by rw [getD_at (d := d) hk, he]
  rw [putG_at h1 (fun y hy => by rw [hg] at hy; cases hy; exact pless_so.irr p) (by omega), if_pos hg]
theorem put_new {l : List TPair} {k : Nat} {p d : TPair} (h1 : ∀ j y, j < k → l[j]? = some y → pless y p = true) (hk : k ≤ l.length) (hn : k < l.length → pless (l[k]?.getD d) p = false) (hne : k < l.length → l[k]?.getD d ≠ p) : putG pless l p = l.take k ++ [p] ++ l.drop k := by
  rw [putG_at h1 (fun y hy => by have hlt := (List.getElem?_eq_some_iff.1 hy).1; have := hn hlt; rwa [hy] at this) hk, if_neg (fun hy => by have hlt := (List.getElem?_eq_some_iff.1 hy).1; have := hne hlt; rw [hy] at this; exact this rfl)]
theorem any_not {α : Type} {p : α → Bool} {l : List α} {k : Nat} (h : ∀ j y, j < k → l[j]? = some y → (!p y) = true) (hk : l.length ≤ k) : l.any p = false := by
  rw [List.any_eq_false]
  intro x hx
  obtain ⟨j, hj, rfl⟩ := List.getElem_of_mem hx
  have := h j _ (by omega) (List.getElem?_eq_getElem hj)
  simpa using this
theorem pair_eq {x y : TPair} : x = y ↔ x.From = y.From ∧ x.To = y.To := by cases x; cases y; simp
def cmpI (x y : Int) : Int := if x < y then -1 else if y < x then 1 else 0
def cmpP (x y : TPair) : Int := if x.From ≠ y.From then cmpI x.From y.From else cmpI x.To y.To
theorem cmpP_lt (x y : TPair) : Go.Proofs.ltOf cmpP x y = pless x y := by
  unfold Go.Proofs.ltOf pless cmpP cmpI
  rw [Bool.eq_iff_iff]
  simp only [Bool.or_eq_true, Bool.and_eq_true, decide_eq_true_eq]
  repeat' split
  all_goals omega
theorem swo_pless : Go.Sort.SWO (Go.Proofs.ltOf cmpP) where
  irrefl x := by rw [cmpP_lt]; exact pless_so.irr x
  trans x y z h1 h2 := by rw [cmpP_lt] at *; exact pless_so.tra x y z h1 h2
  ntrans x y z h1 h2 := by
    rw [cmpP_lt] at *
    have := leG_trans pless_so z y x (by unfold leG; rw [h2]; rfl) (by unfold leG; rw [h1]; rfl)
    unfold leG at this
    simpa using this
instance : Inhabited TPair := ⟨⟨0, 0⟩⟩
def encP (x : TPair) : List Value := [.int .i64 x.From, .int .i64 x.To]
end Go.Q
namespace Go.Proofs.Ytjmefmdeghggeaa
open Go.RowKit Go.Q Go.D
theorem compareInts_calls (x y : Int) (W : World) : Calls Try.prog 227 #[.int .i64 x, .int .i64 y] W fun e w' => e = .returned (.int .i64 (cmpI x y)) ∧ w' = W := by
  have e : cmpI x y = if x < y then -1 else if y < x then 1 else 0 := rfl
  generalize cmpI x y = r at e ⊢
  by_cases h1 : x < y
  · rw [if_pos h1] at e
    subst e
    go_enter Try.func227, Try.ntmps227
    go_wp2
    go_ret
    exact ⟨rfl, rfl⟩
  · rw [if_neg h1] at e
    by_cases h2 : y < x
    · rw [if_pos h2] at e
      subst e
      go_enter Try.func227, Try.ntmps227
      go_wp2
      go_ret
      exact ⟨rfl, rfl⟩
    · rw [if_neg h2] at e
      subst e
      go_enter Try.func227, Try.ntmps227
      go_wp2
      go_ret
      exact ⟨rfl, rfl⟩
open Go.Sort (grow alloc_eq_grow grow_grow)
theorem comparePairs_calls (x y : TPair) (W : World) : Calls Try.prog 168 #[.agg #[.int .i64 x.From, .int .i64 x.To], .agg #[.int .i64 y.From, .int .i64 y.To]] W fun e w' => e = .returned (.int .i64 (cmpP x y)) ∧ ∃ q os', w' = grow (W.drewN q) os' := by
  have hcon := fun a b W' => compareInts_calls a b W'
  have e : cmpP x y = if x.From ≠ y.From then cmpI x.From y.From else cmpI x.To y.To := rfl
  by_cases h1 : x.From = y.From
  · rw [if_neg (by simp [h1])] at e
    rw [e]
    generalize x.From = a at *
    generalize x.To = b at *
    generalize y.From = c at *
    generalize y.To = d at *
    subst h1
    generalize hr : cmpI b d = r
    go_enter Try.func168, Try.ntmps168
    go_wp2_with (go_at_call 227; refine (hcon _ _ _).mono ?_; rintro e w' ⟨rfl, rfl⟩)
    go_ret
    exact ⟨rfl, 0, _, by rw [alloc_eq_grow, alloc_eq_grow, grow_grow]; rfl⟩
  · rw [if_pos h1] at e
    rw [e]
    generalize x.From = a at *
    generalize x.To = b at *
    generalize y.From = c at *
    generalize y.To = d at *
    generalize hr : cmpI a c = r
    go_enter Try.func168, Try.ntmps168
    go_wp2_with (go_at_call 227; refine (hcon _ _ _).mono ?_; rintro e w' ⟨rfl, rfl⟩)
    go_ret
    exact ⟨rfl, 0, _, by rw [alloc_eq_grow, alloc_eq_grow, grow_grow]; rfl⟩
theorem sortPairs (l : List TPair) (hl : l.length < 4611686018427387904) : FnS Try.prog 213 2 (l.map cPair) (.func (.func 168) #[] #[]) ((sortG pless l).map cPair) :=
  FnS.ofK (enc := encP) (c := cPair) (lt := pless) ⟨_, rfl, by kernel_rfl, rfl⟩ (fun _ => rfl) (fun _ => rfl) (fun x v hv => by simp [encP] at hv; rcases hv with rfl | rfl <;> rfl) (sortG pless) sortG_len
    (fun p cap w => AnyF.slices_SortFunc_none Try.sortPair p cap _ w)
    (fun blk cap d w hH hblk hsz => by
      have hcon := AnyQ.slices_SortFunc_total Try.sortPair 2 Try.isAgg118 Try.sizeOf118 encP (fun _ => rfl) (fun x v hv => by simp [encP] at hv; rcases hv with rfl | rfl <;> rfl) cmpP swo_pless 168 #[] blk 0 cap d w (enters_of Try.func168 (by kernel_rfl) rfl) (fun _ _ _ _ x y => comparePairs_calls x y _) hH hblk hsz (fun x y h1 h2 => by
        rw [cmpP_lt] at h1 h2
        rcases pless_so.tri x y with h | h | h
        · rw [h1] at h; cases h
        · exact h
        · rw [h2] at h; cases h)
      refine hcon.mono fun e w' ⟨he, n, os, hw⟩ => ⟨he, n, os, ?_⟩
      have hle : (fun x y => !Go.Proofs.ltOf cmpP y x) = leG pless := by
        funext x y
        unfold leG
        rw [cmpP_lt]
      rw [hw, hle]
      rfl) l hl
theorem eqP_iff (x y : TPair) : (decide (x.From = y.From) && decide (x.To = y.To)) = decide (x = y) := by
  cases x; cases y; simp [Bool.decide_and]
theorem specl15Less (x y : TPair) : FnT Try.prog 167 [.agg (cPair x), .agg (cPair y)] (.a (.one (.v (.bool (pless x y))))) := by
  refine FnT.walk Try.func167 rfl (by kernel_rfl) Try.ntmps167 rfl fun hlen w0 => ?_
  try simp [cPair, cToken, cExpr, cEdge, cGraph, cStep, cWalk, cChange, cBatch, cHistory, cPositions, cAutomaton, cProductStep, cPathAtom, cConjunction, cView, cDelta, cRegistered, cRegistry] at hlen
  refine AW.seq ?_
  -- region 0
  refine AW.region ?_
  refine AWl.put (R_boxz rfl rfl rfl (.tmp rfl fun _ => rfl) (ts := _) (by first | rfl | exact cells_t1 _ | exact cells_t2 _)) rfl ?_
  refine AWl.put (R_boxz rfl rfl rfl (.tmp rfl fun _ => rfl) (ts := _) (by first | rfl | exact cells_t1 _ | exact cells_t2 _)) rfl ?_
  refine AWl.put (R_assign rfl (.no rfl) rfl (.const rfl)) rfl ?_
  refine AWl.nil ?_
  refine AW.seq ?_
  -- region 1
  refine AW.region ?_
  refine AWl.put ((by first | exact R_fieldAddr rfl (.no rfl) rfl (.tmp rfl fun _ => rfl) fl118_0 | exact R_fieldAddr_pp rfl (.no rfl) rfl (.tmp rfl fun _ => rfl) fl118_0 | exact R_fieldAddr_vw rfl (.no rfl) rfl (.tmp rfl fun _ => rfl) fl118_0 | exact R_fieldAddr_pr rfl (.no rfl) rfl (.tmp rfl fun _ => rfl) fl118_0)) rfl ?_
  refine AWl.put ((by first | exact R_load rfl (.no rfl) rfl (.tmp rfl fun _ => rfl) ty3 rfl rfl | exact R_load_pp rfl (.no rfl) rfl (.tmp rfl fun _ => rfl) rfl ty3 rfl rfl | exact R_load_vw rfl (.no rfl) rfl (.tmp rfl fun _ => rfl) ty3 rfl rfl | exact R_load_pr rfl (.no rfl) rfl (.tmp rfl fun _ => rfl) rfl (by first | assumption | exact map_get (by assumption)) ty3 rfl rfl)) rfl ?_
  refine AWl.put ((by first | exact R_fieldAddr rfl (.no rfl) rfl (.tmp rfl fun _ => rfl) fl118_0 | exact R_fieldAddr_pp rfl (.no rfl) rfl (.tmp rfl fun _ => rfl) fl118_0 | exact R_fieldAddr_vw rfl (.no rfl) rfl (.tmp rfl fun _ => rfl) fl118_0 | exact R_fieldAddr_pr rfl (.no rfl) rfl (.tmp rfl fun _ => rfl) fl118_0)) rfl ?_
  refine AWl.put ((by first | exact R_load rfl (.no rfl) rfl (.tmp rfl fun _ => rfl) ty3 rfl rfl | exact R_load_pp rfl (.no rfl) rfl (.tmp rfl fun _ => rfl) rfl ty3 rfl rfl | exact R_load_vw rfl (.no rfl) rfl (.tmp rfl fun _ => rfl) ty3 rfl rfl | exact R_load_pr rfl (.no rfl) rfl (.tmp rfl fun _ => rfl) rfl (by first | assumption | exact map_get (by assumption)) ty3 rfl rfl)) rfl ?_
  refine AWl.put (R_lt rfl (.no rfl) rfl (.tmp rfl fun _ => rfl) (.tmp rfl fun _ => rfl)) rfl ?_
  refine AWl.put (R_move rfl (.no rfl) rfl (.tmp rfl fun _ => rfl)) rfl ?_
  refine AWl.put ((by first | exact R_fieldAddr rfl (by first | exact .not1 rfl rfl rfl rfl | exact .not rfl rfl rfl rfl) rfl (.tmp rfl (by first | exact fun _ => rfl | exact id | simp)) fl118_0 | exact R_fieldAddr_pp rfl (by first | exact .not1 rfl rfl rfl rfl | exact .not rfl rfl rfl rfl) rfl (.tmp rfl (by first | exact fun _ => rfl | exact id | simp)) fl118_0 | exact R_fieldAddr_vw rfl (by first | exact .not1 rfl rfl rfl rfl | exact .not rfl rfl rfl rfl) rfl (.tmp rfl (by first | exact fun _ => rfl | exact id | simp)) fl118_0 | exact R_fieldAddr_pr rfl (by first | exact .not1 rfl rfl rfl rfl | exact .not rfl rfl rfl rfl) rfl (.tmp rfl (by first | exact fun _ => rfl | exact id | simp)) fl118_0)) rfl ?_
  refine AWl.put ((by first | exact R_load rfl (by first | exact .not1 rfl rfl rfl rfl | exact .not rfl rfl rfl rfl) rfl (.tmp rfl (by first | exact fun _ => rfl | exact id | simp)) ty3 rfl rfl | exact R_load_pp rfl (by first | exact .not1 rfl rfl rfl rfl | exact .not rfl rfl rfl rfl) rfl (.tmp rfl (by first | exact fun _ => rfl | exact id | simp)) rfl ty3 rfl rfl | exact R_load_vw rfl (by first | exact .not1 rfl rfl rfl rfl | exact .not rfl rfl rfl rfl) rfl (.tmp rfl (by first | exact fun _ => rfl | exact id | simp)) ty3 rfl rfl | exact R_load_pr rfl (by first | exact .not1 rfl rfl rfl rfl | exact .not rfl rfl rfl rfl) rfl (.tmp rfl (by first | exact fun _ => rfl | exact id | simp)) rfl (by first | assumption | exact map_get (by assumption)) ty3 rfl rfl)) rfl ?_
  refine AWl.put ((by first | exact R_fieldAddr rfl (by first | exact .not1 rfl rfl rfl rfl | exact .not rfl rfl rfl rfl) rfl (.tmp rfl (by first | exact fun _ => rfl | exact id | simp)) fl118_0 | exact R_fieldAddr_pp rfl (by first | exact .not1 rfl rfl rfl rfl | exact .not rfl rfl rfl rfl) rfl (.tmp rfl (by first | exact fun _ => rfl | exact id | simp)) fl118_0 | exact R_fieldAddr_vw rfl (by first | exact .not1 rfl rfl rfl rfl | exact .not rfl rfl rfl rfl) rfl (.tmp rfl (by first | exact fun _ => rfl | exact id | simp)) fl118_0 | exact R_fieldAddr_pr rfl (by first | exact .not1 rfl rfl rfl rfl | exact .not rfl rfl rfl rfl) rfl (.tmp rfl (by first | exact fun _ => rfl | exact id | simp)) fl118_0)) rfl ?_
  refine AWl.put ((by first | exact R_load rfl (by first | exact .not1 rfl rfl rfl rfl | exact .not rfl rfl rfl rfl) rfl (.tmp rfl (by first | exact fun _ => rfl | exact id | simp)) ty3 rfl rfl | exact R_load_pp rfl (by first | exact .not1 rfl rfl rfl rfl | exact .not rfl rfl rfl rfl) rfl (.tmp rfl (by first | exact fun _ => rfl | exact id | simp)) rfl ty3 rfl rfl | exact R_load_vw rfl (by first | exact .not1 rfl rfl rfl rfl | exact .not rfl rfl rfl rfl) rfl (.tmp rfl (by first | exact fun _ => rfl | exact id | simp)) ty3 rfl rfl | exact R_load_pr rfl (by first | exact .not1 rfl rfl rfl rfl | exact .not rfl rfl rfl rfl) rfl (.tmp rfl (by first | exact fun _ => rfl | exact id | simp)) rfl (by first | assumption | exact map_get (by assumption)) ty3 rfl rfl)) rfl ?_
  refine AWl.put (R_eq rfl (by first | exact .not1 rfl rfl rfl rfl | exact .not rfl rfl rfl rfl) rfl (.tmp rfl (by first | exact fun _ => rfl | exact id | simp)) (.tmp rfl (by first | exact fun _ => rfl | exact id | simp))) rfl ?_
  refine AWl.put (R_move rfl (by first | exact .not1 rfl rfl rfl rfl | exact .not rfl rfl rfl rfl) rfl (.tmp rfl (by first | exact fun _ => rfl | exact id | simp))) rfl ?_
  refine AWl.put ((by first | exact R_fieldAddr rfl (by first | exact .yes1 rfl rfl rfl rfl | exact .yes rfl rfl rfl rfl) rfl (.tmp rfl (by first | exact fun _ => rfl | exact id | simp)) fl118_1 | exact R_fieldAddr_pp rfl (by first | exact .yes1 rfl rfl rfl rfl | exact .yes rfl rfl rfl rfl) rfl (.tmp rfl (by first | exact fun _ => rfl | exact id | simp)) fl118_1 | exact R_fieldAddr_vw rfl (by first | exact .yes1 rfl rfl rfl rfl | exact .yes rfl rfl rfl rfl) rfl (.tmp rfl (by first | exact fun _ => rfl | exact id | simp)) fl118_1 | exact R_fieldAddr_pr rfl (by first | exact .yes1 rfl rfl rfl rfl | exact .yes rfl rfl rfl rfl) rfl (.tmp rfl (by first | exact fun _ => rfl | exact id | simp)) fl118_1)) rfl ?_
  refine AWl.put ((by first | exact R_load rfl (by first | exact .yes1 rfl rfl rfl rfl | exact .yes rfl rfl rfl rfl) rfl (.tmp rfl (by first | exact fun _ => rfl | exact id | simp)) ty3 rfl rfl | exact R_load_pp rfl (by first | exact .yes1 rfl rfl rfl rfl | exact .yes rfl rfl rfl rfl) rfl (.tmp rfl (by first | exact fun _ => rfl | exact id | simp)) rfl ty3 rfl rfl | exact R_load_vw rfl (by first | exact .yes1 rfl rfl rfl rfl | exact .yes rfl rfl rfl rfl) rfl (.tmp rfl (by first | exact fun _ => rfl | exact id | simp)) ty3 rfl rfl | exact R_load_pr rfl (by first | exact .yes1 rfl rfl rfl rfl | exact .yes rfl rfl rfl rfl) rfl (.tmp rfl (by first | exact fun _ => rfl | exact id | simp)) rfl (by first | assumption | exact map_get (by assumption)) ty3 rfl rfl)) rfl ?_
  refine AWl.put ((by first | exact R_fieldAddr rfl (by first | exact .yes1 rfl rfl rfl rfl | exact .yes rfl rfl rfl rfl) rfl (.tmp rfl (by first | exact fun _ => rfl | exact id | simp)) fl118_1 | exact R_fieldAddr_pp rfl (by first | exact .yes1 rfl rfl rfl rfl | exact .yes rfl rfl rfl rfl) rfl (.tmp rfl (by first | exact fun _ => rfl | exact id | simp)) fl118_1 | exact R_fieldAddr_vw rfl (by first | exact .yes1 rfl rfl rfl rfl | exact .yes rfl rfl rfl rfl) rfl (.tmp rfl (by first | exact fun _ => rfl | exact id | simp)) fl118_1 | exact R_fieldAddr_pr rfl (by first | exact .yes1 rfl rfl rfl rfl | exact .yes rfl rfl rfl rfl) rfl (.tmp rfl (by first | exact fun _ => rfl | exact id | simp)) fl118_1)) rfl ?_
  refine AWl.put ((by first | exact R_load rfl (by first | exact .yes1 rfl rfl rfl rfl | exact .yes rfl rfl rfl rfl) rfl (.tmp rfl (by first | exact fun _ => rfl | exact id | simp)) ty3 rfl rfl | exact R_load_pp rfl (by first | exact .yes1 rfl rfl rfl rfl | exact .yes rfl rfl rfl rfl) rfl (.tmp rfl (by first | exact fun _ => rfl | exact id | simp)) rfl ty3 rfl rfl | exact R_load_vw rfl (by first | exact .yes1 rfl rfl rfl rfl | exact .yes rfl rfl rfl rfl) rfl (.tmp rfl (by first | exact fun _ => rfl | exact id | simp)) ty3 rfl rfl | exact R_load_pr rfl (by first | exact .yes1 rfl rfl rfl rfl | exact .yes rfl rfl rfl rfl) rfl (.tmp rfl (by first | exact fun _ => rfl | exact id | simp)) rfl (by first | assumption | exact map_get (by assumption)) ty3 rfl rfl)) rfl ?_
  refine AWl.put (R_lt rfl (by first | exact .yes1 rfl rfl rfl rfl | exact .yes rfl rfl rfl rfl) rfl (.tmp rfl (by first | exact fun _ => rfl | exact id | simp)) (.tmp rfl (by first | exact fun _ => rfl | exact id | simp))) rfl ?_
  refine AWl.put (R_and rfl (by first | exact .not1 rfl rfl rfl rfl | exact .not rfl rfl rfl rfl) rfl (.tmp rfl (by first | exact fun _ => rfl | exact id | simp)) (.tmp rfl (by first | exact fun _ => rfl | exact id | simp))) rfl ?_
  refine AWl.put (R_or rfl (.no rfl) rfl (.tmp rfl fun _ => rfl) (.tmp rfl (by first | exact fun _ => rfl | exact id | simp))) rfl ?_
  refine AWl.put (R_assign rfl (.no rfl) rfl (.tmp rfl fun _ => rfl)) rfl ?_
  refine AWl.nil ?_
  refine AW.ret ?_
  refine Res.v rfl rfl ?_
  rfl
theorem specl15Put (l : List TPair) (p : TPair) (hl : l.length ≤ 1099511627776) : FnC Try.prog 132 [(true, .one (.sl 2 (l.map cPair))), (false, .agg (cPair p))] (.a (.one (.sl 2 ((putG pless l p).map cPair)))) := by
  refine FnC.walk Try.func132 rfl (by kernel_rfl) Try.ntmps132 rfl (by rfl) fun w0 => ?_
  refine AW.le (σ' := ⟨_, [(0, _), (1, _)], [(1000, _)]⟩) (Le.sub0 rfl ⟨rfl, rfl, trivial⟩ ⟨rfl, trivial⟩) ?_
  try simp [cPair, cToken, cExpr, cEdge, cGraph, cStep, cWalk, cChange, cBatch, cHistory, cPositions, cAutomaton, cProductStep, cPathAtom, cConjunction, cView, cDelta, cRegistered, cRegistry] at hlen
  refine AW.seq ?_
  -- region 0
  refine AW.region ?_
  refine AWl.put (R_boxz rfl rfl rfl (.tmp rfl fun _ => rfl) (ts := _) (by first | rfl | exact cells_t1 _ | exact cells_t2 _)) rfl ?_
  refine AWl.put (R_assign rfl (.no rfl) rfl (.const rfl)) rfl ?_
  refine AWl.nilS (i := 4) 20001 2 rfl rfl ?_
  refine AWl.nil ?_
  refine AW.seq ?_
  -- region 1
  refine AW.region ?_
  refine AWl.put (R_assign rfl (.no rfl) rfl (.const rfl)) rfl ?_
  refine AWl.nil ?_
  refine AW.seq ?_
  refine AW.block ?_
  refine AW.loop1 (fun (k : Nat) => (k ≤ l.length ∧ ∀ j y, j < k → l[j]? = some y → pless y p = true) ∧ True) (fun (k : Nat) => ⟨_, [(5, (true, .a (.one (.t (.v (.int .i64 (k : Nat))))))), (0, _), (3, _), (4, _)], [(1000, .row 2 (l.map cPair))]⟩) (fun (k : Nat) => l.length - k) (0) ⟨⟨Nat.zero_le _, fun j y hj => absurd hj (Nat.not_lt_zero j)⟩, trivial⟩ (Le.sub0 rfl ⟨rfl, rfl, rfl, rfl, trivial⟩ ⟨rfl, trivial⟩) ?_
  rintro k ⟨hk, he⟩
  refine AW.seq ?_
  refine AW.seq ?_
  -- region 2
  refine AW.drawn 12 (nthB [[], [], [1], [0, 1, 2], [0, 1, 2, 3], [0, 1, 2, 3, 4], [0, 1, 2, 3, 4], [0, 1, 2, 3, 4, 5, 6], [0, 1, 2, 3, 4, 5, 6, 7], [0, 1, 2, 3, 4], [0, 1, 2, 3, 4, 5, 6, 7, 8, 9], [0, 1, 2, 3, 4, 5, 6, 7, 8, 9, 10]]) (by kernel_rfl) (by kernel_rfl) (by kernel_rfl) ?_
  refine DrawC.step rfl rfl rfl (Loc.of rfl fun σ' hs => R_move rfl (.no rfl) (hd_sup hs rfl) (.tmp (hs.slots _ _ rfl) fun _ => rfl)) ?_
  refine DrawC.step rfl rfl rfl (Loc.of rfl fun σ' hs => R_move rfl (.no rfl) (hd_sup hs rfl) (.tmp (hs.slots _ _ rfl) fun _ => rfl)) ?_
  refine DrawC.step rfl rfl rfl (Loc.of rfl fun σ' hs => (by first | exact R_lenm rfl (.no rfl) (hd_sup hs rfl) (.tmp (hs.slots _ _ rfl) fun _ => rfl) (by first | exact .t | exact .rf (hs.res _ _ rfl) | exact .vw | exact .nil) Try.underlying37 | exact R_len rfl (.no rfl) (hd_sup hs rfl) (.tmp (hs.slots _ _ rfl) fun _ => rfl) (by first | exact .t | exact .rf (hs.res _ _ rfl) | exact .vw | exact .nil) Try.underlying37)) ?_
  refine DrawC.step rfl rfl rfl (Loc.of rfl fun σ' hs => R_lt rfl (.no rfl) (hd_sup hs rfl) (.tmp (hs.slots _ _ rfl) fun _ => rfl) (.tmp (hs.slots _ _ rfl) fun _ => rfl)) ?_
  refine DrawC.step rfl rfl rfl (Loc.of rfl fun σ' hs => R_move rfl (.no rfl) (hd_sup hs rfl) (.tmp (hs.slots _ _ rfl) fun _ => rfl)) ?_
  refine DrawC.step rfl rfl rfl (Loc.of rfl fun σ' hs => R_move rfl (by first | exact .yes1 rfl rfl (hs.slots _ _ rfl) (by rw [hs.n]; rfl) | exact .yes rfl rfl (hs.slots _ _ rfl) (by rw [hs.n]; rfl)) (hd_sup hs rfl) (.tmp (hs.slots _ _ rfl) (by first | exact fun _ => rfl | exact id | simp))) ?_
  refine DrawC.step rfl rfl rfl (Loc.of rfl fun σ' hs => R_move rfl (by first | exact .yes1 rfl rfl (hs.slots _ _ rfl) (by rw [hs.n]; rfl) | exact .yes rfl rfl (hs.slots _ _ rfl) (by rw [hs.n]; rfl)) (hd_sup hs rfl) (.tmp (hs.slots _ _ rfl) (by first | exact fun _ => rfl | exact id | simp))) ?_
  refine DrawC.step rfl rfl rfl (Loc.of rfl fun σ' hs => (by first | exact R_indexAddr rfl (by first | exact .yes1 rfl rfl (hs.slots _ _ rfl) (by rw [hs.n]; rfl) | exact .yes rfl rfl (hs.slots _ _ rfl) (by rw [hs.n]; rfl)) (hd_sup hs rfl) (.tmp (hs.slots _ _ rfl) (by first | exact fun _ => rfl | exact id | simp)) (.tmp (hs.slots _ _ rfl) (by first | exact fun _ => rfl | exact id | simp)) Try.underlying37 ty118 (fun hq => by simp at hq; exact ⟨by omega, map_get (l := l) (x := l[k]?.getD default) (getD_at (by omega))⟩) | exact R_indexAddr_vw rfl (by first | exact .yes1 rfl rfl (hs.slots _ _ rfl) (by rw [hs.n]; rfl) | exact .yes rfl rfl (hs.slots _ _ rfl) (by rw [hs.n]; rfl)) (hd_sup hs rfl) (.tmp (hs.slots _ _ rfl) (by first | exact fun _ => rfl | exact id | simp)) (.tmp (hs.slots _ _ rfl) (by first | exact fun _ => rfl | exact id | simp)) Try.underlying37 ty118 (fun hq => by simp at hq; exact ⟨by omega, map_get (l := l) (x := l[k]?.getD default) (getD_at (by omega))⟩) | exact R_indexAddr_rf rfl (by first | exact .yes1 rfl rfl (hs.slots _ _ rfl) (by rw [hs.n]; rfl) | exact .yes rfl rfl (hs.slots _ _ rfl) (by rw [hs.n]; rfl)) (hd_sup hs rfl) (.tmp (hs.slots _ _ rfl) (by first | exact fun _ => rfl | exact id | simp)) (hs.res _ _ rfl) (.tmp (hs.slots _ _ rfl) (by first | exact fun _ => rfl | exact id | simp)) Try.underlying37 ty118 (fun hq => by simp at hq; exact ⟨by omega, map_get (l := l) (x := l[k]?.getD default) (getD_at (by omega))⟩))) ?_
  refine DrawC.step rfl rfl rfl (Loc.of rfl fun σ' hs => (by first | exact R_load rfl (by first | exact .yes1 rfl rfl (hs.slots _ _ rfl) (by rw [hs.n]; rfl) | exact .yes rfl rfl (hs.slots _ _ rfl) (by rw [hs.n]; rfl)) (hd_sup hs rfl) (.tmp (hs.slots _ _ rfl) (by first | exact fun _ => rfl | exact id | simp)) ty118 rfl rfl | exact R_load_pp rfl (by first | exact .yes1 rfl rfl (hs.slots _ _ rfl) (by rw [hs.n]; rfl) | exact .yes rfl rfl (hs.slots _ _ rfl) (by rw [hs.n]; rfl)) (hd_sup hs rfl) (.tmp (hs.slots _ _ rfl) (by first | exact fun _ => rfl | exact id | simp)) (hs.res _ _ rfl) ty118 rfl rfl | exact R_load_vw rfl (by first | exact .yes1 rfl rfl (hs.slots _ _ rfl) (by rw [hs.n]; rfl) | exact .yes rfl rfl (hs.slots _ _ rfl) (by rw [hs.n]; rfl)) (hd_sup hs rfl) (.tmp (hs.slots _ _ rfl) (by first | exact fun _ => rfl | exact id | simp)) ty118 rfl rfl | exact R_load_pr rfl (by first | exact .yes1 rfl rfl (hs.slots _ _ rfl) (by rw [hs.n]; rfl) | exact .yes rfl rfl (hs.slots _ _ rfl) (by rw [hs.n]; rfl)) (hd_sup hs rfl) (.tmp (hs.slots _ _ rfl) (by first | exact fun _ => rfl | exact id | simp)) (hs.res _ _ rfl) (fun hq => by simp at hq; exact map_get (l := l) (x := l[k]?.getD default) (getD_at (by omega))) ty118 rfl rfl | exact R_load_prq rfl (by first | exact .yes1 rfl rfl (hs.slots _ _ rfl) (by rw [hs.n]; rfl) | exact .yes rfl rfl (hs.slots _ _ rfl) (by rw [hs.n]; rfl)) (hd_sup hs rfl) (.tmp (hs.slots _ _ rfl) (by first | exact fun _ => rfl | exact id | simp)) (hs.res _ _ rfl) (fun hq => by simp at hq; exact map_get (l := l) (x := l[k]?.getD default) (getD_at (by omega))) ty118 rfl rfl)) ?_
  refine DrawC.step rfl rfl rfl (Loc.of rfl fun σ' hs => (by first | exact R_load rfl (by first | exact .yes1 rfl rfl (hs.slots _ _ rfl) (by rw [hs.n]; rfl) | exact .yes rfl rfl (hs.slots _ _ rfl) (by rw [hs.n]; rfl)) (hd_sup hs rfl) (.tmp (hs.slots _ _ rfl) (by first | exact fun _ => rfl | exact id | simp)) ty118 rfl rfl | exact R_load_pp rfl (by first | exact .yes1 rfl rfl (hs.slots _ _ rfl) (by rw [hs.n]; rfl) | exact .yes rfl rfl (hs.slots _ _ rfl) (by rw [hs.n]; rfl)) (hd_sup hs rfl) (.tmp (hs.slots _ _ rfl) (by first | exact fun _ => rfl | exact id | simp)) (hs.res _ _ rfl) ty118 rfl rfl | exact R_load_vw rfl (by first | exact .yes1 rfl rfl (hs.slots _ _ rfl) (by rw [hs.n]; rfl) | exact .yes rfl rfl (hs.slots _ _ rfl) (by rw [hs.n]; rfl)) (hd_sup hs rfl) (.tmp (hs.slots _ _ rfl) (by first | exact fun _ => rfl | exact id | simp)) ty118 rfl rfl | exact R_load_pr rfl (by first | exact .yes1 rfl rfl (hs.slots _ _ rfl) (by rw [hs.n]; rfl) | exact .yes rfl rfl (hs.slots _ _ rfl) (by rw [hs.n]; rfl)) (hd_sup hs rfl) (.tmp (hs.slots _ _ rfl) (by first | exact fun _ => rfl | exact id | simp)) (hs.res _ _ rfl) (by first | assumption | exact map_get (by assumption)) ty118 rfl rfl)) ?_
  refine DrawC.step rfl rfl rfl (Loc.of rfl fun σ' hs => R_callq rfl (by first | exact .yes1 rfl rfl (hs.slots _ _ rfl) (by rw [hs.n]; rfl) | exact .yes rfl rfl (hs.slots _ _ rfl) (by rw [hs.n]; rfl)) (hd_sup hs rfl) (.cons (.tmp (hs.slots _ _ rfl) (by first | exact fun _ => rfl | exact id | simp)) (readA_sup hs rfl) (.cons (.tmp (hs.slots _ _ rfl) (by first | exact fun _ => rfl | exact id | simp)) (readA_sup hs rfl) .nil)) fun hq => FnT.fr (specl15Less (l[k]?.getD default) p)) ?_
  refine DrawC.step rfl rfl rfl (Loc.of rfl fun σ' hs => R_and rfl (.no rfl) (hd_sup hs rfl) (.tmp (hs.slots _ _ rfl) fun _ => rfl) (.tmp (hs.slots _ _ rfl) (by first | exact fun _ => rfl | exact id | simp))) ?_
  refine DrawC.fin rfl rfl ?_
  refine AWl.nil ?_
  refine AW.cond (.tmp rfl fun _ => rfl) (fun h17 => ?_) (fun h17 => ?_)
  · skip
    try simp at h17
    refine AW.skip ?_
    refine AW.block ?_
    -- region 3
    refine AW.le (σ' := ⟨_, [(0, _), (3, _), (4, _), (5, _)], [(1000, _)]⟩) (Le.sub0 rfl ⟨rfl, rfl, rfl, rfl, trivial⟩ ⟨rfl, trivial⟩) ?_
    refine AW.region ?_
    refine AWl.put (R_move rfl (.no rfl) rfl (.tmp rfl fun _ => rfl)) rfl ?_
    refine AWl.put (R_add rfl (.no rfl) rfl (.tmp rfl fun _ => rfl) (.const rfl) (fun _ => by omega)) rfl ?_
    refine AWl.put (R_assign rfl (.no rfl) rfl (.tmp rfl fun _ => rfl)) rfl ?_
    refine AWl.nil ?_
    repeat (with_reducible refine BlockQ.nor ?_)
    refine Round1.next (k + 1) ⟨⟨by omega, each_succ hk.2 (getD_at (d := default) (by omega)) h17.2⟩, trivial⟩ (by omega) (Le.sub0 rfl ⟨rfl, rfl, rfl, rfl, trivial⟩ ⟨(by first | rfl | (refine congrArg (fun r => some (R.row _ r)) ?_; simp [chunk, List.map_set, cInt, cBool, cIntS, cPair, cToken, cExpr, cEdge, cGraph, cStep, cWalk, cChange, cBatch, cHistory, cPositions, cAutomaton, cProductStep, cPathAtom, cConjunction, cView, cDelta, cRegistered, cRegistry])), trivial⟩)
  · skip
    try simp at h17
    refine AW.exit ?_
    refine AW.seq ?_
    refine AW.seq ?_
    -- region 4
    refine AW.le (σ' := ⟨_, [(0, _), (3, _), (4, _), (5, _)], [(1000, _)]⟩) (Le.sub0 rfl ⟨rfl, rfl, rfl, rfl, trivial⟩ ⟨rfl, trivial⟩) ?_
    refine AW.drawn 12 (nthB [[], [], [1], [0, 1, 2], [0, 1, 2, 3], [0, 1, 2, 3, 4], [0, 1, 2, 3, 4], [0, 1, 2, 3, 4, 5, 6], [0, 1, 2, 3, 4, 5, 6, 7], [0, 1, 2, 3, 4], [0, 1, 2, 3, 4, 5, 6, 7, 8, 9], [0, 1, 2, 3, 4, 5, 6, 7, 8, 9, 10]]) (by kernel_rfl) (by kernel_rfl) (by kernel_rfl) ?_
    refine DrawC.step rfl rfl rfl (Loc.of rfl fun σ' hs => R_move rfl (.no rfl) (hd_sup hs rfl) (.tmp (hs.slots _ _ rfl) fun _ => rfl)) ?_
    refine DrawC.step rfl rfl rfl (Loc.of rfl fun σ' hs => R_move rfl (.no rfl) (hd_sup hs rfl) (.tmp (hs.slots _ _ rfl) fun _ => rfl)) ?_
    refine DrawC.step rfl rfl rfl (Loc.of rfl fun σ' hs => (by first | exact R_lenm rfl (.no rfl) (hd_sup hs rfl) (.tmp (hs.slots _ _ rfl) fun _ => rfl) (by first | exact .t | exact .rf (hs.res _ _ rfl) | exact .vw | exact .nil) Try.underlying37 | exact R_len rfl (.no rfl) (hd_sup hs rfl) (.tmp (hs.slots _ _ rfl) fun _ => rfl) (by first | exact .t | exact .rf (hs.res _ _ rfl) | exact .vw | exact .nil) Try.underlying37)) ?_
    refine DrawC.step rfl rfl rfl (Loc.of rfl fun σ' hs => R_lt rfl (.no rfl) (hd_sup hs rfl) (.tmp (hs.slots _ _ rfl) fun _ => rfl) (.tmp (hs.slots _ _ rfl) fun _ => rfl)) ?_
    refine DrawC.step rfl rfl rfl (Loc.of rfl fun σ' hs => R_move rfl (.no rfl) (hd_sup hs rfl) (.tmp (hs.slots _ _ rfl) fun _ => rfl)) ?_
    refine DrawC.step rfl rfl rfl (Loc.of rfl fun σ' hs => R_move rfl (by first | exact .yes1 rfl rfl (hs.slots _ _ rfl) (by rw [hs.n]; rfl) | exact .yes rfl rfl (hs.slots _ _ rfl) (by rw [hs.n]; rfl)) (hd_sup hs rfl) (.tmp (hs.slots _ _ rfl) (by first | exact fun _ => rfl | exact id | simp))) ?_
    refine DrawC.step rfl rfl rfl (Loc.of rfl fun σ' hs => R_move rfl (by first | exact .yes1 rfl rfl (hs.slots _ _ rfl) (by rw [hs.n]; rfl) | exact .yes rfl rfl (hs.slots _ _ rfl) (by rw [hs.n]; rfl)) (hd_sup hs rfl) (.tmp (hs.slots _ _ rfl) (by first | exact fun _ => rfl | exact id | simp))) ?_
    refine DrawC.step rfl rfl rfl (Loc.of rfl fun σ' hs => (by first | exact R_indexAddr rfl (by first | exact .yes1 rfl rfl (hs.slots _ _ rfl) (by rw [hs.n]; rfl) | exact .yes rfl rfl (hs.slots _ _ rfl) (by rw [hs.n]; rfl)) (hd_sup hs rfl) (.tmp (hs.slots _ _ rfl) (by first | exact fun _ => rfl | exact id | simp)) (.tmp (hs.slots _ _ rfl) (by first | exact fun _ => rfl | exact id | simp)) Try.underlying37 ty118 (fun hq => by simp at hq; exact ⟨by omega, map_get (l := l) (x := l[k]?.getD default) (getD_at (by omega))⟩) | exact R_indexAddr_vw rfl (by first | exact .yes1 rfl rfl (hs.slots _ _ rfl) (by rw [hs.n]; rfl) | exact .yes rfl rfl (hs.slots _ _ rfl) (by rw [hs.n]; rfl)) (hd_sup hs rfl) (.tmp (hs.slots _ _ rfl) (by first | exact fun _ => rfl | exact id | simp)) (.tmp (hs.slots _ _ rfl) (by first | exact fun _ => rfl | exact id | simp)) Try.underlying37 ty118 (fun hq => by simp at hq; exact ⟨by omega, map_get (l := l) (x := l[k]?.getD default) (getD_at (by omega))⟩) | exact R_indexAddr_rf rfl (by first | exact .yes1 rfl rfl (hs.slots _ _ rfl) (by rw [hs.n]; rfl) | exact .yes rfl rfl (hs.slots _ _ rfl) (by rw [hs.n]; rfl)) (hd_sup hs rfl) (.tmp (hs.slots _ _ rfl) (by first | exact fun _ => rfl | exact id | simp)) (hs.res _ _ rfl) (.tmp (hs.slots _ _ rfl) (by first | exact fun _ => rfl | exact id | simp)) Try.underlying37 ty118 (fun hq => by simp at hq; exact ⟨by omega, map_get (l := l) (x := l[k]?.getD default) (getD_at (by omega))⟩))) ?_
    refine DrawC.step rfl rfl rfl (Loc.of rfl fun σ' hs => (by first | exact R_load rfl (by first | exact .yes1 rfl rfl (hs.slots _ _ rfl) (by rw [hs.n]; rfl) | exact .yes rfl rfl (hs.slots _ _ rfl) (by rw [hs.n]; rfl)) (hd_sup hs rfl) (.tmp (hs.slots _ _ rfl) (by first | exact fun _ => rfl | exact id | simp)) ty118 rfl rfl | exact R_load_pp rfl (by first | exact .yes1 rfl rfl (hs.slots _ _ rfl) (by rw [hs.n]; rfl) | exact .yes rfl rfl (hs.slots _ _ rfl) (by rw [hs.n]; rfl)) (hd_sup hs rfl) (.tmp (hs.slots _ _ rfl) (by first | exact fun _ => rfl | exact id | simp)) (hs.res _ _ rfl) ty118 rfl rfl | exact R_load_vw rfl (by first | exact .yes1 rfl rfl (hs.slots _ _ rfl) (by rw [hs.n]; rfl) | exact .yes rfl rfl (hs.slots _ _ rfl) (by rw [hs.n]; rfl)) (hd_sup hs rfl) (.tmp (hs.slots _ _ rfl) (by first | exact fun _ => rfl | exact id | simp)) ty118 rfl rfl | exact R_load_pr rfl (by first | exact .yes1 rfl rfl (hs.slots _ _ rfl) (by rw [hs.n]; rfl) | exact .yes rfl rfl (hs.slots _ _ rfl) (by rw [hs.n]; rfl)) (hd_sup hs rfl) (.tmp (hs.slots _ _ rfl) (by first | exact fun _ => rfl | exact id | simp)) (hs.res _ _ rfl) (fun hq => by simp at hq; exact map_get (l := l) (x := l[k]?.getD default) (getD_at (by omega))) ty118 rfl rfl | exact R_load_prq rfl (by first | exact .yes1 rfl rfl (hs.slots _ _ rfl) (by rw [hs.n]; rfl) | exact .yes rfl rfl (hs.slots _ _ rfl) (by rw [hs.n]; rfl)) (hd_sup hs rfl) (.tmp (hs.slots _ _ rfl) (by first | exact fun _ => rfl | exact id | simp)) (hs.res _ _ rfl) (fun hq => by simp at hq; exact map_get (l := l) (x := l[k]?.getD default) (getD_at (by omega))) ty118 rfl rfl)) ?_
    refine DrawC.step rfl rfl rfl (Loc.of rfl fun σ' hs => (by first | exact R_load rfl (by first | exact .yes1 rfl rfl (hs.slots _ _ rfl) (by rw [hs.n]; rfl) | exact .yes rfl rfl (hs.slots _ _ rfl) (by rw [hs.n]; rfl)) (hd_sup hs rfl) (.tmp (hs.slots _ _ rfl) (by first | exact fun _ => rfl | exact id | simp)) ty118 rfl rfl | exact R_load_pp rfl (by first | exact .yes1 rfl rfl (hs.slots _ _ rfl) (by rw [hs.n]; rfl) | exact .yes rfl rfl (hs.slots _ _ rfl) (by rw [hs.n]; rfl)) (hd_sup hs rfl) (.tmp (hs.slots _ _ rfl) (by first | exact fun _ => rfl | exact id | simp)) (hs.res _ _ rfl) ty118 rfl rfl | exact R_load_vw rfl (by first | exact .yes1 rfl rfl (hs.slots _ _ rfl) (by rw [hs.n]; rfl) | exact .yes rfl rfl (hs.slots _ _ rfl) (by rw [hs.n]; rfl)) (hd_sup hs rfl) (.tmp (hs.slots _ _ rfl) (by first | exact fun _ => rfl | exact id | simp)) ty118 rfl rfl | exact R_load_pr rfl (by first | exact .yes1 rfl rfl (hs.slots _ _ rfl) (by rw [hs.n]; rfl) | exact .yes rfl rfl (hs.slots _ _ rfl) (by rw [hs.n]; rfl)) (hd_sup hs rfl) (.tmp (hs.slots _ _ rfl) (by first | exact fun _ => rfl | exact id | simp)) (hs.res _ _ rfl) (by first | assumption | exact map_get (by assumption)) ty118 rfl rfl)) ?_
    refine DrawC.step rfl rfl rfl (Loc.of rfl fun σ' hs => R_eqs rfl (by first | exact .yes1 rfl rfl (hs.slots _ _ rfl) (by rw [hs.n]; rfl) | exact .yes rfl rfl (hs.slots _ _ rfl) (by rw [hs.n]; rfl)) (hd_sup hs rfl) (.tmp (hs.slots _ _ rfl) (by first | exact fun _ => rfl | exact id | simp)) (.tmp (hs.slots _ _ rfl) (by first | exact fun _ => rfl | exact id | simp)) rfl rfl (by kernel_rfl) (eqS118 _ _ _ _)) ?_
    refine DrawC.step rfl rfl rfl (Loc.of rfl fun σ' hs => R_and rfl (.no rfl) (hd_sup hs rfl) (.tmp (hs.slots _ _ rfl) fun _ => rfl) (.tmp (hs.slots _ _ rfl) (by first | exact fun _ => rfl | exact id | simp))) ?_
    refine DrawC.fin rfl rfl ?_
    refine AWl.nil ?_
    refine AW.cond (.tmp rfl fun _ => rfl) (fun h31 => ?_) (fun h31 => ?_)
    · skip
      try simp at h31
      refine AW.seq ?_
      -- region 5
      refine AW.le (σ' := ⟨_, [(0, _), (3, _), (4, _), (5, _)], [(1000, _)]⟩) (Le.sub0 rfl ⟨rfl, rfl, rfl, rfl, trivial⟩ ⟨rfl, trivial⟩) ?_
      refine AW.region ?_
      refine AWl.put (R_move rfl (.no rfl) rfl (.tmp rfl fun _ => rfl)) rfl ?_
      refine AWl.put (R_assign rfl (.no rfl) rfl (.tmp rfl fun _ => rfl)) rfl ?_
      refine AWl.nil ?_
      refine AW.ret ?_
      refine Res.one rfl (.tmp rfl .nil) rfl ?_
      rw [put_found hk.2 h31.1 (pair_eq.2 h31.2)]; rfl
    · skip
      try simp at h31
      refine AW.skip ?_
      refine AW.seq ?_
      -- region 6
      refine AW.le (σ' := ⟨_, [(0, _), (3, _), (4, _), (5, _)], [(1000, _)]⟩) (Le.sub0 rfl ⟨rfl, rfl, rfl, rfl, trivial⟩ ⟨rfl, trivial⟩) ?_
      refine AW.le (σ' := ⟨_, [(0, _), (3, _), (5, _)], [(1000, _)]⟩) (Le.sub0 rfl ⟨rfl, rfl, rfl, trivial⟩ ⟨rfl, trivial⟩) ?_
      refine AW.drawK 13 (nthB [[], [], [], [1, 2], [0, 1, 2, 3], [], [5], [0, 1, 2, 3, 4, 5, 6], [], [], [8, 9], [0, 1, 2, 3, 4, 5, 6, 7, 8, 9, 10], [0, 1, 2, 3, 4, 5, 6, 7, 8, 9, 10, 11]]) [(4, 33), (7, 33), (11, 33)] (by kernel_rfl) (by kernel_rfl) (by kernel_rfl) ?_
      refine DrawK.step (LocK.of1 rfl fun σ' hs hf => R_empty 33 rfl rfl (hd_sup hs rfl) Try.underlying37 ty118 hf) ?_
      refine DrawK.step (LocK.of rfl fun σ' hs => R_move rfl (.no rfl) (hd_sup hs rfl) (.tmp (hs.slots _ _ rfl) fun _ => rfl)) ?_
      refine DrawK.step (LocK.of rfl fun σ' hs => R_move rfl (.no rfl) (hd_sup hs rfl) (.tmp (hs.slots _ _ rfl) fun _ => rfl)) ?_
      refine DrawK.step (LocK.of rfl fun σ' hs => R_slice_vwr (m := k) rfl (.no rfl) (hd_sup hs rfl) (.tmp (hs.slots _ _ rfl) fun _ => rfl) (hs.res _ _ rfl) .no (.yes (.tmp (hs.slots _ _ rfl) fun _ => rfl) (fun _ => by first | rfl | omega | (simp <;> omega))) Try.underlying37 ty118 (fun _ => ⟨by omega, by first | omega | (simp; omega)⟩)) ?_
      refine DrawK.step (LocK.ofc rfl rfl fun σ' hs => R_append (id := 33) rfl rfl (hd_sup hs rfl) (.tmp (hs.slots _ _ rfl) fun _ => rfl) (hs.res _ _ rfl) (.tmp (hs.slots _ _ rfl) fun _ => rfl) (by first | exact .t | exact .rf (hs.res _ _ rfl) | exact .vw | exact .nil) (by first | rfl | exact isV_map (fun _ => rfl) _ | exact isV_part (fun _ => rfl) _ _ _) Try.underlying37 in118 rfl (by first | omega | (simp [chunk]; omega) | (simp only [List.length_map, List.length_append, List.length_cons, List.length_nil, chunk]; omega)) (by first | omega | (unfold maxLen; omega) | (unfold maxLen; simp [chunk]; omega) | (unfold maxLen; simp only [List.length_map, List.length_append, List.length_cons, List.length_nil, chunk]; omega))) ?_
      refine DrawK.step (LocK.of rfl fun σ' hs => (by first | exact R_load rfl (.no rfl) (hd_sup hs rfl) (.tmp (hs.slots _ _ rfl) fun _ => rfl) ty118 rfl rfl | exact R_load_pp rfl (.no rfl) (hd_sup hs rfl) (.tmp (hs.slots _ _ rfl) fun _ => rfl) (hs.res _ _ rfl) ty118 rfl rfl | exact R_load_vw rfl (.no rfl) (hd_sup hs rfl) (.tmp (hs.slots _ _ rfl) fun _ => rfl) ty118 rfl rfl | exact R_load_pr rfl (.no rfl) (hd_sup hs rfl) (.tmp (hs.slots _ _ rfl) fun _ => rfl) (hs.res _ _ rfl) (by first | assumption | exact map_get (by assumption)) ty118 rfl rfl)) ?_
      refine DrawK.step (LocK.of1 rfl fun σ' hs hf => R_list (xs := [.tmp 38]) 39 rfl rfl (hd_sup hs rfl) (.cons (.tmp (hs.slots _ _ rfl) fun _ => rfl) rfl rfl .nil) Try.underlying37 in118 rfl rfl rfl hf) ?_
      refine DrawK.step (LocK.ofc rfl rfl fun σ' hs => R_append (id := 33) rfl rfl (hd_sup hs rfl) (.tmp (hs.slots _ _ rfl) fun _ => rfl) (hs.res _ _ rfl) (.tmp (hs.slots _ _ rfl) fun _ => rfl) (by first | exact .t | exact .rf (hs.res _ _ rfl) | exact .vw | exact .nil) (by first | rfl | exact isV_map (fun _ => rfl) _ | exact isV_part (fun _ => rfl) _ _ _) Try.underlying37 in118 rfl (by first | omega | (simp [chunk]; omega) | (simp only [List.length_map, List.length_append, List.length_cons, List.length_nil, chunk]; omega)) (by first | omega | (unfold maxLen; omega) | (unfold maxLen; simp [chunk]; omega) | (unfold maxLen; simp only [List.length_map, List.length_append, List.length_cons, List.length_nil, chunk]; omega))) ?_
      refine DrawK.step (LocK.of rfl fun σ' hs => R_move rfl (.no rfl) (hd_sup hs rfl) (.tmp (hs.slots _ _ rfl) fun _ => rfl)) ?_
      refine DrawK.step (LocK.of rfl fun σ' hs => R_move rfl (.no rfl) (hd_sup hs rfl) (.tmp (hs.slots _ _ rfl) fun _ => rfl)) ?_
      refine DrawK.step (LocK.of rfl fun σ' hs => R_slice_vwr (n := k) rfl (.no rfl) (hd_sup hs rfl) (.tmp (hs.slots _ _ rfl) fun _ => rfl) (hs.res _ _ rfl) (.yes (.tmp (hs.slots _ _ rfl) fun _ => rfl) (fun _ => by first | rfl | omega | (simp <;> omega))) .no Try.underlying37 ty118 (fun _ => ⟨by simp; omega, by simp⟩)) ?_
      refine DrawK.step (LocK.ofc rfl rfl fun σ' hs => R_append (id := 33) rfl rfl (hd_sup hs rfl) (.tmp (hs.slots _ _ rfl) fun _ => rfl) (hs.res _ _ rfl) (.tmp (hs.slots _ _ rfl) fun _ => rfl) (by first | exact .t | exact .rf (hs.res _ _ rfl) | exact .vw | exact .nil) (by first | rfl | exact isV_map (fun _ => rfl) _ | exact isV_part (fun _ => rfl) _ _ _) Try.underlying37 in118 rfl (by first | omega | (simp [chunk]; omega) | (simp only [List.length_map, List.length_append, List.length_cons, List.length_nil, chunk]; omega)) (by first | omega | (unfold maxLen; omega) | (unfold maxLen; simp [chunk]; omega) | (unfold maxLen; simp only [List.length_map, List.length_append, List.length_cons, List.length_nil, chunk]; omega))) ?_
      refine DrawK.step (LocK.of rfl fun σ' hs => R_assign rfl (.no rfl) (hd_sup hs rfl) (.tmp (hs.slots _ _ rfl) fun _ => rfl)) ?_
      refine DrawK.fin rfl rfl rfl ?_
      refine AWl.le (σ' := ⟨_, [(0, _), (3, _), (4, _), (5, _)], [(1000, _), (33, _), (39, _)]⟩) (Le.sub0 rfl ⟨rfl, rfl, rfl, rfl, trivial⟩ ⟨rfl, rfl, rfl, trivial⟩) ?_
      refine AWl.nil ?_
      refine AW.ret ?_
      refine Res.one rfl (.tmp rfl .nil) rfl ?_
      rw [put_new hk.2 hk.1 h17 (fun hl he => h31 hl (pair_eq.1 he).1 (pair_eq.1 he).2)]; refine congrArg (fun r => [V0.one (T.sl 2 r)]) ?_; simp [chunk, cPair, List.map_take, List.map_drop, List.take_of_length_le (show (List.map cPair l).length ≤ l.length by simp)]
theorem findI_pair (l : List TPair) (p : TPair) : l.any (fun x => decide (x = p)) = decide (p ∈ l) := by
  rw [Bool.eq_iff_iff, List.any_eq_true]
  simp
theorem specl15Has (l : List TPair) (p : TPair) : FnT Try.prog 102 [.one (.sl 2 (l.map cPair)), .agg (cPair p)] (.a (.one (.v (.bool (decide (p ∈ l)))))) := by
  refine FnT.walk Try.func102 rfl (by kernel_rfl) Try.ntmps102 rfl fun hlen w0 => ?_
  try simp [cPair, cToken, cExpr, cEdge, cGraph, cStep, cWalk, cChange, cBatch, cHistory, cPositions, cAutomaton, cProductStep, cPathAtom, cConjunction, cView, cDelta, cRegistered, cRegistry] at hlen
  refine AW.seq ?_
  -- region 0
  refine AW.region ?_
  refine AWl.put (R_boxz rfl rfl rfl (.tmp rfl fun _ => rfl) (ts := _) (by first | rfl | exact cells_t1 _ | exact cells_t2 _)) rfl ?_
  refine AWl.put (R_assign rfl (.no rfl) rfl (.const rfl)) rfl ?_
  refine AWl.nil ?_
  refine AW.seq ?_
  refine AW.seq ?_
  -- region 1
  refine AW.region ?_
  refine AWl.put (R_assign rfl (.no rfl) rfl (.const rfl)) rfl ?_
  refine AWl.nil ?_
  refine AW.block ?_
  refine AW.loop1 (fun (k : Nat) => (k ≤ l.length ∧ ∀ j y, j < k → l[j]? = some y → (!decide (y = p)) = true) ∧ True) (fun (k : Nat) => ⟨_, [(5, (true, .a (.one (.t (.v (.int .i64 (k : Nat))))))), (0, _), (3, _)], []⟩) (fun (k : Nat) => l.length - k) (0) ⟨⟨Nat.zero_le _, fun j y hj => absurd hj (Nat.not_lt_zero j)⟩, trivial⟩ (Le.sub0 rfl ⟨rfl, rfl, rfl, trivial⟩ trivial) ?_
  rintro k ⟨hk, he⟩
  refine AW.seq ?_
  refine AW.seq ?_
  -- region 2
  refine AW.region ?_
  refine AWl.put (R_move rfl (.no rfl) rfl (.tmp rfl fun _ => rfl)) rfl ?_
  refine AWl.put (R_move rfl (.no rfl) rfl (.tmp rfl fun _ => rfl)) rfl ?_
  refine AWl.put ((by first | exact R_lenm rfl (.no rfl) rfl (.tmp rfl fun _ => rfl) (by first | exact .t | exact .rf rfl | exact .vw | exact .nil) Try.underlying37 | exact R_len rfl (.no rfl) rfl (.tmp rfl fun _ => rfl) (by first | exact .t | exact .rf rfl | exact .vw | exact .nil) Try.underlying37)) rfl ?_
  refine AWl.put (R_lt rfl (.no rfl) rfl (.tmp rfl fun _ => rfl) (.tmp rfl fun _ => rfl)) rfl ?_
  refine AWl.nil ?_
  refine AW.cond (.tmp rfl fun _ => rfl) (fun h9 => ?_) (fun h9 => ?_)
  · skip
    try simp at h9
    obtain ⟨x, hx⟩ : ∃ ξ, l[k]? = some ξ := ⟨_, List.getElem?_eq_getElem (by omega)⟩
    refine AW.skip ?_
    refine AW.seq ?_
    refine AW.block ?_
    refine AW.seq ?_
    -- region 4
    refine AW.drawn 6 (nthB [[], [], [0, 1], [0, 1, 2], [], [0, 1, 2, 3, 4]]) (by kernel_rfl) (by kernel_rfl) (by kernel_rfl) ?_
    refine DrawC.step rfl rfl rfl (Loc.of rfl fun σ' hs => R_move rfl (.no rfl) (hd_sup hs rfl) (.tmp (hs.slots _ _ rfl) fun _ => rfl)) ?_
    refine DrawC.step rfl rfl rfl (Loc.of rfl fun σ' hs => R_move rfl (.no rfl) (hd_sup hs rfl) (.tmp (hs.slots _ _ rfl) fun _ => rfl)) ?_
    refine DrawC.step rfl rfl rfl (Loc.of rfl fun σ' hs => (by first | exact R_indexAddr rfl (.no rfl) (hd_sup hs rfl) (.tmp (hs.slots _ _ rfl) fun _ => rfl) (.tmp (hs.slots _ _ rfl) fun _ => rfl) Try.underlying37 ty118 (fun _ => ⟨by omega, map_get hx⟩) | exact R_indexAddr_vw rfl (.no rfl) (hd_sup hs rfl) (.tmp (hs.slots _ _ rfl) fun _ => rfl) (.tmp (hs.slots _ _ rfl) fun _ => rfl) Try.underlying37 ty118 (fun _ => ⟨by omega, map_get hx⟩) | exact R_indexAddr_rf rfl (.no rfl) (hd_sup hs rfl) (.tmp (hs.slots _ _ rfl) fun _ => rfl) (hs.res _ _ rfl) (.tmp (hs.slots _ _ rfl) fun _ => rfl) Try.underlying37 ty118 (fun _ => ⟨by omega, map_get hx⟩))) ?_
    refine DrawC.step rfl rfl rfl (Loc.of rfl fun σ' hs => (by first | exact R_load rfl (.no rfl) (hd_sup hs rfl) (.tmp (hs.slots _ _ rfl) fun _ => rfl) ty118 rfl rfl | exact R_load_pp rfl (.no rfl) (hd_sup hs rfl) (.tmp (hs.slots _ _ rfl) fun _ => rfl) (hs.res _ _ rfl) ty118 rfl rfl | exact R_load_vw rfl (.no rfl) (hd_sup hs rfl) (.tmp (hs.slots _ _ rfl) fun _ => rfl) ty118 rfl rfl | exact R_load_pr rfl (.no rfl) (hd_sup hs rfl) (.tmp (hs.slots _ _ rfl) fun _ => rfl) (hs.res _ _ rfl) map_get hx ty118 rfl rfl)) ?_
    refine DrawC.step rfl rfl rfl (Loc.of rfl fun σ' hs => (by first | exact R_load rfl (.no rfl) (hd_sup hs rfl) (.tmp (hs.slots _ _ rfl) fun _ => rfl) ty118 rfl rfl | exact R_load_pp rfl (.no rfl) (hd_sup hs rfl) (.tmp (hs.slots _ _ rfl) fun _ => rfl) (hs.res _ _ rfl) ty118 rfl rfl | exact R_load_vw rfl (.no rfl) (hd_sup hs rfl) (.tmp (hs.slots _ _ rfl) fun _ => rfl) ty118 rfl rfl | exact R_load_pr rfl (.no rfl) (hd_sup hs rfl) (.tmp (hs.slots _ _ rfl) fun _ => rfl) (hs.res _ _ rfl) map_get hx ty118 rfl rfl)) ?_
    refine DrawC.step rfl rfl rfl (Loc.of rfl fun σ' hs => R_eqs rfl (.no rfl) (hd_sup hs rfl) (.tmp (hs.slots _ _ rfl) fun _ => rfl) (.tmp (hs.slots _ _ rfl) fun _ => rfl) rfl rfl (by kernel_rfl) (eqS118 _ _ _ _)) ?_
    refine DrawC.fin rfl rfl ?_
    refine AWl.nil ?_
    refine AW.cond (.tmp rfl fun _ => rfl) (fun h17 => ?_) (fun h17 => ?_)
    · skip
      try simp at h17
      refine AW.seq ?_
      -- region 5
      refine AW.le (σ' := ⟨_, [(0, _), (3, _), (5, _)], []⟩) (Le.sub0 rfl ⟨rfl, rfl, rfl, trivial⟩ trivial) ?_
      refine AW.region ?_
      refine AWl.put (R_assign rfl (.no rfl) rfl (.const rfl)) rfl ?_
      refine AWl.nil ?_
      refine AW.ret ?_
      refine Res.v rfl rfl ?_
      rw [decide_eq_true (show p ∈ l by rw [← pair_eq.2 h17]; exact List.mem_of_getElem? hx)]
    · skip
      try simp at h17
      refine AW.skip ?_
      -- region 3
      refine AW.le (σ' := ⟨_, [(0, _), (3, _), (5, _)], []⟩) (Le.sub0 rfl ⟨rfl, rfl, rfl, trivial⟩ trivial) ?_
      refine AW.region ?_
      refine AWl.put (R_move rfl (.no rfl) rfl (.tmp rfl fun _ => rfl)) rfl ?_
      refine AWl.put (R_add rfl (.no rfl) rfl (.tmp rfl fun _ => rfl) (.const rfl) (fun _ => by omega)) rfl ?_
      refine AWl.put (R_assign rfl (.no rfl) rfl (.tmp rfl fun _ => rfl)) rfl ?_
      refine AWl.nil ?_
      repeat (with_reducible refine BlockQ.nor ?_)
      refine Round1.next (k + 1) ⟨⟨by omega, each_succ hk.2 hx (by rw [decide_eq_false (fun e => h17 (pair_eq.1 e).1 (pair_eq.1 e).2)]; rfl)⟩, trivial⟩ (by omega) (Le.sub0 rfl ⟨rfl, rfl, rfl, trivial⟩ trivial)
  · skip
    try simp at h9
    refine AW.exit ?_
    refine AW.seq ?_
    -- region 6
    refine AW.region ?_
    refine AWl.put (R_assign rfl (.no rfl) rfl (.const rfl)) rfl ?_
    refine AWl.nil ?_
    refine AW.ret ?_
    refine Res.v rfl rfl ?_
    rw [← findI_pair, any_not hk.2 (by omega)]
theorem specSubtractPairs (a b : List TPair) (ha : a.length ≤ 1073741824) : FnT Try.prog 85 [.one (.sl 2 (a.map cPair)), .one (.sl 2 (b.map cPair))] (.a (.one (.sl 2 ((psub a b).map cPair)))) := by
  refine FnT.walk Try.func85 rfl (by kernel_rfl) Try.ntmps85 rfl fun hlen w0 => ?_
  try simp [cPair, cToken, cExpr, cEdge, cGraph, cStep, cWalk, cChange, cBatch, cHistory, cPositions, cAutomaton, cProductStep, cPathAtom, cConjunction, cView, cDelta, cRegistered, cRegistry] at hlen
  refine AW.seq ?_
  -- region 0
  refine AW.region ?_
  refine AWl.put (R_assign rfl (.no rfl) rfl (.const rfl)) rfl ?_
  refine AWl.nilS (i := 4) 20001 2 rfl rfl ?_
  refine AWl.nil ?_
  refine AW.seq ?_
  -- region 1
  refine AW.region ?_
  refine AWl.add (R_empty 7 rfl rfl rfl Try.underlying37 ty118 rfl) rfl ?_
  refine AWl.put (R_assign rfl (.no rfl) rfl (.tmp rfl fun _ => rfl)) rfl ?_
  refine AWl.nil ?_
  refine AW.seq ?_
  refine AW.seq ?_
  -- region 2
  refine AW.region ?_
  refine AWl.put (R_assign rfl (.no rfl) rfl (.const rfl)) rfl ?_
  refine AWl.nil ?_
  refine AW.block ?_
  refine AW.loop1 (fun (k : Nat) => (k ≤ a.length) ∧ True) (fun (k : Nat) => ⟨_, [(6, (true, .a (.one (.t (.v (.int .i64 (k : Nat))))))), (5, (true, .a (.one (.rf 7)))), (0, _), (1, _), (4, _)], [(7, .row 2 ((setG pless ((a.take k).filter fun p => !decide (p ∈ b))).map cPair))]⟩) (fun (k : Nat) => a.length - k) (0) ⟨Nat.zero_le _, trivial⟩ (Le.sub0 rfl ⟨rfl, rfl, rfl, rfl, rfl, trivial⟩ ⟨rfl, trivial⟩) ?_
  rintro k ⟨hk, he⟩
  refine AW.seq ?_
  refine AW.seq ?_
  -- region 3
  refine AW.region ?_
  refine AWl.put (R_move rfl (.no rfl) rfl (.tmp rfl fun _ => rfl)) rfl ?_
  refine AWl.put (R_move rfl (.no rfl) rfl (.tmp rfl fun _ => rfl)) rfl ?_
  refine AWl.put ((by first | exact R_lenm rfl (.no rfl) rfl (.tmp rfl fun _ => rfl) (by first | exact .t | exact .rf rfl | exact .vw | exact .nil) Try.underlying37 | exact R_len rfl (.no rfl) rfl (.tmp rfl fun _ => rfl) (by first | exact .t | exact .rf rfl | exact .vw | exact .nil) Try.underlying37)) rfl ?_
  refine AWl.put (R_lt rfl (.no rfl) rfl (.tmp rfl fun _ => rfl) (.tmp rfl fun _ => rfl)) rfl ?_
  refine AWl.nil ?_
  refine AW.cond (.tmp rfl fun _ => rfl) (fun h11 => ?_) (fun h11 => ?_)
  · skip
    try simp at h11
    obtain ⟨x, hx⟩ : ∃ ξ, a[k]? = some ξ := ⟨_, List.getElem?_eq_getElem (by omega)⟩
    refine AW.skip ?_
    refine AW.seq ?_
    refine AW.block ?_
    refine AW.seq ?_
    -- region 5
    refine AW.region ?_
    refine AWl.put (R_move rfl (.no rfl) rfl (.tmp rfl fun _ => rfl)) rfl ?_
    refine AWl.put (R_move rfl (.no rfl) rfl (.tmp rfl fun _ => rfl)) rfl ?_
    refine AWl.put (R_move rfl (.no rfl) rfl (.tmp rfl fun _ => rfl)) rfl ?_
    refine AWl.put ((by first | exact R_indexAddr rfl (.no rfl) rfl (.tmp rfl fun _ => rfl) (.tmp rfl fun _ => rfl) Try.underlying37 ty118 (fun _ => ⟨by omega, map_get hx⟩) | exact R_indexAddr_vw rfl (.no rfl) rfl (.tmp rfl fun _ => rfl) (.tmp rfl fun _ => rfl) Try.underlying37 ty118 (fun _ => ⟨by omega, map_get hx⟩) | exact R_indexAddr_rf rfl (.no rfl) rfl (.tmp rfl fun _ => rfl) rfl (.tmp rfl fun _ => rfl) Try.underlying37 ty118 (fun _ => ⟨by omega, map_get hx⟩))) rfl ?_
    refine AWl.put ((by first | exact R_load rfl (.no rfl) rfl (.tmp rfl fun _ => rfl) ty118 rfl rfl | exact R_load_pp rfl (.no rfl) rfl (.tmp rfl fun _ => rfl) rfl ty118 rfl rfl | exact R_load_vw rfl (.no rfl) rfl (.tmp rfl fun _ => rfl) ty118 rfl rfl | exact R_load_pr rfl (.no rfl) rfl (.tmp rfl fun _ => rfl) rfl map_get hx ty118 rfl rfl)) rfl ?_
    refine AWl.put (R_callz (FnT.fr (specl15Has _ _)) rfl (.no rfl) rfl (.cons (.tmp rfl fun _ => rfl) rfl (.cons (.tmp rfl fun _ => rfl) rfl .nil))) rfl ?_
    refine AWl.put (R_not rfl (.no rfl) rfl (.tmp rfl fun _ => rfl)) rfl ?_
    refine AWl.nil ?_
    refine AW.cond (.tmp rfl fun _ => rfl) (fun h20 => ?_) (fun h20 => ?_)
    · skip
      try simp at h20
      -- region 6
      refine AW.le (σ' := ⟨_, [(0, _), (1, _), (4, _), (5, _), (6, _)], [(7, _)]⟩) (Le.sub0 rfl ⟨rfl, rfl, rfl, rfl, rfl, trivial⟩ ⟨rfl, trivial⟩) ?_
      refine AW.region ?_
      refine AWl.put (R_move rfl (.no rfl) rfl (.tmp rfl fun _ => rfl)) rfl ?_
      refine AWl.put (R_move rfl (.no rfl) rfl (.tmp rfl fun _ => rfl)) rfl ?_
      refine AWl.put (R_move rfl (.no rfl) rfl (.tmp rfl fun _ => rfl)) rfl ?_
      refine AWl.put ((by first | exact R_indexAddr rfl (.no rfl) rfl (.tmp rfl fun _ => rfl) (.tmp rfl fun _ => rfl) Try.underlying37 ty118 (fun _ => ⟨by omega, map_get hx⟩) | exact R_indexAddr_vw rfl (.no rfl) rfl (.tmp rfl fun _ => rfl) (.tmp rfl fun _ => rfl) Try.underlying37 ty118 (fun _ => ⟨by omega, map_get hx⟩) | exact R_indexAddr_rf rfl (.no rfl) rfl (.tmp rfl fun _ => rfl) rfl (.tmp rfl fun _ => rfl) Try.underlying37 ty118 (fun _ => ⟨by omega, map_get hx⟩))) rfl ?_
      refine AWl.put ((by first | exact R_load rfl (.no rfl) rfl (.tmp rfl fun _ => rfl) ty118 rfl rfl | exact R_load_pp rfl (.no rfl) rfl (.tmp rfl fun _ => rfl) rfl ty118 rfl rfl | exact R_load_vw rfl (.no rfl) rfl (.tmp rfl fun _ => rfl) ty118 rfl rfl | exact R_load_pr rfl (.no rfl) rfl (.tmp rfl fun _ => rfl) rfl map_get hx ty118 rfl rfl)) rfl ?_
      apply AWl.consume
      case ho =>
        apply R_consume (xo := .tmp 21) 7 (specl15Put (setG pless ((a.take k).filter fun p => !decide (p ∈ b))) x (Nat.le_trans (setG_len _) (Nat.le_trans (List.length_filter_le _ _) (by simp; omega)))) rfl rfl rfl (.tmp rfl fun _ => rfl)
        case ha => rfl
        case hargs => exact (ArgC.own (ArgRd.agg (.tmp rfl fun _ => rfl) .nil))
        all_goals rfl
      case hd => rfl
      refine AWl.put (R_assign rfl (.no rfl) rfl (.tmp rfl fun _ => rfl)) rfl ?_
      refine AWl.nil ?_
      -- region 4
      refine AW.le (σ' := ⟨_, [(0, _), (1, _), (4, _), (5, _), (6, _)], [(7, _)]⟩) (Le.sub0 rfl ⟨rfl, rfl, rfl, rfl, rfl, trivial⟩ ⟨rfl, trivial⟩) ?_
      refine AW.region ?_
      refine AWl.put (R_move rfl (.no rfl) rfl (.tmp rfl fun _ => rfl)) rfl ?_
      refine AWl.put (R_add rfl (.no rfl) rfl (.tmp rfl fun _ => rfl) (.const rfl) (fun _ => by omega)) rfl ?_
      refine AWl.put (R_assign rfl (.no rfl) rfl (.tmp rfl fun _ => rfl)) rfl ?_
      refine AWl.nil ?_
      repeat (with_reducible refine BlockQ.nor ?_)
      refine Round1.next (k + 1) ⟨by omega, trivial⟩ (by omega) (Le.sub0 rfl ⟨rfl, rfl, rfl, rfl, rfl, trivial⟩ ⟨(by refine congrArg (fun r => some (R.row 2 r)) ?_; simp [take_at hx, List.filter_append, h20, setG, List.foldl_append]), trivial⟩)
    · skip
      try simp at h20
      refine AW.skip ?_
      -- region 4
      refine AW.le (σ' := ⟨_, [(0, _), (1, _), (4, _), (5, _), (6, _)], [(7, _)]⟩) (Le.sub0 rfl ⟨rfl, rfl, rfl, rfl, rfl, trivial⟩ ⟨rfl, trivial⟩) ?_
      refine AW.region ?_
      refine AWl.put (R_move rfl (.no rfl) rfl (.tmp rfl fun _ => rfl)) rfl ?_
      refine AWl.put (R_add rfl (.no rfl) rfl (.tmp rfl fun _ => rfl) (.const rfl) (fun _ => by omega)) rfl ?_
      refine AWl.put (R_assign rfl (.no rfl) rfl (.tmp rfl fun _ => rfl)) rfl ?_
      refine AWl.nil ?_
      repeat (with_reducible refine BlockQ.nor ?_)
      refine Round1.next (k + 1) ⟨by omega, trivial⟩ (by omega) (Le.sub0 rfl ⟨rfl, rfl, rfl, rfl, rfl, trivial⟩ ⟨(by refine congrArg (fun r => some (R.row 2 r)) ?_; simp [take_at hx, List.filter_append, h20, setG, List.foldl_append]), trivial⟩)
  · skip
    try simp at h11
    refine AW.exit ?_
    refine AW.seq ?_
    -- region 7
    refine AW.region ?_
    refine AWl.put (R_move rfl (.no rfl) rfl (.tmp rfl fun _ => rfl)) rfl ?_
    refine AWl.put (R_assign rfl (.no rfl) rfl (.tmp rfl fun _ => rfl)) rfl ?_
    refine AWl.nil ?_
    refine AW.ret ?_
    refine Res.one rfl (.tmp rfl .nil) rfl ?_
    unfold psub; rw [List.take_of_length_le (by omega)]; rfl
end Go.Proofs.Ytjmefmdeghggeaa
