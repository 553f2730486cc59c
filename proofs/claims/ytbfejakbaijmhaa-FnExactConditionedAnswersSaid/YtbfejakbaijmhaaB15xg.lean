/- Pairs: both texts. -/
import Derived.Test.YtbfejakbaijmhaaTrxg
import Derived.Test.YtbfejakbaijmhaaAbsKxg
set_option linter.unusedVariables false
set_option linter.unusedSimpArgs false
set_option maxHeartbeats 1000000
set_option maxRecDepth 100000
namespace Go.Q
open Go.D
/-! ### Sets as sorted lists -/
structure SO {α : Type} (lt : α → α → Bool) : Prop where
  irr : ∀ x, lt x x = false
  tra : ∀ x y z, lt x y = true → lt y z = true → lt x z = true
  tri : ∀ x y, lt x y = true ∨ x = y ∨ lt y x = true
def putG {α : Type} [DecidableEq α] (lt : α → α → Bool) : List α → α → List α
  | [], p => [p]
  | x :: l, p => if lt x p then x :: putG lt l p else if x = p then x :: l else p :: x :: l
def StrictS {α : Type} (lt : α → α → Bool) (l : List α) : Prop := l.Pairwise fun a b => lt a b = true
section
variable {α : Type} {lt : α → α → Bool}
theorem strict_ext (ho : SO lt) : ∀ {l r : List α}, StrictS lt l → StrictS lt r → (∀ x, x ∈ l ↔ x ∈ r) → l = r
  | [], [], _, _, _ => rfl
  | [], y :: r, _, _, h => by have := (h y).2 (by simp); cases this
  | x :: l, [], _, _, h => by have := (h x).1 (by simp); cases this
  | x :: l, y :: r, hl, hr, h => by
    have hl' := List.pairwise_cons.1 hl
    have hr' := List.pairwise_cons.1 hr
    have e : x = y := by
      rcases List.mem_cons.1 ((h x).1 (by simp)) with h1 | h1
      · exact h1
      · rcases List.mem_cons.1 ((h y).2 (by simp)) with h2 | h2
        · exact h2.symm
        · have h3 := hr'.1 x h1
          have h4 := hl'.1 y h2
          have := ho.tra _ _ _ h3 h4
          rw [ho.irr] at this; cases this
    subst e
    congr 1
    refine strict_ext ho hl'.2 hr'.2 fun z => ⟨fun hz => ?_, fun hz => ?_⟩
    · rcases List.mem_cons.1 ((h z).1 (by simp [hz])) with h1 | h1
      · subst h1; have := hl'.1 z hz; rw [ho.irr] at this; cases this
      · exact h1
    · rcases List.mem_cons.1 ((h z).2 (by simp [hz])) with h1 | h1
      · subst h1; have := hr'.1 z hz; rw [ho.irr] at this; cases this
      · exact h1
end
section
variable {α : Type} [DecidableEq α] {lt : α → α → Bool}
theorem mem_putG {x p : α} : ∀ {l : List α}, x ∈ putG lt l p ↔ x ∈ l ∨ x = p
  | [] => by simp [putG]
  | y :: l => by
    rw [putG]
    split
    · simp [mem_putG (l := l), or_assoc]
    · split
      · rename_i h; subst h; simp; intro h; exact .inl h
      · simp; constructor
        · rintro (h | h | h) <;> simp [h]
        · rintro ((h | h) | h) <;> simp [h]
theorem putG_strict (ho : SO lt) {p : α} : ∀ {l : List α}, StrictS lt l → StrictS lt (putG lt l p)
  | [], _ => by simp [putG, StrictS]
  | y :: l, h => by
    have h' := List.pairwise_cons.1 h
    rw [putG]
    split
    · rename_i hy
      refine List.pairwise_cons.2 ⟨fun x hx => ?_, putG_strict ho h'.2⟩
      rcases mem_putG.1 hx with hx | rfl
      · exact h'.1 x hx
      · exact hy
    · rename_i hy
      split
      · exact h
      · rename_i hne
        have hlt : lt p y = true := by
          rcases ho.tri y p with h1 | h1 | h1
          · exact absurd h1 hy
          · exact absurd h1 hne
          · exact h1
        refine List.pairwise_cons.2 ⟨fun x hx => ?_, h⟩
        rcases List.mem_cons.1 hx with rfl | hx
        · exact hlt
        · exact ho.tra _ _ _ hlt (h'.1 x hx)
def setG (lt : α → α → Bool) (l : List α) : List α := l.foldl (putG lt) []
theorem foldl_strict (ho : SO lt) : ∀ {l acc : List α}, StrictS lt acc → StrictS lt (l.foldl (putG lt) acc)
  | [], _, h => h
  | x :: l, acc, h => foldl_strict ho (l := l) (putG_strict ho h)
theorem mem_foldl {x : α} : ∀ {l acc : List α}, x ∈ l.foldl (putG lt) acc ↔ x ∈ acc ∨ x ∈ l
  | [], acc => by simp
  | y :: l, acc => by
    rw [List.foldl_cons, mem_foldl, mem_putG, List.mem_cons, or_assoc]
theorem setG_strict (ho : SO lt) (l : List α) : StrictS lt (setG lt l) := foldl_strict ho List.Pairwise.nil
theorem mem_setG {x : α} {l : List α} : x ∈ setG lt l ↔ x ∈ l := by unfold setG; rw [mem_foldl]; simp
theorem putG_len (p : α) : ∀ l : List α, (putG lt l p).length ≤ l.length + 1
  | [] => by simp [putG]
  | x :: l => by
    rw [putG]
    have := putG_len p l
    split
    · simp; omega
    · split <;> simp
theorem setG_len (l : List α) : (setG lt l).length ≤ l.length := by
  have key : ∀ (l acc : List α), (l.foldl (putG lt) acc).length ≤ acc.length + l.length := by
    intro l
    induction l with
    | nil => intro acc; simp
    | cons x l ih => intro acc; rw [List.foldl_cons]; have := ih (putG lt acc x); have := putG_len (lt := lt) x acc; simp; omega
  have := key l []
  simpa [setG] using this
/-- How it is put: behind those that are less. -/
theorem putG_at : ∀ {l : List α} {k : Nat} {p : α}, (∀ j y, j < k → l[j]? = some y → lt y p = true) → (∀ y, l[k]? = some y → lt y p = false) → k ≤ l.length → putG lt l p = if l[k]? = some p then l else l.take k ++ [p] ++ l.drop k
  | [], k, p, _, _, hk => by have : k = 0 := by simpa using hk
                             subst this; simp [putG]
  | x :: l, 0, p, _, h2, _ => by
    have := h2 x rfl
    rw [putG, if_neg (by rw [this]; simp)]
    simp
  | x :: l, k + 1, p, h1, h2, hk => by
    have hx := h1 0 x (by omega) rfl
    rw [putG, if_pos hx, putG_at (k := k) (fun j y hj hy => h1 (j + 1) y (by omega) (by simpa using hy)) (fun y hy => h2 y (by simpa using hy)) (by simpa using hk)]
    simp only [List.getElem?_cons_succ, List.take_succ_cons, List.drop_succ_cons, List.cons_append]
    split <;> rfl
end
/-! ### Pairs -/
instance : Inhabited TPair := ⟨⟨0, 0⟩⟩
def pless (a b : TPair) : Bool := decide (a.From < b.From) || decide (a.From = b.From) && decide (a.To < b.To)
theorem pless_so : SO pless := by
  refine ⟨fun x => by simp [pless], fun x y z => ?_, fun x y => ?_⟩
  · unfold pless
    simp only [Bool.or_eq_true, Bool.and_eq_true, decide_eq_true_eq]
    omega
  · unfold pless
    simp only [Bool.or_eq_true, Bool.and_eq_true, decide_eq_true_eq]
    have : x = y ↔ x.From = y.From ∧ x.To = y.To := by cases x; cases y; simp
    rw [this]; omega
end Go.Q
namespace Go.Q
open Go.D
theorem put_found {l : List TPair} {k : Nat} {p d : TPair} (h1 : ∀ j y, j < k → l[j]? = some y → pless y p = true) (hk : k < l.length) (he : l[k]?.getD d = p) : putG pless l p = l := by
  have hg : l[k]? = some p := by rw [getD_at (d := d) hk, he]
  rw [putG_at h1 (fun y hy => by rw [hg] at hy; cases hy; exact pless_so.irr p) (by omega), if_pos hg]
theorem put_new {l : List TPair} {k : Nat} {p d : TPair} (h1 : ∀ j y, j < k → l[j]? = some y → pless y p = true) (hk : k ≤ l.length) (hn : k < l.length → pless (l[k]?.getD d) p = false) (hne : k < l.length → l[k]?.getD d ≠ p) : putG pless l p = l.take k ++ [p] ++ l.drop k := by
  rw [putG_at h1 (fun y hy => by have hlt := (List.getElem?_eq_some_iff.1 hy).1; have := hn hlt; rwa [hy] at this) hk, if_neg (fun hy => by have hlt := (List.getElem?_eq_some_iff.1 hy).1; have := hne hlt; rw [hy] at this; exact this rfl)]
theorem pair_eq {x y : TPair} : x = y ↔ x.From = y.From ∧ x.To = y.To := by cases x; cases y; simp
end Go.Q
namespace Go.Proofs.Ytbfejakbaijmhaa
open Go.RowKit Go.Q Go.D
theorem specl15Less (x y : TPair) : FnT Try.prog 132 [.agg (cPair x), .agg (cPair y)] (.a (.one (.v (.bool (pless x y))))) := by
  refine FnT.walk Try.func132 rfl (by kernel_rfl) Try.ntmps132 rfl fun hlen w0 => ?_
  try simp [cPair, cToken, cExpr, cEdge, cGraph, cStep, cWalk, cChange, cBatch, cHistory, cPositions, cAutomaton, cProductStep, cPathAtom, cConjunction, cView, cDelta, cRegistered, cRegistry] at hlen
  refine AW.seq ?_
  refine AW.region ?_
  refine AWl.put (R_boxz rfl rfl rfl (.tmp rfl fun _ => rfl) (ts := _) (by rfl)) rfl ?_
  refine AWl.put (R_boxz rfl rfl rfl (.tmp rfl fun _ => rfl) (ts := _) (by rfl)) rfl ?_
  refine AWl.put (R_assign rfl (.no rfl) rfl (.const rfl)) rfl ?_
  refine AWl.nil ?_
  refine AW.seq ?_
  refine AW.region ?_
  refine AWl.put ((by exact R_fieldAddr rfl (.no rfl) rfl (.tmp rfl fun _ => rfl) fl93_0)) rfl ?_
  refine AWl.put ((by exact R_load rfl (.no rfl) rfl (.tmp rfl fun _ => rfl) ty3 rfl rfl)) rfl ?_
  refine AWl.put ((by exact R_fieldAddr rfl (.no rfl) rfl (.tmp rfl fun _ => rfl) fl93_0)) rfl ?_
  refine AWl.put ((by exact R_load rfl (.no rfl) rfl (.tmp rfl fun _ => rfl) ty3 rfl rfl)) rfl ?_
  refine AWl.put (R_lt rfl (.no rfl) rfl (.tmp rfl fun _ => rfl) (.tmp rfl fun _ => rfl)) rfl ?_
  refine AWl.put (R_move rfl (.no rfl) rfl (.tmp rfl fun _ => rfl)) rfl ?_
  refine AWl.put ((by exact R_fieldAddr rfl (by exact .not1 rfl rfl rfl rfl) rfl (.tmp rfl (by exact fun _ => rfl)) fl93_0)) rfl ?_
  refine AWl.put ((by exact R_load rfl (by exact .not1 rfl rfl rfl rfl) rfl (.tmp rfl (by exact id)) ty3 rfl rfl)) rfl ?_
  refine AWl.put ((by exact R_fieldAddr rfl (by exact .not1 rfl rfl rfl rfl) rfl (.tmp rfl (by exact fun _ => rfl)) fl93_0)) rfl ?_
  refine AWl.put ((by exact R_load rfl (by exact .not1 rfl rfl rfl rfl) rfl (.tmp rfl (by exact id)) ty3 rfl rfl)) rfl ?_
  refine AWl.put (R_eq rfl (by exact .not1 rfl rfl rfl rfl) rfl (.tmp rfl (by exact id)) (.tmp rfl (by exact id))) rfl ?_
  refine AWl.put (R_move rfl (by exact .not1 rfl rfl rfl rfl) rfl (.tmp rfl (by exact id))) rfl ?_
  refine AWl.put ((by exact R_fieldAddr rfl (by exact .yes rfl rfl rfl rfl) rfl (.tmp rfl (by exact fun _ => rfl)) fl93_1)) rfl ?_
  refine AWl.put ((by exact R_load rfl (by exact .yes rfl rfl rfl rfl) rfl (.tmp rfl (by exact id)) ty3 rfl rfl)) rfl ?_
  refine AWl.put ((by exact R_fieldAddr rfl (by exact .yes rfl rfl rfl rfl) rfl (.tmp rfl (by exact fun _ => rfl)) fl93_1)) rfl ?_
  refine AWl.put ((by exact R_load rfl (by exact .yes rfl rfl rfl rfl) rfl (.tmp rfl (by exact id)) ty3 rfl rfl)) rfl ?_
  refine AWl.put (R_lt rfl (by exact .yes rfl rfl rfl rfl) rfl (.tmp rfl (by exact id)) (.tmp rfl (by exact id))) rfl ?_
  refine AWl.put (R_and rfl (by exact .not1 rfl rfl rfl rfl) rfl (.tmp rfl (by exact id)) (.tmp rfl (by exact id))) rfl ?_
  refine AWl.put (R_or rfl (.no rfl) rfl (.tmp rfl fun _ => rfl) (.tmp rfl (by exact id))) rfl ?_
  refine AWl.put (R_assign rfl (.no rfl) rfl (.tmp rfl fun _ => rfl)) rfl ?_
  refine AWl.nil ?_
  refine AW.ret ?_
  refine Res.v rfl rfl ?_
  rfl
theorem specl15Put (l : List TPair) (p : TPair) (hl : l.length ≤ 1099511627776) : FnC Try.prog 72 [(true, .one (.sl 2 (l.map cPair))), (false, .agg (cPair p))] (.a (.one (.sl 2 ((putG pless l p).map cPair)))) := by
  refine FnC.walk Try.func72 rfl (by kernel_rfl) Try.ntmps72 rfl (by rfl) fun w0 => ?_
  refine AW.le (σ' := ⟨_, [(0, _), (1, _)], [(1000, _)]⟩) (Le.sub0 rfl ⟨rfl, rfl, trivial⟩ ⟨rfl, trivial⟩) ?_
  try simp [cPair, cToken, cExpr, cEdge, cGraph, cStep, cWalk, cChange, cBatch, cHistory, cPositions, cAutomaton, cProductStep, cPathAtom, cConjunction, cView, cDelta, cRegistered, cRegistry] at hlen
  refine AW.seq ?_
  refine AW.region ?_
  refine AWl.put (R_boxz rfl rfl rfl (.tmp rfl fun _ => rfl) (ts := _) (by rfl)) rfl ?_
  refine AWl.put (R_assign rfl (.no rfl) rfl (.const rfl)) rfl ?_
  refine AWl.nilS (i := 4) 20001 2 rfl rfl ?_
  refine AWl.nil ?_
  refine AW.seq ?_
  refine AW.region ?_
  refine AWl.put (R_assign rfl (.no rfl) rfl (.const rfl)) rfl ?_
  refine AWl.nil ?_
  refine AW.seq ?_
  refine AW.block ?_
  refine AW.loop1 (fun (k : Nat) => (k ≤ l.length ∧ ∀ j y, j < k → l[j]? = some y → pless y p = true) ∧ True) (fun (k : Nat) => ⟨_, [(5, (true, .a (.one (.t (.v (.int .i64 (k : Nat))))))), (0, _), (3, _), (4, _)], [(1000, .row 2 (l.map cPair))]⟩) (fun (k : Nat) => l.length - k) (0) ⟨⟨Nat.zero_le _, fun j y hj => absurd hj (Nat.not_lt_zero j)⟩, trivial⟩ (Le.sub0 rfl ⟨rfl, rfl, rfl, rfl, trivial⟩ ⟨rfl, trivial⟩) ?_
  rintro k ⟨hk, he⟩
  refine AW.seq ?_
  refine AW.seq ?_
  refine AW.drawn 12 (nthB [[], [], [1], [0, 1, 2], [0, 1, 2, 3], [0, 1, 2, 3, 4], [0, 1, 2, 3, 4], [0, 1, 2, 3, 4, 5, 6], [0, 1, 2, 3, 4, 5, 6, 7], [0, 1, 2, 3, 4], [0, 1, 2, 3, 4, 5, 6, 7, 8, 9], [0, 1, 2, 3, 4, 5, 6, 7, 8, 9, 10]]) (by kernel_rfl) (by kernel_rfl) (by kernel_rfl) ?_
  refine DrawC.step rfl rfl rfl (Loc.of rfl fun σ' hs => R_move rfl (.no rfl) (hd_sup hs rfl) (.tmp (hs.slots _ _ rfl) fun _ => rfl)) ?_
  refine DrawC.step rfl rfl rfl (Loc.of rfl fun σ' hs => R_move rfl (.no rfl) (hd_sup hs rfl) (.tmp (hs.slots _ _ rfl) fun _ => rfl)) ?_
  refine DrawC.step rfl rfl rfl (Loc.of rfl fun σ' hs => (by exact R_lenm rfl (.no rfl) (hd_sup hs rfl) (.tmp (hs.slots _ _ rfl) fun _ => rfl) (by exact .rf (hs.res _ _ rfl)) Try.underlying46)) ?_
  refine DrawC.step rfl rfl rfl (Loc.of rfl fun σ' hs => R_lt rfl (.no rfl) (hd_sup hs rfl) (.tmp (hs.slots _ _ rfl) fun _ => rfl) (.tmp (hs.slots _ _ rfl) fun _ => rfl)) ?_
  refine DrawC.step rfl rfl rfl (Loc.of rfl fun σ' hs => R_move rfl (.no rfl) (hd_sup hs rfl) (.tmp (hs.slots _ _ rfl) fun _ => rfl)) ?_
  refine DrawC.step rfl rfl rfl (Loc.of rfl fun σ' hs => R_move rfl (by exact .yes1 rfl rfl (hs.slots _ _ rfl) (by rw [hs.n]; rfl)) (hd_sup hs rfl) (.tmp (hs.slots _ _ rfl) (by exact fun _ => rfl))) ?_
  refine DrawC.step rfl rfl rfl (Loc.of rfl fun σ' hs => R_move rfl (by exact .yes1 rfl rfl (hs.slots _ _ rfl) (by rw [hs.n]; rfl)) (hd_sup hs rfl) (.tmp (hs.slots _ _ rfl) (by exact fun _ => rfl))) ?_
  refine DrawC.step rfl rfl rfl (Loc.of rfl fun σ' hs => (by exact R_indexAddr_rf rfl (by exact .yes1 rfl rfl (hs.slots _ _ rfl) (by rw [hs.n]; rfl)) (hd_sup hs rfl) (.tmp (hs.slots _ _ rfl) (by exact id)) (hs.res _ _ rfl) (.tmp (hs.slots _ _ rfl) (by exact id)) Try.underlying46 ty93 (fun hq => by simp at hq; exact ⟨by omega, map_get (l := l) (x := l[k]?.getD default) (getD_at (by omega))⟩))) ?_
  refine DrawC.step rfl rfl rfl (Loc.of rfl fun σ' hs => (by exact R_load_prq rfl (by exact .yes1 rfl rfl (hs.slots _ _ rfl) (by rw [hs.n]; rfl)) (hd_sup hs rfl) (.tmp (hs.slots _ _ rfl) (by exact id)) (hs.res _ _ rfl) (fun hq => by simp at hq; exact map_get (l := l) (x := l[k]?.getD default) (getD_at (by omega))) ty93 rfl rfl)) ?_
  refine DrawC.step rfl rfl rfl (Loc.of rfl fun σ' hs => (by exact R_load rfl (by exact .yes1 rfl rfl (hs.slots _ _ rfl) (by rw [hs.n]; rfl)) (hd_sup hs rfl) (.tmp (hs.slots _ _ rfl) (by exact fun _ => rfl)) ty93 rfl rfl)) ?_
  refine DrawC.step rfl rfl rfl (Loc.of rfl fun σ' hs => R_callq rfl (by exact .yes1 rfl rfl (hs.slots _ _ rfl) (by rw [hs.n]; rfl)) (hd_sup hs rfl) (.cons (.tmp (hs.slots _ _ rfl) (by exact id)) (readA_sup hs rfl) (.cons (.tmp (hs.slots _ _ rfl) (by exact id)) (readA_sup hs rfl) .nil)) fun hq => FnT.fr (specl15Less (l[k]?.getD default) p)) ?_
  refine DrawC.step rfl rfl rfl (Loc.of rfl fun σ' hs => R_and rfl (.no rfl) (hd_sup hs rfl) (.tmp (hs.slots _ _ rfl) fun _ => rfl) (.tmp (hs.slots _ _ rfl) (by exact id))) ?_
  refine DrawC.fin rfl rfl ?_
  refine AWl.nil ?_
  refine AW.cond (.tmp rfl fun _ => rfl) (fun h17 => ?_) (fun h17 => ?_)
  · skip
    try simp at h17
    refine AW.skip ?_
    refine AW.block ?_
    refine AW.le (σ' := ⟨_, [(0, _), (3, _), (4, _), (5, _)], [(1000, _)]⟩) (Le.sub0 rfl ⟨rfl, rfl, rfl, rfl, trivial⟩ ⟨rfl, trivial⟩) ?_
    refine AW.region ?_
    refine AWl.put (R_move rfl (.no rfl) rfl (.tmp rfl fun _ => rfl)) rfl ?_
    refine AWl.put (R_add rfl (.no rfl) rfl (.tmp rfl fun _ => rfl) (.const rfl) (fun _ => by omega)) rfl ?_
    refine AWl.put (R_assign rfl (.no rfl) rfl (.tmp rfl fun _ => rfl)) rfl ?_
    refine AWl.nil ?_
    repeat (with_reducible refine BlockQ.nor ?_)
    refine Round1.next (k + 1) ⟨⟨by omega, each_succ hk.2 (getD_at (d := default) (by omega)) h17.2⟩, trivial⟩ (by omega) (Le.sub0 rfl ⟨rfl, rfl, rfl, rfl, trivial⟩ ⟨(by rfl), trivial⟩)
  · skip
    try simp at h17
    refine AW.exit ?_
    refine AW.seq ?_
    refine AW.seq ?_
    refine AW.le (σ' := ⟨_, [(0, _), (3, _), (4, _), (5, _)], [(1000, _)]⟩) (Le.sub0 rfl ⟨rfl, rfl, rfl, rfl, trivial⟩ ⟨rfl, trivial⟩) ?_
    refine AW.drawn 12 (nthB [[], [], [1], [0, 1, 2], [0, 1, 2, 3], [0, 1, 2, 3, 4], [0, 1, 2, 3, 4], [0, 1, 2, 3, 4, 5, 6], [0, 1, 2, 3, 4, 5, 6, 7], [0, 1, 2, 3, 4], [0, 1, 2, 3, 4, 5, 6, 7, 8, 9], [0, 1, 2, 3, 4, 5, 6, 7, 8, 9, 10]]) (by kernel_rfl) (by kernel_rfl) (by kernel_rfl) ?_
    refine DrawC.step rfl rfl rfl (Loc.of rfl fun σ' hs => R_move rfl (.no rfl) (hd_sup hs rfl) (.tmp (hs.slots _ _ rfl) fun _ => rfl)) ?_
    refine DrawC.step rfl rfl rfl (Loc.of rfl fun σ' hs => R_move rfl (.no rfl) (hd_sup hs rfl) (.tmp (hs.slots _ _ rfl) fun _ => rfl)) ?_
    refine DrawC.step rfl rfl rfl (Loc.of rfl fun σ' hs => (by exact R_lenm rfl (.no rfl) (hd_sup hs rfl) (.tmp (hs.slots _ _ rfl) fun _ => rfl) (by exact .rf (hs.res _ _ rfl)) Try.underlying46)) ?_
    refine DrawC.step rfl rfl rfl (Loc.of rfl fun σ' hs => R_lt rfl (.no rfl) (hd_sup hs rfl) (.tmp (hs.slots _ _ rfl) fun _ => rfl) (.tmp (hs.slots _ _ rfl) fun _ => rfl)) ?_
    refine DrawC.step rfl rfl rfl (Loc.of rfl fun σ' hs => R_move rfl (.no rfl) (hd_sup hs rfl) (.tmp (hs.slots _ _ rfl) fun _ => rfl)) ?_
    refine DrawC.step rfl rfl rfl (Loc.of rfl fun σ' hs => R_move rfl (by exact .yes1 rfl rfl (hs.slots _ _ rfl) (by rw [hs.n]; rfl)) (hd_sup hs rfl) (.tmp (hs.slots _ _ rfl) (by exact fun _ => rfl))) ?_
    refine DrawC.step rfl rfl rfl (Loc.of rfl fun σ' hs => R_move rfl (by exact .yes1 rfl rfl (hs.slots _ _ rfl) (by rw [hs.n]; rfl)) (hd_sup hs rfl) (.tmp (hs.slots _ _ rfl) (by exact fun _ => rfl))) ?_
    refine DrawC.step rfl rfl rfl (Loc.of rfl fun σ' hs => (by exact R_indexAddr_rf rfl (by exact .yes1 rfl rfl (hs.slots _ _ rfl) (by rw [hs.n]; rfl)) (hd_sup hs rfl) (.tmp (hs.slots _ _ rfl) (by exact id)) (hs.res _ _ rfl) (.tmp (hs.slots _ _ rfl) (by exact id)) Try.underlying46 ty93 (fun hq => by simp at hq; exact ⟨by omega, map_get (l := l) (x := l[k]?.getD default) (getD_at (by omega))⟩))) ?_
    refine DrawC.step rfl rfl rfl (Loc.of rfl fun σ' hs => (by exact R_load_prq rfl (by exact .yes1 rfl rfl (hs.slots _ _ rfl) (by rw [hs.n]; rfl)) (hd_sup hs rfl) (.tmp (hs.slots _ _ rfl) (by exact id)) (hs.res _ _ rfl) (fun hq => by simp at hq; exact map_get (l := l) (x := l[k]?.getD default) (getD_at (by omega))) ty93 rfl rfl)) ?_
    refine DrawC.step rfl rfl rfl (Loc.of rfl fun σ' hs => (by exact R_load rfl (by exact .yes1 rfl rfl (hs.slots _ _ rfl) (by rw [hs.n]; rfl)) (hd_sup hs rfl) (.tmp (hs.slots _ _ rfl) (by exact fun _ => rfl)) ty93 rfl rfl)) ?_
    refine DrawC.step rfl rfl rfl (Loc.of rfl fun σ' hs => R_eqs rfl (by exact .yes1 rfl rfl (hs.slots _ _ rfl) (by rw [hs.n]; rfl)) (hd_sup hs rfl) (.tmp (hs.slots _ _ rfl) (by exact id)) (.tmp (hs.slots _ _ rfl) (by exact id)) rfl rfl (by kernel_rfl) (eqS93 _ _ _ _)) ?_
    refine DrawC.step rfl rfl rfl (Loc.of rfl fun σ' hs => R_and rfl (.no rfl) (hd_sup hs rfl) (.tmp (hs.slots _ _ rfl) fun _ => rfl) (.tmp (hs.slots _ _ rfl) (by exact id))) ?_
    refine DrawC.fin rfl rfl ?_
    refine AWl.nil ?_
    refine AW.cond (.tmp rfl fun _ => rfl) (fun h31 => ?_) (fun h31 => ?_)
    · skip
      try simp at h31
      refine AW.seq ?_
      refine AW.le (σ' := ⟨_, [(0, _), (3, _), (4, _), (5, _)], [(1000, _)]⟩) (Le.sub0 rfl ⟨rfl, rfl, rfl, rfl, trivial⟩ ⟨rfl, trivial⟩) ?_
      refine AW.region ?_
      refine AWl.put (R_move rfl (.no rfl) rfl (.tmp rfl fun _ => rfl)) rfl ?_
      refine AWl.put (R_assign rfl (.no rfl) rfl (.tmp rfl fun _ => rfl)) rfl ?_
      refine AWl.nil ?_
      refine AW.ret ?_
      refine Res.one rfl (.tmp rfl .nil) rfl ?_
      rw [put_found hk.2 h31.1 (pair_eq.2 h31.2)]; rfl
    · skip
      try simp at h31
      refine AW.skip ?_
      refine AW.seq ?_
      refine AW.le (σ' := ⟨_, [(0, _), (3, _), (4, _), (5, _)], [(1000, _)]⟩) (Le.sub0 rfl ⟨rfl, rfl, rfl, rfl, trivial⟩ ⟨rfl, trivial⟩) ?_
      refine AW.le (σ' := ⟨_, [(0, _), (3, _), (5, _)], [(1000, _)]⟩) (Le.sub0 rfl ⟨rfl, rfl, rfl, trivial⟩ ⟨rfl, trivial⟩) ?_
      refine AW.drawK 13 (nthB [[], [], [], [1, 2], [0, 1, 2, 3], [], [5], [0, 1, 2, 3, 4, 5, 6], [], [], [8, 9], [0, 1, 2, 3, 4, 5, 6, 7, 8, 9, 10], [0, 1, 2, 3, 4, 5, 6, 7, 8, 9, 10, 11]]) [(4, 33), (7, 33), (11, 33)] (by kernel_rfl) (by kernel_rfl) (by kernel_rfl) ?_
      refine DrawK.step (LocK.of1 rfl fun σ' hs hf => R_empty 33 rfl rfl (hd_sup hs rfl) Try.underlying46 ty93 hf) ?_
      refine DrawK.step (LocK.of rfl fun σ' hs => R_move rfl (.no rfl) (hd_sup hs rfl) (.tmp (hs.slots _ _ rfl) fun _ => rfl)) ?_
      refine DrawK.step (LocK.of rfl fun σ' hs => R_move rfl (.no rfl) (hd_sup hs rfl) (.tmp (hs.slots _ _ rfl) fun _ => rfl)) ?_
      refine DrawK.step (LocK.of rfl fun σ' hs => R_slice_vwr (m := k) rfl (.no rfl) (hd_sup hs rfl) (.tmp (hs.slots _ _ rfl) fun _ => rfl) (hs.res _ _ rfl) .no (.yes (.tmp (hs.slots _ _ rfl) fun _ => rfl) (fun _ => by first | rfl | omega | (simp <;> omega))) Try.underlying46 ty93 (fun _ => ⟨by omega, by first | omega | (simp; omega)⟩)) ?_
      refine DrawK.step (LocK.ofc rfl rfl fun σ' hs => R_append (id := 33) rfl rfl (hd_sup hs rfl) (.tmp (hs.slots _ _ rfl) fun _ => rfl) (hs.res _ _ rfl) (.tmp (hs.slots _ _ rfl) fun _ => rfl) (by exact .vw) (by exact isV_part (fun _ => rfl) _ _ _) Try.underlying46 in93 rfl (by (simp [chunk]; omega)) (by (unfold maxLen; simp [chunk]; omega))) ?_
      refine DrawK.step (LocK.of rfl fun σ' hs => (by exact R_load rfl (.no rfl) (hd_sup hs rfl) (.tmp (hs.slots _ _ rfl) fun _ => rfl) ty93 rfl rfl)) ?_
      refine DrawK.step (LocK.of1 rfl fun σ' hs hf => R_list (xs := [.tmp 38]) 39 rfl rfl (hd_sup hs rfl) (.cons (.tmp (hs.slots _ _ rfl) fun _ => rfl) rfl rfl .nil) Try.underlying46 in93 rfl rfl rfl hf) ?_
      refine DrawK.step (LocK.ofc rfl rfl fun σ' hs => R_append (id := 33) rfl rfl (hd_sup hs rfl) (.tmp (hs.slots _ _ rfl) fun _ => rfl) (hs.res _ _ rfl) (.tmp (hs.slots _ _ rfl) fun _ => rfl) (by exact .rf (hs.res _ _ rfl)) (by rfl) Try.underlying46 in93 rfl (by (simp [chunk]; omega)) (by (unfold maxLen; simp [chunk]; omega))) ?_
      refine DrawK.step (LocK.of rfl fun σ' hs => R_move rfl (.no rfl) (hd_sup hs rfl) (.tmp (hs.slots _ _ rfl) fun _ => rfl)) ?_
      refine DrawK.step (LocK.of rfl fun σ' hs => R_move rfl (.no rfl) (hd_sup hs rfl) (.tmp (hs.slots _ _ rfl) fun _ => rfl)) ?_
      refine DrawK.step (LocK.of rfl fun σ' hs => R_slice_vwr (n := k) rfl (.no rfl) (hd_sup hs rfl) (.tmp (hs.slots _ _ rfl) fun _ => rfl) (hs.res _ _ rfl) (.yes (.tmp (hs.slots _ _ rfl) fun _ => rfl) (fun _ => by first | rfl | omega | (simp <;> omega))) .no Try.underlying46 ty93 (fun _ => ⟨by simp; omega, by simp⟩)) ?_
      refine DrawK.step (LocK.ofc rfl rfl fun σ' hs => R_append (id := 33) rfl rfl (hd_sup hs rfl) (.tmp (hs.slots _ _ rfl) fun _ => rfl) (hs.res _ _ rfl) (.tmp (hs.slots _ _ rfl) fun _ => rfl) (by exact .vw) (by exact isV_part (fun _ => rfl) _ _ _) Try.underlying46 in93 rfl (by (simp [chunk]; omega)) (by (unfold maxLen; simp [chunk]; omega))) ?_
      refine DrawK.step (LocK.of rfl fun σ' hs => R_assign rfl (.no rfl) (hd_sup hs rfl) (.tmp (hs.slots _ _ rfl) fun _ => rfl)) ?_
      refine DrawK.fin rfl rfl rfl ?_
      refine AWl.le (σ' := ⟨_, [(0, _), (3, _), (4, _), (5, _)], [(1000, _), (33, _), (39, _)]⟩) (Le.sub0 rfl ⟨rfl, rfl, rfl, rfl, trivial⟩ ⟨rfl, rfl, rfl, trivial⟩) ?_
      refine AWl.nil ?_
      refine AW.ret ?_
      refine Res.one rfl (.tmp rfl .nil) rfl ?_
      rw [put_new hk.2 hk.1 h17 (fun hl he => h31 hl (pair_eq.1 he).1 (pair_eq.1 he).2)]; refine congrArg (fun r => [V0.one (T.sl 2 r)]) ?_; simp [chunk, cPair, List.map_take, List.map_drop, List.take_of_length_le (show (List.map cPair l).length ≤ l.length by simp)]
end Go.Proofs.Ytbfejakbaijmhaa
