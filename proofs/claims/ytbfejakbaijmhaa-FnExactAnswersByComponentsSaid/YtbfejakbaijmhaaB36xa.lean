/- The components of the product: both texts. -/
import Derived.Test.YtbfejakbaijmhaaB24xa
set_option linter.unusedVariables false
set_option linter.unusedSimpArgs false
set_option maxHeartbeats 1000000
set_option maxRecDepth 100000
namespace Go.Q
open Go.D
theorem cntRep_le {rel : Nat → Nat → Bool} (i : Nat) : cntRep rel i ≤ i := by
  unfold cntRep
  exact Nat.le_trans List.countP_le_length (by simp)
theorem cnt_max {rel : Nat → Nat → Bool} (ht : ∀ a b c, rel a b = true → rel b c = true → rel a c = true) (i : Nat) : max ((cntRep rel i : Int) - 1) ((numOf rel i : Nat) : Int) = (cntRep rel (i + 1) : Int) - 1 := by
  have h := cntRep_succ (rel := rel) i
  cases hr : isRep rel i with
  | true => rw [hr, if_pos rfl] at h; rw [numOf_rep hr, h]; omega
  | false =>
    have h2 := numOf_lt ht i
    rw [hr] at h
    simp only [Bool.false_eq_true, if_false, Nat.add_zero] at h
    rw [h] at h2 ⊢
    omega
theorem numOf_same {rel : Nat → Nat → Bool} (hs : ∀ a b, rel a b = true → rel b a = true) (ht : ∀ a b c, rel a b = true → rel b c = true → rel a c = true) {i p : Nat} (h : rel i p = true) (hp : p < i) : numOf rel i = numOf rel p := by
  unfold numOf
  rw [repOf_same hs ht h hp]
theorem wK_congr {nx nx' : Nat → List Int} {N : Nat} (he : ∀ p, p < N → nx p = nx' p) : ∀ (K i : Nat), K ≤ N → i < N → wK nx K i = wK nx' K i
  | 0, i, _, hi => by rw [wK, wK, he i hi]
  | K + 1, i, hK, hi => by rw [wK, wK, wK_congr he K i (by omega) hi, wK_congr he K K (by omega) (by omega)]
theorem wB_take {l : List Int} {k : Nat} {x : Int} (h : l[k]? = some x) : wB (l.take (k + 1)) = wB (l.take k) ||| 2 ^ x.toNat := by
  unfold wB
  rw [take_at h, List.foldl_append]; rfl
theorem wset {nx : Nat → List Int} {N K i : Nat} (h : (wK nx K i).testBit K = true) : ((List.range N).map fun p => ((if p < i then wK nx (K + 1) p else wK nx K p : Nat) : Int)).set i ((wK nx K i ||| wK nx K K : Nat) : Int) = (List.range N).map fun p => ((if p < i + 1 then wK nx (K + 1) p else wK nx K p : Nat) : Int) := by
  rw [range_set]
  apply List.map_congr_left
  intro p _
  by_cases e : p = i
  · subst e
    rw [if_pos rfl, if_pos (by omega), wK, if_pos h]
  · rw [if_neg e]
    by_cases h2 : p < i
    · rw [if_pos h2, if_pos (by omega)]
    · rw [if_neg h2, if_neg (by omega)]
theorem wstay {nx : Nat → List Int} {N K i : Nat} (h : (wK nx K i).testBit K = false) : ((List.range N).map fun p => ((if p < i then wK nx (K + 1) p else wK nx K p : Nat) : Int)) = (List.range N).map fun p => ((if p < i + 1 then wK nx (K + 1) p else wK nx K p : Nat) : Int) := by
  apply List.map_congr_left
  intro p _
  by_cases e : p = i
  · subst e
    rw [if_neg (by omega), if_pos (by omega), wK, if_neg (by rw [h]; simp)]
  · by_cases h2 : p < i
    · rw [if_pos h2, if_pos (by omega)]
    · rw [if_neg h2, if_neg (by omega)]
theorem wend {nx : Nat → List Int} {N K i : Nat} (h : N ≤ i) : ((List.range N).map fun p => ((if p < i then wK nx (K + 1) p else wK nx K p : Nat) : Int)) = (List.range N).map fun p => ((wK nx (K + 1) p : Nat) : Int) := by
  apply List.map_congr_left
  intro p hp
  have := List.mem_range.1 hp
  rw [if_pos (by omega)]
def rB (next : List (List Int)) (i k : Nat) : Bool := decide (0 ≤ atI (spreadOf (nxL next) next.length (ascL (nxL next i))) (k : Int))
def reachM (next : List (List Int)) : List (List Bool) := (List.range next.length).map fun i => (spreadOf (nxL next) next.length (ascL (nxL next i))).map fun d => decide (0 ≤ d)
theorem mem_ascL {l : List Int} {x : Int} : x ∈ ascL l ↔ x ∈ l := mem_setG
theorem rB_eq {next : List (List Int)} (hn : ∀ p, p < next.length → ∀ k ∈ nxL next p, 0 ≤ k ∧ k < next.length) {i k : Nat} (hi : i < next.length) (hk : k < next.length) : rB next i k = (wK (nxL next) next.length i).testBit k := by
  have hn0 : ∀ p, ∀ k ∈ nxL next p, 0 ≤ k := fun p k hk => by
    by_cases hp : p < next.length
    · exact (hn p hp k hk).1
    · unfold nxL at hk; rw [List.getElem?_eq_none (by omega)] at hk; cases hk
  have h1 := spread_vis hn (l := ascL (nxL next i)) (fun q hq => hn i hi q (mem_ascL.1 hq)) (j := (k : Int))
  have h2 := wK_full hn0 (fun p hp q hq => (hn p hp q hq).2) hi (j := k)
  have hl := (spread_ok hn (l := ascL (nxL next i)) (fun q hq => hn i hi q (mem_ascL.1 hq))).1
  rw [Bool.eq_iff_iff, h2]
  unfold rB R1
  rw [decide_eq_true_eq]
  have h3 : Rch (nxL next) (· ∈ ascL (nxL next i)) (k : Int) ↔ Rch (nxL next) (· ∈ nxL next i) (k : Int) := ⟨Rch.mono fun q hq => .base (mem_ascL.1 hq), Rch.mono fun q hq => .base (mem_ascL.2 hq)⟩
  rw [← h3, ← h1]
  unfold visI
  rw [hl]
  constructor
  · intro h; exact ⟨by omega, by omega, h⟩
  · intro h; exact h.2.2
theorem reachM_at {next : List (List Int)} (hn : ∀ p, p < next.length → ∀ k ∈ nxL next p, 0 ≤ k ∧ k < next.length) {i : Nat} (hi : i < next.length) : ∃ row, (reachM next)[i]? = some row ∧ ∀ k, k < next.length → row[k]? = some (rB next i k) := by
  refine ⟨_, by unfold reachM; exact range_get _ hi, fun k hk => ?_⟩
  have hl := (spread_ok hn (l := ascL (nxL next i)) (fun q hq => hn i hi q (mem_ascL.1 hq))).1
  rw [List.getElem?_map, show (spreadOf (nxL next) next.length (ascL (nxL next i)))[k]? = some (atI _ (k : Int)) from atI_get (k := (k : Int)) (by rw [hl]; simpa using hk)]
  rfl
def compRow (rel : Nat → Nat → Bool) (N i k : Nat) : List Int := (List.range N).map fun p => if repOf rel p < i then ((numOf rel p : Nat) : Int) else if p < k ∧ (p = i ∨ (i < p ∧ rel i p = true)) then ((cntRep rel i : Nat) : Int) else -1
section
variable {rel : Nat → Nat → Bool} {N i k : Nat}
theorem repOf_at (hs : ∀ a b, rel a b = true → rel b a = true) (ht : ∀ a b c, rel a b = true → rel b c = true → rel a c = true) (hi : repOf rel i = i) {p : Nat} (h : p = i ∨ (i < p ∧ rel i p = true)) : repOf rel p = i := by
  rcases h with rfl | ⟨h1, h2⟩
  · exact hi
  · rw [repOf_same hs ht (hs _ _ h2) h1, hi]
theorem compRow_skip (ht : ∀ a b c, rel a b = true → rel b c = true → rel a c = true) (hi : repOf rel i < i) : compRow rel N i i = compRow rel N (i + 1) (i + 1) := by
  apply List.map_congr_left
  intro p _
  have hne : repOf rel p ≠ i := fun e => by
    have h1 := repOf_rep ht p
    rw [e] at h1
    rcases repOf_spec (rel := rel) i with ⟨_, h2⟩ | ⟨h2, h3, _⟩
    · omega
    · rw [isRep_iff.1 h1 _ h2] at h3; cases h3
  by_cases h : repOf rel p < i
  · rw [if_pos h, if_pos (by omega)]
  · rw [if_neg h, if_neg (by omega), if_neg (by omega), if_neg (by omega)]
theorem compRow_set (hs : ∀ a b, rel a b = true → rel b a = true) (ht : ∀ a b c, rel a b = true → rel b c = true → rel a c = true) (hi : repOf rel i = i) (h : k = i ∨ (i < k ∧ rel i k = true)) : (compRow rel N i k).set k ((cntRep rel i : Nat) : Int) = compRow rel N i (k + 1) := by
  unfold compRow
  rw [range_set]
  apply List.map_congr_left
  intro p _
  by_cases e : p = k
  · subst e
    have := repOf_at hs ht hi h
    rw [if_pos rfl, if_neg (by omega), if_pos ⟨by omega, h⟩]
  · rw [if_neg e]
    have : p < k + 1 ↔ p < k := by omega
    simp only [this]
theorem compRow_stay (h : ¬ (k = i ∨ (i < k ∧ rel i k = true))) : compRow rel N i k = compRow rel N i (k + 1) := by
  apply List.map_congr_left
  intro p _
  by_cases e : p = k
  · subst e
    have h1 : ¬ (p < p ∧ (p = i ∨ i < p ∧ rel i p = true)) := fun h => by omega
    have h2 : ¬ (p < p + 1 ∧ (p = i ∨ i < p ∧ rel i p = true)) := fun h' => h h'.2
    rw [if_neg h1, if_neg h2]
  · have : p < k + 1 ↔ p < k := by omega
    simp only [this]
theorem compRow_next (hs : ∀ a b, rel a b = true → rel b a = true) (ht : ∀ a b c, rel a b = true → rel b c = true → rel a c = true) (hi : repOf rel i = i) (hk : N ≤ k) : compRow rel N i k = compRow rel N (i + 1) (i + 1) := by
  apply List.map_congr_left
  intro p hp
  have hp := List.mem_range.1 hp
  by_cases h : repOf rel p < i
  · rw [if_pos h, if_pos (by omega)]
  · rw [if_neg h]
    by_cases h2 : p = i ∨ (i < p ∧ rel i p = true)
    · have h3 := repOf_at hs ht hi h2
      rw [if_pos ⟨by omega, h2⟩, if_pos (by omega)]
      unfold numOf; rw [h3]
    · have h3 : repOf rel p ≠ i := fun e => by
        rcases repOf_spec (rel := rel) p with ⟨_, g⟩ | ⟨g1, g2, _⟩
        · exact h2 (.inl (g.symm.trans e))
        · rw [e] at g1 g2; exact h2 (.inr ⟨g1, hs _ _ g2⟩)
      have h4 : ¬ (p < k ∧ (p = i ∨ i < p ∧ rel i p = true)) := fun h' => h2 h'.2
      have h5 : ¬ (p < i + 1 ∧ (p = i + 1 ∨ i + 1 < p ∧ rel (i + 1) p = true)) := fun h' => by omega
      rw [if_neg h4, if_neg (by omega), if_neg h5]
theorem compRow_end (hN : N ≤ i) : compRow rel N i i = (List.range N).map fun p => ((numOf rel p : Nat) : Int) := by
  apply List.map_congr_left
  intro p hp
  have hp := List.mem_range.1 hp
  have := repOf_le (rel := rel) p
  rw [if_pos (by omega)]
end
def relN (next : List (List Int)) (i k : Nat) : Bool := (wK (nxL next) next.length i).testBit k && (wK (nxL next) next.length k).testBit i
theorem relN_symm (next : List (List Int)) (a b : Nat) (h : relN next a b = true) : relN next b a = true := by
  unfold relN at *
  rw [Bool.and_comm]; exact h
theorem relN_trans {next : List (List Int)} (hn : ∀ p, p < next.length → ∀ k ∈ nxL next p, 0 ≤ k ∧ k < next.length) (a b c : Nat) (h1 : relN next a b = true) (h2 : relN next b c = true) : relN next a c = true := by
  have hn0 : ∀ p, ∀ k ∈ nxL next p, 0 ≤ k ∧ k < next.length := fun p k hk => by
    by_cases hp : p < next.length
    · exact hn p hp k hk
    · unfold nxL at hk; rw [List.getElem?_eq_none (by omega)] at hk; cases hk
  unfold relN at *
  simp only [Bool.and_eq_true] at *
  have hb : b < next.length := by
    have h3 := wK_sound (fun p k hk => (hn0 p k hk).1) _ _ _ h1.1
    unfold R1 at h3
    cases h3 with
    | base h => have := hn0 _ _ h; omega
    | step _ h => have := hn0 _ _ h; omega
  exact ⟨wK_trans _ _ b a c hb h1.1 h2.1, wK_trans _ _ b c a hb h2.2 h1.2⟩
end Go.Q
namespace Go.Proofs.Ytbfejakbaijmhaa
open Go.RowKit Go.Q Go.D
theorem implreachable (next : List (List Int)) (hN : 1 ≤ next.length ∧ next.length ≤ 65536) (hn : ∀ p, p < next.length → ∀ k ∈ nxL next p, 0 ≤ k ∧ k < next.length) (hz : ∀ p, p < next.length → (nxL next p).length ≤ 65536) : FnT Try.prog 76 [.one (.sl 1 (next.map cIntS))] (.a (.one (.sl 1 ((reachM next).map cBoolS)))) := by
  refine FnT.walk Try.func76 rfl (by kernel_rfl) Try.ntmps76 rfl fun hlen w0 => ?_
  try simp [cPair, cToken, cExpr, cEdge, cGraph, cStep, cWalk, cChange, cBatch, cHistory, cPositions, cAutomaton, cProductStep, cPathAtom, cConjunction, cView, cDelta, cRegistered, cRegistry] at hlen
  have hrl : (reachM next).length = next.length := by unfold reachM; simp
  refine AW.seq ?_
  refine AW.region ?_
  refine AWl.put (R_assign rfl (.no rfl) rfl (.const rfl)) rfl ?_
  refine AWl.nilS (i := 2) 20001 1 rfl rfl ?_
  refine AWl.nil ?_
  refine AW.seq ?_
  refine AW.region ?_
  refine AWl.add (R_empty 9 rfl rfl rfl Try.underlying96 ty26 rfl) rfl ?_
  refine AWl.put (R_assign rfl (.no rfl) rfl (.tmp rfl fun _ => rfl)) rfl ?_
  refine AWl.nil ?_
  refine AW.seq ?_
  refine AW.seq ?_
  refine AW.region ?_
  refine AWl.put (R_move rfl (.no rfl) rfl (.tmp rfl fun _ => rfl)) rfl ?_
  refine AWl.put ((by exact R_lenm rfl (.no rfl) rfl (.tmp rfl fun _ => rfl) (by exact .t) Try.underlying27)) rfl ?_
  refine AWl.put (R_move rfl (.no rfl) rfl (.const rfl)) rfl ?_
  refine AWl.nil ?_
  refine AW.block ?_
  refine AW.loop1 (fun (i : Nat) => (i ≤ next.length) ∧ True) (fun (i : Nat) => ⟨_, [(12, (true, .a (.one (.t (.v (.int .i64 (i : Nat))))))), (3, (true, .a (.one (.rf 9)))), (0, _), (2, _), (10, _), (11, _)], [(9, .row 1 (((reachM next).take i).map cBoolS))]⟩) (fun (i : Nat) => next.length - i) (0) ⟨Nat.zero_le _, trivial⟩ (Le.sub0 rfl ⟨rfl, rfl, rfl, rfl, rfl, rfl, trivial⟩ ⟨rfl, trivial⟩) ?_
  rintro i ⟨hk, he⟩
  refine AW.seq ?_
  refine AW.region ?_
  refine AWl.put (R_lt rfl (.no rfl) rfl (.tmp rfl fun _ => rfl) (.tmp rfl fun _ => rfl)) rfl ?_
  refine AWl.nil ?_
  refine AW.seq ?_
  refine AW.cond (.tmp rfl fun _ => rfl) (fun h13 => ?_) (fun h13 => ?_)
  · skip
    try simp at h13
    obtain ⟨l, hl⟩ : ∃ ξ, next[i]? = some ξ := ⟨_, List.getElem?_eq_getElem (by omega)⟩
    have hln := nxL_at hl
    have hzl : l.length ≤ 65536 := by (rw [← hln]; exact hz i (by omega))
    have hal : (ascL l).length ≤ 65536 := Nat.le_trans (setG_len _) hzl
    have har : ∀ q ∈ ascL l, 0 ≤ q ∧ q < (next.length : Int) := fun q hq => hn i (by omega) q (by rw [hln]; exact mem_ascL.1 hq)
    have hso := spread_ok hn har
    have hrow : (reachM next)[i]? = some ((spreadOf (nxL next) next.length (ascL l)).map fun d => decide (0 ≤ d)) := by (unfold reachM; rw [range_get _ (by omega), hln])
    refine AW.skip ?_
    refine AW.seq ?_
    refine AW.block ?_
    refine AW.seq ?_
    refine AW.region ?_
    refine AWl.put ((by exact R_indexAddr rfl (.no rfl) rfl (.tmp rfl fun _ => rfl) (.tmp rfl fun _ => rfl) Try.underlying27 ty22 (fun _ => ⟨by omega, (by exact map_get hl)⟩))) rfl ?_
    refine AWl.put ((by exact R_load rfl (.no rfl) rfl (.tmp rfl fun _ => rfl) ty22 rfl rfl)) rfl ?_
    refine AWl.put (R_assign rfl (.no rfl) rfl (.tmp rfl fun _ => rfl)) rfl ?_
    refine AWl.nil ?_
    refine AW.seq ?_
    refine AW.region ?_
    refine AWl.add (R_empty 16 rfl rfl rfl Try.underlying26 ty4 rfl) rfl ?_
    refine AWl.put (R_assign rfl (.no rfl) rfl (.tmp rfl fun _ => rfl)) rfl ?_
    refine AWl.nil ?_
    refine AW.seq ?_
    refine AW.seq ?_
    refine AW.region ?_
    refine AWl.put (R_move rfl (.no rfl) rfl (.tmp rfl fun _ => rfl)) rfl ?_
    refine AWl.put (R_move rfl (.no rfl) rfl (.tmp rfl fun _ => rfl)) rfl ?_
    refine AWl.put (R_callz (FnT.fr (implascending l (by omega))) rfl (.no rfl) rfl (.cons (.tmp rfl fun _ => rfl) rfl .nil)) rfl ?_
    refine AWl.put (R_callz (FnT.fr (implspread next (ascL l) hN hn (fun p hp => Nat.le_trans (hz p hp) (by omega)) har hal)) rfl (.no rfl) rfl (.cons (.tmp rfl fun _ => rfl) rfl (.cons (.tmp rfl fun _ => rfl) rfl .nil))) rfl ?_
    refine AWl.put ((by exact R_lenm rfl (.no rfl) rfl (.tmp rfl fun _ => rfl) (by exact .t) Try.underlying22)) rfl ?_
    refine AWl.put (R_move rfl (.no rfl) rfl (.const rfl)) rfl ?_
    refine AWl.nil ?_
    refine AW.block ?_
    refine AW.loop1 (fun (j : Nat) => (j ≤ next.length) ∧ True) (fun (j : Nat) => ⟨_, [(22, (true, .a (.one (.t (.v (.int .i64 (j : Nat))))))), (6, (true, .a (.one (.rf 16)))), (0, _), (2, _), (3, _), (10, _), (11, _), (12, _), (20, _), (21, _)], [(16, .row 1 ((((spreadOf (nxL next) next.length (ascL l)).take j).map fun d => decide (0 ≤ d)).map cBool)), (9, .row 1 (((reachM next).take i).map cBoolS))]⟩) (fun (j : Nat) => next.length - j) (0) ⟨Nat.zero_le _, trivial⟩ (Le.sub0 rfl ⟨rfl, rfl, rfl, rfl, rfl, rfl, rfl, rfl, rfl, rfl, trivial⟩ ⟨rfl, rfl, trivial⟩) ?_
    rintro j ⟨hk1, he1⟩
    refine AW.seq ?_
    refine AW.region ?_
    refine AWl.put (R_lt rfl (.no rfl) rfl (.tmp rfl fun _ => rfl) (.tmp rfl fun _ => rfl)) rfl ?_
    refine AWl.nil ?_
    refine AW.seq ?_
    refine AW.cond (.tmp rfl fun _ => rfl) (fun h23 => ?_) (fun h23 => ?_)
    · skip
      try simp at h23
      obtain ⟨d, hd0⟩ : ∃ ξ, (spreadOf (nxL next) next.length (ascL l))[j]? = some ξ := ⟨_, List.getElem?_eq_getElem (by omega)⟩
      refine AW.skip ?_
      refine AW.seq ?_
      refine AW.block ?_
      refine AW.seq ?_
      refine AW.region ?_
      refine AWl.put ((by exact R_indexAddr rfl (.no rfl) rfl (.tmp rfl fun _ => rfl) (.tmp rfl fun _ => rfl) Try.underlying22 ty3 (fun _ => ⟨by omega, (by exact map_get hd0)⟩))) rfl ?_
      refine AWl.put ((by exact R_load rfl (.no rfl) rfl (.tmp rfl fun _ => rfl) ty3 rfl rfl)) rfl ?_
      refine AWl.put (R_assign rfl (.no rfl) rfl (.tmp rfl fun _ => rfl)) rfl ?_
      refine AWl.nil ?_
      refine AW.region ?_
      refine AWl.put (R_move rfl (.no rfl) rfl (.tmp rfl fun _ => rfl)) rfl ?_
      refine AWl.put (R_move rfl (.no rfl) rfl (.tmp rfl fun _ => rfl)) rfl ?_
      refine AWl.put (R_ge rfl (.no rfl) rfl (.tmp rfl fun _ => rfl) (.const rfl)) rfl ?_
      refine AWl.put (R_listz (xs := [.tmp 28]) (rows := [cBool (decide (0 ≤ d))]) rfl rfl rfl (.cons (.tmp rfl fun _ => rfl) rfl rfl .nil) Try.underlying26 in4 rfl rfl (rfl)) rfl ?_
      refine AWl.chgput (R_append rfl rfl rfl (.tmp rfl fun _ => rfl) rfl (.tmp rfl fun _ => rfl) (by exact .t) (by rfl) Try.underlying26 in4 rfl (by (simp [chunk]; omega)) (by (unfold maxLen; simp [chunk]; omega))) rfl ?_
      refine AWl.le (σ' := ⟨_, [(0, _), (2, _), (3, _), (6, _), (8, _), (10, _), (11, _), (12, _), (20, _), (21, _), (22, _), (23, _), (30, _)], [(16, _), (9, _)]⟩) (Le.sub0 rfl ⟨rfl, rfl, rfl, rfl, rfl, rfl, rfl, rfl, rfl, rfl, rfl, rfl, rfl, trivial⟩ ⟨rfl, rfl, trivial⟩) ?_
      refine AWl.put (R_assign rfl (.no rfl) rfl (.tmp rfl fun _ => rfl)) rfl ?_
      refine AWl.nil ?_
      refine AW.region ?_
      refine AWl.put (R_add rfl (.no rfl) rfl (.tmp rfl fun _ => rfl) (.const rfl) (fun _ => by omega)) rfl ?_
      refine AWl.put (R_move rfl (.no rfl) rfl (.tmp rfl fun _ => rfl)) rfl ?_
      refine AWl.nil ?_
      repeat (with_reducible refine BlockQ.nor ?_)
      refine Round1.next (j + 1) ⟨by omega, trivial⟩ (by omega) (Le.sub0 rfl ⟨rfl, rfl, rfl, rfl, rfl, rfl, rfl, rfl, rfl, rfl, trivial⟩ ⟨(by refine congrArg (fun r => some (R.row 1 r)) ?_; rw [take_at hd0]; simp [chunk]), (by refine congrArg (fun r => some (R.row 1 r)) ?_; first | rfl | (rw [take_at hrow, List.take_of_length_le (l := spreadOf (nxL next) next.length (ascL l)) (by omega)]; simp [cBoolS, chunk]; done)), trivial⟩)
    · skip
      try simp at h23
      refine AW.exit ?_
      refine AW.region ?_
      refine AWl.put (R_move rfl (.no rfl) rfl (.tmp rfl fun _ => rfl)) rfl ?_
      refine AWl.put (R_move rfl (.no rfl) rfl (.tmp rfl fun _ => rfl)) rfl ?_
      refine AWl.absadd (R_list (xs := [.tmp 33]) 34 rfl rfl rfl (.cons (.tmp rfl fun _ => rfl) rfl rfl .nil) Try.underlying96 in26 rfl rfl rfl rfl) rfl ?_
      refine AWl.abschgput (R_append_own rfl rfl rfl (.tmp rfl fun _ => rfl) rfl (.tmp rfl fun _ => rfl) rfl rfl Try.underlying96 in26 rfl (by (simp [chunk]; omega)) (by (unfold maxLen; simp [chunk]; omega))) rfl ?_
      refine AWl.le (σ' := ⟨_, [(0, _), (2, _), (3, _), (6, _), (10, _), (11, _), (12, _), (20, _), (21, _), (22, _), (23, _), (35, _)], [(9, _)]⟩) (Le.sub0 rfl ⟨rfl, rfl, rfl, rfl, rfl, rfl, rfl, rfl, rfl, rfl, rfl, rfl, trivial⟩ ⟨rfl, trivial⟩) ?_
      refine AWl.put (R_assign rfl (.no rfl) rfl (.tmp rfl fun _ => rfl)) rfl ?_
      refine AWl.nil ?_
      refine AW.region ?_
      refine AWl.put (R_add rfl (.no rfl) rfl (.tmp rfl fun _ => rfl) (.const rfl) (fun _ => by omega)) rfl ?_
      refine AWl.put (R_move rfl (.no rfl) rfl (.tmp rfl fun _ => rfl)) rfl ?_
      refine AWl.nil ?_
      repeat (with_reducible refine BlockQ.nor ?_)
      refine Round1.next (i + 1) ⟨by omega, trivial⟩ (by omega) (Le.sub0 rfl ⟨rfl, rfl, rfl, rfl, rfl, rfl, trivial⟩ ⟨(by refine congrArg (fun r => some (R.row 1 r)) ?_; first | rfl | (rw [take_at hrow, List.take_of_length_le (l := spreadOf (nxL next) next.length (ascL l)) (by omega)]; simp [cBoolS, chunk]; done)), trivial⟩)
  · skip
    try simp at h13
    refine AW.exit ?_
    refine AW.seq ?_
    refine AW.region ?_
    refine AWl.put (R_move rfl (.no rfl) rfl (.tmp rfl fun _ => rfl)) rfl ?_
    refine AWl.put (R_assign rfl (.no rfl) rfl (.tmp rfl fun _ => rfl)) rfl ?_
    refine AWl.nil ?_
    refine AW.ret ?_
    refine Res.one rfl (.tmp rfl .nil) rfl ?_
    rw [List.take_of_length_le (by omega)]; rfl
theorem implcomponents (next : List (List Int)) (hN : 1 ≤ next.length ∧ next.length ≤ 65536) (hn : ∀ p, p < next.length → ∀ k ∈ nxL next p, 0 ≤ k ∧ k < next.length) (hz : ∀ p, p < next.length → (nxL next p).length ≤ 65536) : FnT Try.prog 65 [.one (.sl 1 (next.map cIntS))] (.a (.one (.sl 1 (((List.range next.length).map fun p => ((numOf (relN next) p : Nat) : Int)).map cInt)))) := by
  refine FnT.walk Try.func65 rfl (by kernel_rfl) Try.ntmps65 rfl fun hlen w0 => ?_
  try simp [cPair, cToken, cExpr, cEdge, cGraph, cStep, cWalk, cChange, cBatch, cHistory, cPositions, cAutomaton, cProductStep, cPathAtom, cConjunction, cView, cDelta, cRegistered, cRegistry] at hlen
  have hs := relN_symm next
  have ht := relN_trans hn
  refine AW.seq ?_
  refine AW.region ?_
  refine AWl.put (R_assign rfl (.no rfl) rfl (.const rfl)) rfl ?_
  refine AWl.nilS (i := 2) 20001 1 rfl rfl ?_
  refine AWl.nil ?_
  refine AW.seq ?_
  refine AW.region ?_
  refine AWl.put (R_move rfl (.no rfl) rfl (.tmp rfl fun _ => rfl)) rfl ?_
  refine AWl.put (R_callz (FnT.fr (implreachable next hN hn hz)) rfl (.no rfl) rfl (.cons (.tmp rfl fun _ => rfl) rfl .nil)) rfl ?_
  refine AWl.put (R_assign rfl (.no rfl) rfl (.tmp rfl fun _ => rfl)) rfl ?_
  refine AWl.nil ?_
  refine AW.seq ?_
  refine AW.region ?_
  refine AWl.put (R_listz (xs := [.const (.int .i64 (-1))]) (rows := [cInt (-1)]) rfl rfl rfl (.cons (.const rfl) rfl rfl .nil) Try.underlying22 in3 rfl rfl (rfl)) rfl ?_
  refine AWl.put (R_move rfl (.no rfl) rfl (.tmp rfl fun _ => rfl)) rfl ?_
  refine AWl.put ((by exact R_lenm rfl (.no rfl) rfl (.tmp rfl fun _ => rfl) (by exact .t) Try.underlying27)) rfl ?_
  refine AWl.adds (R_call 1300 (slicesRepeat1 (-1) next.length hN.1 hN.2) rfl rfl rfl (.cons (.tmp rfl fun _ => rfl) rfl (.cons (.tmp rfl fun _ => rfl) rfl .nil)) rfl rfl) rfl ?_
  refine AWl.put (R_assign rfl (.no rfl) rfl (.tmp rfl fun _ => rfl)) rfl ?_
  refine AWl.nil ?_
  refine AW.seq ?_
  refine AW.le (σ' := ⟨_, [(0, _), (2, _), (3, _), (4, _)], [(20001, _), (1300, _)]⟩) (Le.sub0 rfl ⟨rfl, rfl, rfl, rfl, trivial⟩ ⟨rfl, rfl, trivial⟩) ?_
  refine AW.region ?_
  refine AWl.put (R_assign rfl (.no rfl) rfl (.const rfl)) rfl ?_
  refine AWl.nil ?_
  refine AW.seq ?_
  refine AW.seq ?_
  refine AW.region ?_
  refine AWl.put (R_move rfl (.no rfl) rfl (.tmp rfl fun _ => rfl)) rfl ?_
  refine AWl.put ((by exact R_lenm rfl (.no rfl) rfl (.tmp rfl fun _ => rfl) (by exact .t) Try.underlying27)) rfl ?_
  refine AWl.put (R_move rfl (.no rfl) rfl (.const rfl)) rfl ?_
  refine AWl.nil ?_
  refine AW.block ?_
  refine AW.loop2 (fun (i : Nat) (n : Nat) => (i ≤ next.length ∧ n = cntRep (relN next) i) ∧ True) (fun (i : Nat) (n : Nat) => ⟨_, [(16, (true, .a (.one (.t (.v (.int .i64 (i : Nat))))))), (5, (true, .a (.one (.t (.v (.int .i64 (n : Nat))))))), (0, _), (2, _), (3, _), (4, _), (15, _)], [(1300, .row 1 ((compRow (relN next) next.length i i).map cInt))]⟩) (fun (i : Nat) (n : Nat) => next.length - i) (0) (0) ⟨⟨Nat.zero_le _, rfl⟩, trivial⟩ (Le.sub0 rfl ⟨rfl, rfl, rfl, rfl, rfl, rfl, rfl, trivial⟩ ⟨(by refine congrArg (fun r => some (R.row 1 r)) ?_; first | rfl | (unfold compRow; apply List.ext_getElem <;> simp; done)), trivial⟩) ?_
  rintro i n ⟨hk, he⟩
  refine AW.seq ?_
  refine AW.region ?_
  refine AWl.put (R_lt rfl (.no rfl) rfl (.tmp rfl fun _ => rfl) (.tmp rfl fun _ => rfl)) rfl ?_
  refine AWl.nil ?_
  refine AW.seq ?_
  refine AW.cond (.tmp rfl fun _ => rfl) (fun h17 => ?_) (fun h17 => ?_)
  · skip
    try simp at h17
    have hcl := cntRep_le (rel := relN next) i
    have hgi : (compRow (relN next) next.length i i)[i]? = some (if repOf (relN next) i < i then ((numOf (relN next) i : Nat) : Int) else -1) := by (unfold compRow; rw [range_get _ (by omega)]; congr 1; split; rfl; rw [if_neg (by omega)])
    refine AW.skip ?_
    refine AW.seq ?_
    refine AW.block ?_
    refine AW.seq ?_
    refine AW.region ?_
    refine AWl.put (R_move rfl (.no rfl) rfl (.tmp rfl fun _ => rfl)) rfl ?_
    refine AWl.put (R_assign rfl (.no rfl) rfl (.tmp rfl fun _ => rfl)) rfl ?_
    refine AWl.nil ?_
    refine AW.seq ?_
    refine AW.seq ?_
    refine AW.region ?_
    refine AWl.put (R_move rfl (.no rfl) rfl (.tmp rfl fun _ => rfl)) rfl ?_
    refine AWl.put (R_move rfl (.no rfl) rfl (.tmp rfl fun _ => rfl)) rfl ?_
    refine AWl.put ((by exact R_indexAddr_rf rfl (.no rfl) rfl (.tmp rfl fun _ => rfl) rfl (.tmp rfl fun _ => rfl) Try.underlying22 ty3 (fun _ => ⟨by omega, (by exact map_get hgi)⟩))) rfl ?_
    refine AWl.put ((by exact R_load_pr rfl (.no rfl) rfl (.tmp rfl fun _ => rfl) rfl (by exact map_get hgi) ty3 rfl rfl)) rfl ?_
    refine AWl.put (R_ge rfl (.no rfl) rfl (.tmp rfl fun _ => rfl) (.const rfl)) rfl ?_
    refine AWl.nil ?_
    refine AW.cond (.tmp rfl fun _ => rfl) (fun h23 => ?_) (fun h23 => ?_)
    · skip
      try simp at h23
      have hri : repOf (relN next) i < i := by (by_cases h : repOf (relN next) i < i; exact h; (rw [if_neg h] at h23; omega))
      have hnr : isRep (relN next) i = false := by (rcases repOf_spec (rel := relN next) i with ⟨_, h⟩ | ⟨h1, h2, _⟩; omega; (cases hr : isRep (relN next) i with | false => rfl | true => (rw [isRep_iff.1 hr _ h1] at h2; cases h2)))
      refine AW.exit ?_
      refine AW.le (σ' := ⟨_, [(0, _), (2, _), (3, _), (4, _), (5, _), (6, _), (15, _), (16, _)], [(1300, _)]⟩) (Le.sub0 rfl ⟨rfl, rfl, rfl, rfl, rfl, rfl, rfl, rfl, trivial⟩ ⟨rfl, trivial⟩) ?_
      refine AW.region ?_
      refine AWl.put (R_add rfl (.no rfl) rfl (.tmp rfl fun _ => rfl) (.const rfl) (fun _ => by omega)) rfl ?_
      refine AWl.put (R_move rfl (.no rfl) rfl (.tmp rfl fun _ => rfl)) rfl ?_
      refine AWl.nil ?_
      repeat (with_reducible refine BlockQ.nor ?_)
      refine Round2.next (i + 1) (n) ⟨⟨by omega, by rw [hk.2, cntRep_succ, hnr]; rfl⟩, trivial⟩ (by omega) (Le.sub0 rfl ⟨rfl, rfl, rfl, rfl, rfl, rfl, rfl, trivial⟩ ⟨(by refine congrArg (fun r => some (R.row 1 r)) ?_; first | (rw [← compRow_set hs ht hyr.2 hsel, hk.2]; simp [List.map_set, cInt]; done) | (rw [← compRow_stay hsel]; done) | (rw [compRow_skip ht hri]; done) | (rw [compRow_next hs ht hyr.2 (by omega)]; done)), trivial⟩)
    · skip
      try simp at h23
      have hri : ¬ repOf (relN next) i < i := fun h => by (rw [if_pos h] at h23; omega)
      have hyr : isRep (relN next) i = true ∧ repOf (relN next) i = i := by (rcases repOf_spec (rel := relN next) i with h | ⟨h1, _, _⟩; exact h; omega)
      refine AW.skip ?_
      refine AW.seq ?_
      refine AW.seq ?_
      refine AW.le (σ' := ⟨_, [(0, _), (2, _), (3, _), (4, _), (5, _), (6, _), (15, _), (16, _)], [(1300, _)]⟩) (Le.sub0 rfl ⟨rfl, rfl, rfl, rfl, rfl, rfl, rfl, rfl, trivial⟩ ⟨rfl, trivial⟩) ?_
      refine AW.region ?_
      refine AWl.put (R_move rfl (.no rfl) rfl (.tmp rfl fun _ => rfl)) rfl ?_
      refine AWl.put (R_assign rfl (.no rfl) rfl (.tmp rfl fun _ => rfl)) rfl ?_
      refine AWl.nil ?_
      refine AW.block ?_
      refine AW.loop1 (fun (k : Nat) => (i ≤ k ∧ k ≤ next.length) ∧ True) (fun (k : Nat) => ⟨_, [(7, (true, .a (.one (.t (.v (.int .i64 (k : Nat))))))), (0, _), (2, _), (3, _), (4, _), (5, _), (6, _), (15, _), (16, _)], [(1300, .row 1 ((compRow (relN next) next.length i k).map cInt))]⟩) (fun (k : Nat) => next.length - k) (i) ⟨⟨Nat.le_refl _, by omega⟩, trivial⟩ (Le.sub0 rfl ⟨rfl, rfl, rfl, rfl, rfl, rfl, rfl, rfl, rfl, trivial⟩ ⟨(by refine congrArg (fun r => some (R.row 1 r)) ?_; first | rfl | (unfold compRow; apply List.ext_getElem <;> simp; done)), trivial⟩) ?_
      rintro k ⟨hk1, he1⟩
      refine AW.seq ?_
      refine AW.seq ?_
      refine AW.region ?_
      refine AWl.put (R_move rfl (.no rfl) rfl (.tmp rfl fun _ => rfl)) rfl ?_
      refine AWl.put (R_move rfl (.no rfl) rfl (.tmp rfl fun _ => rfl)) rfl ?_
      refine AWl.put ((by exact R_lenm rfl (.no rfl) rfl (.tmp rfl fun _ => rfl) (by exact .t) Try.underlying27)) rfl ?_
      refine AWl.put (R_lt rfl (.no rfl) rfl (.tmp rfl fun _ => rfl) (.tmp rfl fun _ => rfl)) rfl ?_
      refine AWl.nil ?_
      refine AW.cond (.tmp rfl fun _ => rfl) (fun h28 => ?_) (fun h28 => ?_)
      · skip
        try simp at h28
        obtain ⟨ri, hri1, hri2⟩ := reachM_at hn (i := i) (by omega)
        obtain ⟨rk, hrk1, hrk2⟩ := reachM_at hn (i := k) (by omega)
        have hb1 := hri2 k (by omega)
        have hb2 := hrk2 i (by omega)
        have hrel : relN next i k = (rB next i k && rB next k i) := by (rw [rB_eq hn (by omega) (by omega), rB_eq hn (by omega) (by omega)]; rfl)
        obtain ⟨ok, hok⟩ : ∃ ξ, (compRow (relN next) next.length i k)[k]? = some ξ := ⟨_, List.getElem?_eq_getElem (by unfold compRow; simp; omega)⟩
        refine AW.skip ?_
        refine AW.seq ?_
        refine AW.block ?_
        refine AW.seq ?_
        refine AW.region ?_
        refine AWl.put (R_move rfl (.no rfl) rfl (.tmp rfl fun _ => rfl)) rfl ?_
        refine AWl.put (R_move rfl (.no rfl) rfl (.tmp rfl fun _ => rfl)) rfl ?_
        refine AWl.put (R_eq rfl (.no rfl) rfl (.tmp rfl fun _ => rfl) (.tmp rfl fun _ => rfl)) rfl ?_
        refine AWl.put (R_move rfl (.no rfl) rfl (.tmp rfl fun _ => rfl)) rfl ?_
        refine AWl.put (R_move rfl (by exact .not1 rfl rfl rfl rfl) rfl (.tmp rfl (by exact fun _ => rfl))) rfl ?_
        refine AWl.put (R_move rfl (by exact .not1 rfl rfl rfl rfl) rfl (.tmp rfl (by exact fun _ => rfl))) rfl ?_
        refine AWl.put ((by exact R_indexAddr rfl (by exact .not1 rfl rfl rfl rfl) rfl (.tmp rfl (by exact id)) (.tmp rfl (by exact id)) Try.underlying96 ty26 (fun hq => by (try simp at hq); exact ⟨by omega, (by exact map_get hri1)⟩))) rfl ?_
        refine AWl.put ((by exact R_load rfl (by exact .not1 rfl rfl rfl rfl) rfl (.tmp rfl (by exact id)) ty26 rfl rfl)) rfl ?_
        refine AWl.put (R_move rfl (by exact .not1 rfl rfl rfl rfl) rfl (.tmp rfl (by exact fun _ => rfl))) rfl ?_
        refine AWl.put ((by exact R_indexAddr rfl (by exact .not1 rfl rfl rfl rfl) rfl (.tmp rfl (by exact id)) (.tmp rfl (by exact id)) Try.underlying26 ty4 (fun hq => by (try simp at hq); exact ⟨by omega, (by exact map_get hb1)⟩))) rfl ?_
        refine AWl.put ((by exact R_load rfl (by exact .not1 rfl rfl rfl rfl) rfl (.tmp rfl (by exact id)) ty4 rfl rfl)) rfl ?_
        refine AWl.put (R_move rfl (by exact .not1 rfl rfl rfl rfl) rfl (.tmp rfl (by exact id))) rfl ?_
        refine AWl.put (R_move rfl (by exact .yes rfl rfl rfl rfl) rfl (.tmp rfl (by exact fun _ => rfl))) rfl ?_
        refine AWl.put (R_move rfl (by exact .yes rfl rfl rfl rfl) rfl (.tmp rfl (by exact fun _ => rfl))) rfl ?_
        refine AWl.put ((by exact R_indexAddr rfl (by exact .yes rfl rfl rfl rfl) rfl (.tmp rfl (by exact id)) (.tmp rfl (by exact id)) Try.underlying96 ty26 (fun hq => by (try simp at hq); exact ⟨by omega, (by exact map_get hrk1)⟩))) rfl ?_
        refine AWl.put ((by exact R_load rfl (by exact .yes rfl rfl rfl rfl) rfl (.tmp rfl (by exact id)) ty26 rfl rfl)) rfl ?_
        refine AWl.put (R_move rfl (by exact .yes rfl rfl rfl rfl) rfl (.tmp rfl (by exact fun _ => rfl))) rfl ?_
        refine AWl.put ((by exact R_indexAddr rfl (by exact .yes rfl rfl rfl rfl) rfl (.tmp rfl (by exact id)) (.tmp rfl (by exact id)) Try.underlying26 ty4 (fun hq => by (try simp at hq); exact ⟨by omega, (by exact map_get hb2)⟩))) rfl ?_
        refine AWl.put ((by exact R_load rfl (by exact .yes rfl rfl rfl rfl) rfl (.tmp rfl (by exact id)) ty4 rfl rfl)) rfl ?_
        refine AWl.put (R_and rfl (by exact .not1 rfl rfl rfl rfl) rfl (.tmp rfl (by exact id)) (.tmp rfl (by exact id))) rfl ?_
        refine AWl.put (R_or rfl (.no rfl) rfl (.tmp rfl fun _ => rfl) (.tmp rfl (by exact id))) rfl ?_
        refine AWl.nil ?_
        refine AW.cond (.tmp rfl fun _ => rfl) (fun h51 => ?_) (fun h51 => ?_)
        · skip
          try simp at h51
          have hsel : k = i ∨ (i < k ∧ relN next i k = true) := by (rcases h51 with h | ⟨h1, h2⟩; exact .inl (by omega); (by_cases e : k = i; exact .inl e; exact .inr ⟨by omega, by rw [hrel, h1, h2]; rfl⟩))
          refine AW.le (σ' := ⟨_, [(0, _), (2, _), (3, _), (4, _), (5, _), (6, _), (7, _), (15, _), (16, _)], [(1300, _)]⟩) (Le.sub0 rfl ⟨rfl, rfl, rfl, rfl, rfl, rfl, rfl, rfl, rfl, trivial⟩ ⟨rfl, trivial⟩) ?_
          refine AW.region ?_
          refine AWl.put (R_move rfl (.no rfl) rfl (.tmp rfl fun _ => rfl)) rfl ?_
          refine AWl.put (R_move rfl (.no rfl) rfl (.tmp rfl fun _ => rfl)) rfl ?_
          refine AWl.put (R_move rfl (.no rfl) rfl (.tmp rfl fun _ => rfl)) rfl ?_
          refine AWl.put ((by exact R_indexAddr_rf rfl (.no rfl) rfl (.tmp rfl fun _ => rfl) rfl (.tmp rfl fun _ => rfl) Try.underlying22 ty3 (fun _ => ⟨by omega, (by exact map_get hok)⟩))) rfl ?_
          refine AWl.absupd (R_store_pr rfl rfl rfl (.tmp rfl fun _ => rfl) rfl (.tmp rfl fun _ => rfl) rfl (by exact map_get hok) ty3 rfl rfl rfl rfl) ?_
          refine AWl.nil ?_
          refine AW.region ?_
          refine AWl.put (R_move rfl (.no rfl) rfl (.tmp rfl fun _ => rfl)) rfl ?_
          refine AWl.put (R_add rfl (.no rfl) rfl (.tmp rfl fun _ => rfl) (.const rfl) (fun _ => by omega)) rfl ?_
          refine AWl.put (R_assign rfl (.no rfl) rfl (.tmp rfl fun _ => rfl)) rfl ?_
          refine AWl.nil ?_
          repeat (with_reducible refine BlockQ.nor ?_)
          refine Round1.next (k + 1) ⟨⟨by omega, by omega⟩, trivial⟩ (by omega) (Le.sub0 rfl ⟨rfl, rfl, rfl, rfl, rfl, rfl, rfl, rfl, rfl, trivial⟩ ⟨(by refine congrArg (fun r => some (R.row 1 r)) ?_; first | (rw [← compRow_set hs ht hyr.2 hsel, hk.2]; simp [List.map_set, cInt]; done) | (rw [← compRow_stay hsel]; done) | (rw [compRow_skip ht hri]; done) | (rw [compRow_next hs ht hyr.2 (by omega)]; done)), trivial⟩)
        · skip
          try simp at h51
          have hsel : ¬ (k = i ∨ (i < k ∧ relN next i k = true)) := fun h => by (rcases h with h | ⟨h1, h2⟩; exact h51.1 (by omega); (rw [hrel, Bool.and_eq_true] at h2; rw [h51.2 h2.1] at h2; exact absurd h2.2 (by simp)))
          refine AW.skip ?_
          refine AW.le (σ' := ⟨_, [(0, _), (2, _), (3, _), (4, _), (5, _), (6, _), (7, _), (15, _), (16, _)], [(1300, _)]⟩) (Le.sub0 rfl ⟨rfl, rfl, rfl, rfl, rfl, rfl, rfl, rfl, rfl, trivial⟩ ⟨rfl, trivial⟩) ?_
          refine AW.region ?_
          refine AWl.put (R_move rfl (.no rfl) rfl (.tmp rfl fun _ => rfl)) rfl ?_
          refine AWl.put (R_add rfl (.no rfl) rfl (.tmp rfl fun _ => rfl) (.const rfl) (fun _ => by omega)) rfl ?_
          refine AWl.put (R_assign rfl (.no rfl) rfl (.tmp rfl fun _ => rfl)) rfl ?_
          refine AWl.nil ?_
          repeat (with_reducible refine BlockQ.nor ?_)
          refine Round1.next (k + 1) ⟨⟨by omega, by omega⟩, trivial⟩ (by omega) (Le.sub0 rfl ⟨rfl, rfl, rfl, rfl, rfl, rfl, rfl, rfl, rfl, trivial⟩ ⟨(by refine congrArg (fun r => some (R.row 1 r)) ?_; first | (rw [← compRow_set hs ht hyr.2 hsel, hk.2]; simp [List.map_set, cInt]; done) | (rw [← compRow_stay hsel]; done) | (rw [compRow_skip ht hri]; done) | (rw [compRow_next hs ht hyr.2 (by omega)]; done)), trivial⟩)
      · skip
        try simp at h28
        refine AW.exit ?_
        refine AW.region ?_
        refine AWl.put (R_move rfl (.no rfl) rfl (.tmp rfl fun _ => rfl)) rfl ?_
        refine AWl.put (R_add rfl (.no rfl) rfl (.tmp rfl fun _ => rfl) (.const rfl) (fun _ => by omega)) rfl ?_
        refine AWl.put (R_assign rfl (.no rfl) rfl (.tmp rfl fun _ => rfl)) rfl ?_
        refine AWl.nil ?_
        refine AW.le (σ' := ⟨_, [(0, _), (2, _), (3, _), (4, _), (5, _), (6, _), (7, _), (15, _), (16, _)], [(1300, _)]⟩) (Le.sub0 rfl ⟨rfl, rfl, rfl, rfl, rfl, rfl, rfl, rfl, rfl, trivial⟩ ⟨rfl, trivial⟩) ?_
        refine AW.region ?_
        refine AWl.put (R_add rfl (.no rfl) rfl (.tmp rfl fun _ => rfl) (.const rfl) (fun _ => by omega)) rfl ?_
        refine AWl.put (R_move rfl (.no rfl) rfl (.tmp rfl fun _ => rfl)) rfl ?_
        refine AWl.nil ?_
        repeat (with_reducible refine BlockQ.nor ?_)
        refine Round2.next (i + 1) (n + 1) ⟨⟨by omega, by rw [hk.2, cntRep_succ, hyr.1]; rfl⟩, trivial⟩ (by omega) (Le.sub0 rfl ⟨rfl, rfl, rfl, rfl, rfl, rfl, rfl, trivial⟩ ⟨(by refine congrArg (fun r => some (R.row 1 r)) ?_; first | (rw [← compRow_set hs ht hyr.2 hsel, hk.2]; simp [List.map_set, cInt]; done) | (rw [← compRow_stay hsel]; done) | (rw [compRow_skip ht hri]; done) | (rw [compRow_next hs ht hyr.2 (by omega)]; done)), trivial⟩)
  · skip
    try simp at h17
    refine AW.exit ?_
    refine AW.seq ?_
    refine AW.region ?_
    refine AWl.put (R_move rfl (.no rfl) rfl (.tmp rfl fun _ => rfl)) rfl ?_
    refine AWl.put (R_assign rfl (.no rfl) rfl (.tmp rfl fun _ => rfl)) rfl ?_
    refine AWl.nil ?_
    refine AW.ret ?_
    refine Res.one rfl (.tmp rfl .nil) rfl ?_
    rw [compRow_end (by omega)]; rfl
end Go.Proofs.Ytbfejakbaijmhaa
