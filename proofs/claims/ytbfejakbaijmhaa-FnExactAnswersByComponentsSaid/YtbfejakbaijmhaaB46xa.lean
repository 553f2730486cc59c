/- The answers of an automaton from a node, and all of them: both texts. -/
import Derived.Test.YtbfejakbaijmhaaB38xa
import Derived.Test.YtbfejakbaijmhaaB35xa
set_option linter.unusedVariables false
set_option linter.unusedSimpArgs false
set_option maxHeartbeats 1000000
set_option maxRecDepth 100000
namespace Go.Q
open Go.D
def hitB (g : TGraph) (a : TAutomaton) (RK : List Int) (p : Nat) : Bool := decide (0 ≤ atI RK (p : Int)) && acc a ((p : Int) % (a.Accept.length : Int)) (g.Values[((p : Int) / (a.Accept.length : Int)).toNat]?.getD 0)
def hitsN (g : TGraph) (a : TAutomaton) (RK : List Int) (i : Nat) : List Int := ((List.range i).filter (hitB g a RK)).map fun (p : Nat) => (p : Int) / (a.Accept.length : Int)
theorem hitsN_succ (g : TGraph) (a : TAutomaton) (RK : List Int) (i : Nat) : hitsN g a RK (i + 1) = hitsN g a RK i ++ if hitB g a RK i then [(i : Int) / (a.Accept.length : Int)] else [] := by
  unfold hitsN
  rw [range_filter_succ, List.map_append]
  cases hitB g a RK i <;> rfl
theorem hitsN_len (g : TGraph) (a : TAutomaton) (RK : List Int) (i : Nat) : (hitsN g a RK i).length ≤ i := by
  unfold hitsN
  rw [List.length_map]
  exact Nat.le_trans (List.length_filter_le _ _) (by simp)
def ansL (g : TGraph) (a : TAutomaton) (x : Int) : List Int := ascL (hitsN g a (ranksOf g a x) (a.Accept.length * g.Values.length))
theorem ansL_len {g : TGraph} {a : TAutomaton} (ha : validA a = true) (hg : validG g = true) (x : Int) : (ansL g a x).length ≤ 60 := Nat.le_trans (setG_len _) (Nat.le_trans (hitsN_len _ _ _ _) (prod_le ha hg).2)
def allTo (g : TGraph) (a : TAutomaton) (i : Nat) : List TPair := (List.range i).flatMap fun (x : Nat) => (ansL g a x).map fun y => ⟨(x : Int), y⟩
theorem allTo_succ (g : TGraph) (a : TAutomaton) (i : Nat) : allTo g a (i + 1) = allTo g a i ++ (ansL g a i).map fun y => ⟨(i : Int), y⟩ := by
  unfold allTo
  rw [List.range_succ, List.flatMap_append]; simp
def allAns (g : TGraph) (a : TAutomaton) : List TPair := if goodC g a then allTo g a g.Values.length else []
theorem mem_allTo {g : TGraph} {a : TAutomaton} {i : Nat} {p : TPair} : p ∈ allTo g a i ↔ (0 ≤ p.From ∧ p.From < i) ∧ p.To ∈ ansL g a p.From := by
  unfold allTo
  simp only [List.mem_flatMap, List.mem_range, List.mem_map]
  constructor
  · rintro ⟨x, hx, y, hy, rfl⟩
    exact ⟨⟨by simp, by simpa using hx⟩, hy⟩
  · rintro ⟨h1, h2⟩
    have e : ((p.From.toNat : Nat) : Int) = p.From := by omega
    exact ⟨p.From.toNat, by omega, p.To, by rw [e]; exact h2, by rw [e]⟩
theorem allTo_strict (g : TGraph) (a : TAutomaton) : ∀ i, StrictS pless (allTo g a i)
  | 0 => by unfold allTo StrictS; simp
  | i + 1 => by
    rw [allTo_succ]
    unfold StrictS
    rw [List.pairwise_append]
    refine ⟨allTo_strict g a i, ?_, ?_⟩
    · rw [List.pairwise_map]
      refine List.Pairwise.imp ?_ (setG_strict ltI_so (hitsN g a (ranksOf g a i) (a.Accept.length * g.Values.length)))
      intro y z h
      unfold ltI at h
      unfold pless
      simpa using h
    · intro p hp q hq
      obtain ⟨y, _, rfl⟩ := List.mem_map.1 hq
      have := (mem_allTo.1 hp).1
      unfold pless
      simp; omega
theorem allTo_len {g : TGraph} {a : TAutomaton} (ha : validA a = true) (hg : validG g = true) : ∀ i, (allTo g a i).length ≤ 60 * i
  | 0 => by simp [allTo]
  | i + 1 => by
    rw [allTo_succ, List.length_append, List.length_map]
    have := allTo_len ha hg i
    have := ansL_len ha hg (x := i)
    omega
/-- The pairs that a row of bits gives, vertex by vertex. -/
def bycB (g : TGraph) (a : TAutomaton) (x i : Nat) : Bool := (decide (i = x * a.Accept.length + a.Start.toNat) || (wK (nxN g a) (NP g a) (x * a.Accept.length + a.Start.toNat)).testBit i) && acc a ((i : Int) % (a.Accept.length : Int)) (g.Values[((i : Int) / (a.Accept.length : Int)).toNat]?.getD 0)
def bycRow (g : TGraph) (a : TAutomaton) (x k : Nat) : List TPair := ((List.range k).filter (bycB g a x)).map fun (i : Nat) => ⟨(x : Int), (i : Int) / (a.Accept.length : Int)⟩
theorem bycRow_succ (g : TGraph) (a : TAutomaton) (x k : Nat) : bycRow g a x (k + 1) = bycRow g a x k ++ if bycB g a x k then [⟨(x : Int), (k : Int) / (a.Accept.length : Int)⟩] else [] := by
  unfold bycRow
  rw [range_filter_succ, List.map_append]
  cases bycB g a x k <;> rfl
def bycTo (g : TGraph) (a : TAutomaton) (i : Nat) : List TPair := (List.range i).flatMap fun x => bycRow g a x (NP g a)
theorem bycTo_succ (g : TGraph) (a : TAutomaton) (i : Nat) : bycTo g a (i + 1) = bycTo g a i ++ bycRow g a i (NP g a) := by
  unfold bycTo
  rw [List.range_succ, List.flatMap_append]; simp
theorem bycRow_len (g : TGraph) (a : TAutomaton) (x k : Nat) : (bycRow g a x k).length ≤ k := by
  unfold bycRow
  rw [List.length_map]
  exact Nat.le_trans (List.length_filter_le _ _) (by simp)
theorem bycTo_len {g : TGraph} {a : TAutomaton} (ha : validA a = true) (hg : validG g = true) : ∀ i, (bycTo g a i).length ≤ 60 * i
  | 0 => by simp [bycTo]
  | i + 1 => by
    rw [bycTo_succ, List.length_append]
    have := bycTo_len ha hg i
    have := bycRow_len g a i (NP g a)
    have : NP g a ≤ 60 := (prod_le ha hg).2
    omega
theorem setG_snoc (l : List TPair) (x : TPair) : setG pless (l ++ [x]) = putG pless (setG pless l) x := by unfold setG; rw [List.foldl_append]; rfl
theorem byc_hit {g : TGraph} {a : TAutomaton} (ha : validA a = true) (hg : validG g = true) {x : Nat} (hx : x < g.Values.length) {i : Nat} (hi : i < NP g a) : bycB g a x i = hitB g a (ranksOf g a x) i := by
  have hA := validA_len ha
  have hs0 := start_ok (g := g) ha (x := (x : Int)) (by omega)
  have hnk : ∀ p, p < NP g a → ∀ k ∈ nxN g a p, 0 ≤ k ∧ k < (NP g a : Nat) := fun p hp => nxN_ok ha hg hp
  have hn0 : ∀ p, ∀ k ∈ nxL (nextsV g a) p, 0 ≤ k := fun p k hk => by
    by_cases hp : p < NP g a
    · rw [nextsV_at hp] at hk; exact (hnk p hp k hk).1
    · unfold nxL at hk
      rw [List.getElem?_eq_none (by rw [nextsV_len]; unfold NP at hp; omega)] at hk
      cases hk
  have es : ((x * a.Accept.length + a.Start.toNat : Nat) : Int) = (x : Int) * (a.Accept.length : Int) + a.Start := by
    rw [Int.natCast_add, Int.natCast_mul, Int.toNat_of_nonneg hA.2.2.2.1]
  have hsN : x * a.Accept.length + a.Start.toNat < NP g a := by have : ((NP g a : Nat) : Int) = ((a.Accept.length * g.Values.length : Nat) : Int) := rfl; omega
  unfold bycB hitB
  congr 1
  rw [Bool.eq_iff_iff, Bool.or_eq_true, decide_eq_true_eq, decide_eq_true_eq]
  have hR := spread_vis (nx := nxL (nextsV g a)) (N := NP g a) (fun p hp k hk => by rw [nextsV_at hp] at hk; exact hnk p hp k hk) (l := [(x : Int) * (a.Accept.length : Int) + a.Start]) (by intro q hq; rw [List.mem_singleton] at hq; subst hq; exact hs0) (j := (i : Int))
  have hrk : spreadOf (nxL (nextsV g a)) (NP g a) [(x : Int) * (a.Accept.length : Int) + a.Start] = ranksOf g a x := by
    have := ranks_nexts ha hg (x := (x : Int)) (by omega)
    rwa [nextsV_len] at this
  rw [hrk] at hR
  unfold visI at hR
  rw [(ranks_ok ha hg (x := (x : Int)) (by omega)).1] at hR
  have hf := wK_full (nx := nxL (nextsV g a)) (N := NP g a) hn0 (fun p hp k hk => by rw [nextsV_at hp] at hk; exact (hnk p hp k hk).2) hsN (j := i)
  rw [show wK (nxL (nextsV g a)) (NP g a) (x * a.Accept.length + a.Start.toNat) = wK (nxN g a) (NP g a) (x * a.Accept.length + a.Start.toNat) from wK_congr (N := NP g a) (fun p hp => nextsV_at hp) _ _ (Nat.le_refl _) hsN] at hf
  rw [hf]
  have hi' : (i : Int) < ((a.Accept.length * g.Values.length : Nat) : Int) := by unfold NP at hi; omega
  constructor
  · intro h
    have : Rch (nxL (nextsV g a)) (· ∈ [(x : Int) * (a.Accept.length : Int) + a.Start]) (i : Int) := by
      rcases h with h | h
      · exact .base (by rw [List.mem_singleton, ← es, h])
      · unfold R1 at h
        refine Rch.mono (fun q hq => ?_) h
        refine .step (.base (List.mem_singleton.2 rfl)) ?_
        rw [← es, Int.toNat_natCast]; exact hq
    exact (hR.2 this).2.2
  · intro h
    have key : ∀ q : Int, Rch (nxL (nextsV g a)) (· ∈ [(x : Int) * (a.Accept.length : Int) + a.Start]) q → q = ((x * a.Accept.length + a.Start.toNat : Nat) : Int) ∨ R1 (nxL (nextsV g a)) (x * a.Accept.length + a.Start.toNat) q := by
      intro q h
      induction h with
      | base h => rw [List.mem_singleton] at h; exact .inl (h.trans es.symm)
      | step _ hk ih =>
        rcases ih with rfl | h
        · exact .inr (.base (by rw [Int.toNat_natCast] at hk; exact hk))
        · exact .inr (.step h hk)
    rcases key _ (hR.1 ⟨by omega, by omega, h⟩) with h | h
    · exact .inl (by omega)
    · exact .inr h
theorem mem_ansL {g : TGraph} {a : TAutomaton} {x y : Int} : y ∈ ansL g a x ↔ ∃ i : Nat, i < NP g a ∧ hitB g a (ranksOf g a x) i = true ∧ (i : Int) / (a.Accept.length : Int) = y := by
  unfold ansL
  rw [mem_ascL]
  unfold hitsN
  simp only [List.mem_map, List.mem_filter, List.mem_range]
  constructor
  · rintro ⟨i, ⟨h1, h2⟩, h3⟩; exact ⟨i, h1, h2, h3⟩
  · rintro ⟨i, h1, h2, h3⟩; exact ⟨i, ⟨h1, h2⟩, h3⟩
theorem byc_all {g : TGraph} {a : TAutomaton} (ha : validA a = true) (hg : validG g = true) : setG pless (bycTo g a g.Values.length) = allTo g a g.Values.length := by
  refine strict_ext pless_so (setG_strict pless_so _) (allTo_strict _ _ _) fun p => ?_
  rw [mem_setG, mem_allTo]
  unfold bycTo bycRow
  simp only [List.mem_flatMap, List.mem_range, List.mem_map, List.mem_filter]
  constructor
  · rintro ⟨x, hx, i, ⟨hi, hb⟩, rfl⟩
    exact ⟨⟨by simp, by simpa using hx⟩, mem_ansL.2 ⟨i, hi, by rw [← byc_hit ha hg hx hi]; exact hb, rfl⟩⟩
  · rintro ⟨⟨h0, h1⟩, h2⟩
    obtain ⟨i, hi, hb, e⟩ := mem_ansL.1 h2
    have ex : ((p.From.toNat : Nat) : Int) = p.From := by omega
    refine ⟨p.From.toNat, by omega, i, ⟨hi, ?_⟩, ?_⟩
    · rw [byc_hit ha hg (by omega) hi, ex]; exact hb
    · rw [ex, e]
end Go.Q
namespace Go.Proofs.Ytbfejakbaijmhaa
open Go.RowKit Go.Q Go.D
theorem implAnswersFrom_ok (g : TGraph) (a : TAutomaton) (ha : validA a = true) (hg : validG g = true) (x : Int) (hx : 0 ≤ x ∧ x < g.Values.length) : FnT Try.prog 133 [.agg (cGraph g), .agg (cAutomaton a), .one (.v (.int .i64 x))] (.a (.one (.sl 1 ((ansL g a x).map cInt)))) := by
  refine FnT.walk Try.func133 rfl (by kernel_rfl) Try.ntmps133 rfl fun hlen w0 => ?_
  try simp [cPair, cToken, cExpr, cEdge, cGraph, cStep, cWalk, cChange, cBatch, cHistory, cPositions, cAutomaton, cProductStep, cPathAtom, cConjunction, cView, cDelta, cRegistered, cRegistry] at hlen
  have hA := validA_len ha
  have hG := validG_len hg
  have hN : 1 ≤ NP g a ∧ NP g a ≤ 60 := prod_le ha hg
  have hRK := ranks_ok ha hg hx
  have hRl : (ranksOf g a x).length = NP g a := hRK.1
  refine AW.seq ?_
  refine AW.region ?_
  refine AWl.put (R_boxz rfl rfl rfl (.tmp rfl fun _ => rfl) (ts := _) (by rfl)) rfl ?_
  refine AWl.put (R_boxz rfl rfl rfl (.tmp rfl fun _ => rfl) (ts := _) (by rfl)) rfl ?_
  refine AWl.put (R_assign rfl (.no rfl) rfl (.const rfl)) rfl ?_
  refine AWl.nilS (i := 6) 20001 1 rfl rfl ?_
  refine AWl.nil ?_
  refine AW.seq ?_
  refine AW.region ?_
  refine AWl.add (R_empty 11 rfl rfl rfl Try.underlying22 ty3 rfl) rfl ?_
  refine AWl.put (R_assign rfl (.no rfl) rfl (.tmp rfl fun _ => rfl)) rfl ?_
  refine AWl.nil ?_
  refine AW.seq ?_
  refine AW.region ?_
  refine AWl.put ((by exact R_fieldAddr rfl (.no rfl) rfl (.tmp rfl fun _ => rfl) fl37_1)) rfl ?_
  refine AWl.put ((by exact R_load rfl (.no rfl) rfl (.tmp rfl fun _ => rfl) ty26 rfl rfl)) rfl ?_
  refine AWl.put ((by exact R_lenm rfl (.no rfl) rfl (.tmp rfl fun _ => rfl) (by exact .t) Try.underlying26)) rfl ?_
  refine AWl.put (R_assign rfl (.no rfl) rfl (.tmp rfl fun _ => rfl)) rfl ?_
  refine AWl.nil ?_
  refine AW.seq ?_
  refine AW.seq ?_
  refine AW.region ?_
  refine AWl.put ((by exact R_load rfl (.no rfl) rfl (.tmp rfl fun _ => rfl) ty35 rfl rfl)) rfl ?_
  refine AWl.put ((by exact R_load rfl (.no rfl) rfl (.tmp rfl fun _ => rfl) ty37 rfl rfl)) rfl ?_
  refine AWl.put (R_move rfl (.no rfl) rfl (.tmp rfl fun _ => rfl)) rfl ?_
  refine AWl.put (R_callz (FnT.fr (implDistancesFrom g a ha hg x hx)) rfl (.no rfl) rfl (.cons (.tmp rfl fun _ => rfl) rfl (.cons (.tmp rfl fun _ => rfl) rfl (.cons (.tmp rfl fun _ => rfl) rfl .nil)))) rfl ?_
  refine AWl.put ((by exact R_lenm rfl (.no rfl) rfl (.tmp rfl fun _ => rfl) (by exact .t) Try.underlying22)) rfl ?_
  refine AWl.put (R_move rfl (.no rfl) rfl (.const rfl)) rfl ?_
  refine AWl.nil ?_
  refine AW.block ?_
  refine AW.loop1 (fun (i : Nat) => (i ≤ NP g a) ∧ True) (fun (i : Nat) => ⟨_, [(20, (true, .a (.one (.t (.v (.int .i64 (i : Nat))))))), (7, (true, .a (.one (.rf 11)))), (3, _), (4, _), (6, _), (8, _), (18, _), (19, _)], [(11, .row 1 ((hitsN g a (ranksOf g a x) i).map cInt))]⟩) (fun (i : Nat) => NP g a - i) (0) ⟨Nat.zero_le _, trivial⟩ (Le.sub0 rfl ⟨rfl, rfl, rfl, rfl, rfl, rfl, rfl, rfl, trivial⟩ ⟨rfl, trivial⟩) ?_
  rintro i ⟨hk, he⟩
  refine AW.seq ?_
  refine AW.region ?_
  refine AWl.put (R_lt rfl (.no rfl) rfl (.tmp rfl fun _ => rfl) (.tmp rfl fun _ => rfl)) rfl ?_
  refine AWl.nil ?_
  refine AW.seq ?_
  refine AW.cond (.tmp rfl fun _ => rfl) (fun h21 => ?_) (fun h21 => ?_)
  · skip
    try simp at h21
    have hiN : i < NP g a := by omega
    have hdm := nd_ok (p := i) hA.1 (show i < NP g a from hiN)
    obtain ⟨v, hv⟩ : ∃ v, g.Values[((i : Int) / (a.Accept.length : Int)).toNat]? = some v := ⟨_, List.getElem?_eq_getElem (by omega)⟩
    have hvr := validG_val hg hv
    have hgi := atI_get (out := ranksOf g a x) (k := (i : Int)) (by omega)
    have hhl := hitsN_len g a (ranksOf g a x) i
    have hpw : 2 ^ ((i : Int) % (a.Accept.length : Int)).toNat < 2 ^ a.Accept.length := Nat.pow_lt_pow_right (by omega) (by omega)
    refine AW.skip ?_
    refine AW.seq ?_
    refine AW.block ?_
    refine AW.seq ?_
    refine AW.region ?_
    refine AWl.put (R_move rfl (.no rfl) rfl (.tmp rfl fun _ => rfl)) rfl ?_
    refine AWl.put ((by exact R_indexAddr rfl (.no rfl) rfl (.tmp rfl fun _ => rfl) (.tmp rfl fun _ => rfl) Try.underlying22 ty3 (fun _ => ⟨by omega, (by exact map_get hgi)⟩))) rfl ?_
    refine AWl.put ((by exact R_load rfl (.no rfl) rfl (.tmp rfl fun _ => rfl) ty3 rfl rfl)) rfl ?_
    refine AWl.put (R_assign rfl (.no rfl) rfl (.tmp rfl fun _ => rfl)) rfl ?_
    refine AWl.put (R_assign rfl (.no rfl) rfl (.tmp rfl fun _ => rfl)) rfl ?_
    refine AWl.nil ?_
    refine AW.seq ?_
    refine AW.drawn 17 (nthB [[], [0], [0, 1], [0, 1, 2], [0, 1, 2], [0, 1, 2], [0, 1, 2, 4, 5], [0, 1, 2, 4, 5, 6], [0, 1, 2], [0, 1, 2, 8], [0, 1, 2], [0, 1, 2], [0, 1, 2, 10, 11], [0, 1, 2, 8, 9, 10, 11, 12], [0, 1, 2, 8, 9, 10, 11, 12, 13], [0, 1, 2, 3, 4, 5, 6, 7, 8, 9, 10, 11, 12, 13, 14], [0, 1, 2, 3, 4, 5, 6, 7, 8, 9, 10, 11, 12, 13, 14, 15]]) (by kernel_rfl) (by kernel_rfl) (by kernel_rfl) ?_
    refine DrawC.step rfl rfl rfl (Loc.of rfl fun σ' hs => R_move rfl (.no rfl) (hd_sup hs rfl) (.tmp (hs.slots _ _ rfl) fun _ => rfl)) ?_
    refine DrawC.step rfl rfl rfl (Loc.of rfl fun σ' hs => R_ge rfl (.no rfl) (hd_sup hs rfl) (.tmp (hs.slots _ _ rfl) fun _ => rfl) (.const rfl)) ?_
    refine DrawC.step rfl rfl rfl (Loc.of rfl fun σ' hs => R_move rfl (.no rfl) (hd_sup hs rfl) (.tmp (hs.slots _ _ rfl) fun _ => rfl)) ?_
    refine DrawC.step rfl rfl rfl (Loc.of rfl fun σ' hs => (by exact R_load rfl (by exact .yes1 rfl rfl (hs.slots _ _ rfl) (by rw [hs.n]; rfl)) (hd_sup hs rfl) (.tmp (hs.slots _ _ rfl) (by exact fun _ => rfl)) ty37 rfl rfl)) ?_
    refine DrawC.step rfl rfl rfl (Loc.of rfl fun σ' hs => R_move rfl (by exact .yes1 rfl rfl (hs.slots _ _ rfl) (by rw [hs.n]; rfl)) (hd_sup hs rfl) (.tmp (hs.slots _ _ rfl) (by exact fun _ => rfl))) ?_
    refine DrawC.step rfl rfl rfl (Loc.of rfl fun σ' hs => R_move rfl (by exact .yes1 rfl rfl (hs.slots _ _ rfl) (by rw [hs.n]; rfl)) (hd_sup hs rfl) (.tmp (hs.slots _ _ rfl) (by exact fun _ => rfl))) ?_
    refine DrawC.step rfl rfl rfl (Loc.of rfl fun σ' hs => R_rem rfl (by exact .yes1 rfl rfl (hs.slots _ _ rfl) (by rw [hs.n]; rfl)) (hd_sup hs rfl) (.tmp (hs.slots _ _ rfl) (by exact id)) (.tmp (hs.slots _ _ rfl) (by exact id)) (fun hq => by first | omega | (simp at hq; omega))) ?_
    refine DrawC.step rfl rfl rfl (Loc.of rfl fun σ' hs => R_shlN rfl (by exact .yes1 rfl rfl (hs.slots _ _ rfl) (by rw [hs.n]; rfl)) (hd_sup hs rfl) (.const rfl) (.tmp (hs.slots _ _ rfl) (by exact id)) (fun hq => by first | omega | (simp at hq; omega))) ?_
    refine DrawC.step rfl rfl rfl (Loc.of rfl fun σ' hs => (by exact R_fieldAddr rfl (by exact .yes1 rfl rfl (hs.slots _ _ rfl) (by rw [hs.n]; rfl)) (hd_sup hs rfl) (.tmp (hs.slots _ _ rfl) (by exact fun _ => rfl)) fl35_0)) ?_
    refine DrawC.step rfl rfl rfl (Loc.of rfl fun σ' hs => (by exact R_load rfl (by exact .yes1 rfl rfl (hs.slots _ _ rfl) (by rw [hs.n]; rfl)) (hd_sup hs rfl) (.tmp (hs.slots _ _ rfl) (by exact id)) ty22 rfl rfl)) ?_
    refine DrawC.step rfl rfl rfl (Loc.of rfl fun σ' hs => R_move rfl (by exact .yes1 rfl rfl (hs.slots _ _ rfl) (by rw [hs.n]; rfl)) (hd_sup hs rfl) (.tmp (hs.slots _ _ rfl) (by exact fun _ => rfl))) ?_
    refine DrawC.step rfl rfl rfl (Loc.of rfl fun σ' hs => R_move rfl (by exact .yes1 rfl rfl (hs.slots _ _ rfl) (by rw [hs.n]; rfl)) (hd_sup hs rfl) (.tmp (hs.slots _ _ rfl) (by exact fun _ => rfl))) ?_
    refine DrawC.step rfl rfl rfl (Loc.of rfl fun σ' hs => R_quo rfl (by exact .yes1 rfl rfl (hs.slots _ _ rfl) (by rw [hs.n]; rfl)) (hd_sup hs rfl) (.tmp (hs.slots _ _ rfl) (by exact id)) (.tmp (hs.slots _ _ rfl) (by exact id)) (fun hq => by first | omega | (simp at hq; omega))) ?_
    refine DrawC.step rfl rfl rfl (Loc.of rfl fun σ' hs => (by exact R_indexAddr rfl (by exact .yes1 rfl rfl (hs.slots _ _ rfl) (by rw [hs.n]; rfl)) (hd_sup hs rfl) (.tmp (hs.slots _ _ rfl) (by exact id)) (.tmp (hs.slots _ _ rfl) (by exact id)) Try.underlying22 ty3 (fun hq => by (try simp at hq); exact ⟨by omega, (by exact map_get hv)⟩))) ?_
    refine DrawC.step rfl rfl rfl (Loc.of rfl fun σ' hs => (by exact R_load rfl (by exact .yes1 rfl rfl (hs.slots _ _ rfl) (by rw [hs.n]; rfl)) (hd_sup hs rfl) (.tmp (hs.slots _ _ rfl) (by exact id)) ty3 rfl rfl)) ?_
    refine DrawC.step rfl rfl rfl (Loc.of rfl fun σ' hs => R_callq rfl (by exact .yes1 rfl rfl (hs.slots _ _ rfl) (by rw [hs.n]; rfl)) (hd_sup hs rfl) (.cons (.tmp (hs.slots _ _ rfl) (by exact id)) (readA_sup hs rfl) (.cons (.tmp (hs.slots _ _ rfl) (by exact id)) (readA_sup hs rfl) (.cons (.tmp (hs.slots _ _ rfl) (by exact id)) (readA_sup hs rfl) .nil))) fun hq => FnT.fr (implacceptsAt a ha (2 ^ ((i : Int) % (a.Accept.length : Int)).toNat) hpw v hvr)) ?_
    refine DrawC.step rfl rfl rfl (Loc.of rfl fun σ' hs => R_and rfl (.no rfl) (hd_sup hs rfl) (.tmp (hs.slots _ _ rfl) fun _ => rfl) (.tmp (hs.slots _ _ rfl) (by exact id))) ?_
    refine DrawC.fin rfl rfl ?_
    refine AWl.nil ?_
    refine AW.cond (.tmp rfl fun _ => rfl) (fun h41 => ?_) (fun h41 => ?_)
    · skip
      rw [accS_pow a v (by omega)] at h41
      have hhit : hitB g a (ranksOf g a x) i = true := by (unfold hitB; rw [hv, Option.getD_some]; simpa [Int.toNat_of_nonneg hdm.2.1] using h41)
      refine AW.le (σ' := ⟨_, [(3, _), (4, _), (6, _), (7, _), (8, _), (9, _), (10, _), (18, _), (19, _), (20, _)], [(11, _)]⟩) (Le.sub0 rfl ⟨rfl, rfl, rfl, rfl, rfl, rfl, rfl, rfl, rfl, rfl, trivial⟩ ⟨rfl, trivial⟩) ?_
      refine AW.region ?_
      refine AWl.put (R_move rfl (.no rfl) rfl (.tmp rfl fun _ => rfl)) rfl ?_
      refine AWl.put (R_move rfl (.no rfl) rfl (.tmp rfl fun _ => rfl)) rfl ?_
      refine AWl.put (R_move rfl (.no rfl) rfl (.tmp rfl fun _ => rfl)) rfl ?_
      refine AWl.put (R_quo rfl (.no rfl) rfl (.tmp rfl fun _ => rfl) (.tmp rfl fun _ => rfl) (fun _ => by omega)) rfl ?_
      refine AWl.absadd (R_list (xs := [.tmp 45]) 46 rfl rfl rfl (.cons (.tmp rfl fun _ => rfl) rfl rfl .nil) Try.underlying22 in3 rfl rfl rfl rfl) rfl ?_
      refine AWl.chgput (R_append rfl rfl rfl (.tmp rfl fun _ => rfl) rfl (.tmp rfl fun _ => rfl) (by exact .rf rfl) (by rfl) Try.underlying22 in3 rfl (by (simp [chunk]; omega)) (by (unfold maxLen; simp [chunk]; omega))) rfl ?_
      refine AWl.le (σ' := ⟨_, [(3, _), (4, _), (6, _), (7, _), (8, _), (9, _), (10, _), (18, _), (19, _), (20, _), (47, _)], [(11, _), (46, _)]⟩) (Le.sub0 rfl ⟨rfl, rfl, rfl, rfl, rfl, rfl, rfl, rfl, rfl, rfl, rfl, trivial⟩ ⟨rfl, rfl, trivial⟩) ?_
      refine AWl.put (R_assign rfl (.no rfl) rfl (.tmp rfl fun _ => rfl)) rfl ?_
      refine AWl.nil ?_
      refine AW.region ?_
      refine AWl.put (R_add rfl (.no rfl) rfl (.tmp rfl fun _ => rfl) (.const rfl) (fun _ => by omega)) rfl ?_
      refine AWl.put (R_move rfl (.no rfl) rfl (.tmp rfl fun _ => rfl)) rfl ?_
      refine AWl.nil ?_
      repeat (with_reducible refine BlockQ.nor ?_)
      refine Round1.next (i + 1) ⟨by omega, trivial⟩ (by omega) (Le.sub0 rfl ⟨rfl, rfl, rfl, rfl, rfl, rfl, rfl, rfl, trivial⟩ ⟨(by refine congrArg (fun r => some (R.row 1 r)) ?_; first | (rw [hitsN_succ, hhit]; simp [chunk, cInt]; done) | (rw [hitsN_succ, hhit]; simp; done)), trivial⟩)
    · skip
      rw [accS_pow a v (by omega)] at h41
      have hhit : hitB g a (ranksOf g a x) i = false := by (unfold hitB; rw [hv, Option.getD_some]; simpa [Int.toNat_of_nonneg hdm.2.1] using h41)
      refine AW.skip ?_
      refine AW.le (σ' := ⟨_, [(3, _), (4, _), (6, _), (7, _), (8, _), (9, _), (10, _), (18, _), (19, _), (20, _)], [(11, _)]⟩) (Le.sub0 rfl ⟨rfl, rfl, rfl, rfl, rfl, rfl, rfl, rfl, rfl, rfl, trivial⟩ ⟨rfl, trivial⟩) ?_
      refine AW.region ?_
      refine AWl.put (R_add rfl (.no rfl) rfl (.tmp rfl fun _ => rfl) (.const rfl) (fun _ => by omega)) rfl ?_
      refine AWl.put (R_move rfl (.no rfl) rfl (.tmp rfl fun _ => rfl)) rfl ?_
      refine AWl.nil ?_
      repeat (with_reducible refine BlockQ.nor ?_)
      refine Round1.next (i + 1) ⟨by omega, trivial⟩ (by omega) (Le.sub0 rfl ⟨rfl, rfl, rfl, rfl, rfl, rfl, rfl, rfl, trivial⟩ ⟨(by refine congrArg (fun r => some (R.row 1 r)) ?_; first | (rw [hitsN_succ, hhit]; simp [chunk, cInt]; done) | (rw [hitsN_succ, hhit]; simp; done)), trivial⟩)
  · skip
    try simp at h21
    refine AW.exit ?_
    refine AW.seq ?_
    refine AW.le (σ' := ⟨_, [(3, _), (4, _), (6, _), (7, _), (8, _), (18, _), (19, _), (20, _)], [(11, .row 1 ((hitsN g a (ranksOf g a x) (NP g a)).map cInt))]⟩) (Le.sub0 rfl ⟨rfl, rfl, rfl, rfl, rfl, rfl, rfl, rfl, trivial⟩ ⟨by rw [show i = NP g a by omega]; rfl, trivial⟩) ?_
    refine AW.region ?_
    refine AWl.put (R_move rfl (.no rfl) rfl (.tmp rfl fun _ => rfl)) rfl ?_
    refine AWl.adds (R_call 5000 (implascending (hitsN g a (ranksOf g a x) (NP g a)) (Nat.le_trans (hitsN_len _ _ _ _) (by omega))) rfl rfl rfl (.cons (.tmp rfl fun _ => rfl) rfl .nil) rfl rfl) rfl ?_
    refine AWl.put (R_assign rfl (.no rfl) rfl (.tmp rfl fun _ => rfl)) rfl ?_
    refine AWl.nil ?_
    refine AW.ret ?_
    refine Res.one rfl (.tmp rfl .nil) rfl ?_
    rfl
theorem implAllAnswers (g : TGraph) (a : TAutomaton) : FnT Try.prog 73 [.agg (cGraph g), .agg (cAutomaton a)] (.a (.one (.sl 2 ((allAns g a).map cPair)))) := by
  refine FnT.walk Try.func73 rfl (by kernel_rfl) Try.ntmps73 rfl fun hlen w0 => ?_
  try simp [cPair, cToken, cExpr, cEdge, cGraph, cStep, cWalk, cChange, cBatch, cHistory, cPositions, cAutomaton, cProductStep, cPathAtom, cConjunction, cView, cDelta, cRegistered, cRegistry] at hlen
  skip
  refine AW.seq ?_
  refine AW.region ?_
  refine AWl.put (R_boxz rfl rfl rfl (.tmp rfl fun _ => rfl) (ts := _) (by rfl)) rfl ?_
  refine AWl.put (R_boxz rfl rfl rfl (.tmp rfl fun _ => rfl) (ts := _) (by rfl)) rfl ?_
  refine AWl.put (R_assign rfl (.no rfl) rfl (.const rfl)) rfl ?_
  refine AWl.nilS (i := 4) 20001 2 rfl rfl ?_
  refine AWl.nil ?_
  refine AW.seq ?_
  refine AW.seq ?_
  refine AW.region ?_
  refine AWl.put ((by exact R_load rfl (.no rfl) rfl (.tmp rfl fun _ => rfl) ty35 rfl rfl)) rfl ?_
  refine AWl.put ((by exact R_load rfl (.no rfl) rfl (.tmp rfl fun _ => rfl) ty37 rfl rfl)) rfl ?_
  refine AWl.put (R_callz (FnT.fr (implbothOk_nil g a)) rfl (.no rfl) rfl (.cons (.tmp rfl fun _ => rfl) rfl (.cons (.tmp rfl fun _ => rfl) rfl (.cons (.const rfl) rfl .nil)))) rfl ?_
  refine AWl.put (R_not rfl (.no rfl) rfl (.tmp rfl fun _ => rfl)) rfl ?_
  refine AWl.nil ?_
  refine AW.cond (.tmp rfl fun _ => rfl) (fun h12 => ?_) (fun h12 => ?_)
  · skip
    try simp at h12
    refine AW.seq ?_
    refine AW.region ?_
    refine AWl.put (R_assign rfl (.no rfl) rfl (.const rfl)) rfl ?_
    refine AWl.nilS (i := 4) 20002 2 rfl rfl ?_
    refine AWl.nil ?_
    refine AW.ret ?_
    refine Res.one rfl (.tmp rfl .nil) rfl ?_
    unfold allAns; rw [if_neg (by simpa using h12)]; rfl
  · skip
    try simp at h12
    have hgc : goodC g a = true := by simpa using h12
    obtain ⟨hg, ha⟩ := good_c2 hgc
    have hG := validG_len hg
    refine AW.skip ?_
    refine AW.seq ?_
    refine AW.region ?_
    refine AWl.add (R_empty 13 rfl rfl rfl Try.underlying46 ty93 rfl) rfl ?_
    refine AWl.put (R_assign rfl (.no rfl) rfl (.tmp rfl fun _ => rfl)) rfl ?_
    refine AWl.nil ?_
    refine AW.seq ?_
    refine AW.seq ?_
    refine AW.region ?_
    refine AWl.put ((by exact R_fieldAddr rfl (.no rfl) rfl (.tmp rfl fun _ => rfl) fl35_0)) rfl ?_
    refine AWl.put ((by exact R_load rfl (.no rfl) rfl (.tmp rfl fun _ => rfl) ty22 rfl rfl)) rfl ?_
    refine AWl.put ((by exact R_lenm rfl (.no rfl) rfl (.tmp rfl fun _ => rfl) (by exact .t) Try.underlying22)) rfl ?_
    refine AWl.put (R_move rfl (.no rfl) rfl (.const rfl)) rfl ?_
    refine AWl.nil ?_
    refine AW.block ?_
    refine AW.loop1 (fun (i : Nat) => (i ≤ g.Values.length) ∧ True) (fun (i : Nat) => ⟨_, [(17, (true, .a (.one (.t (.v (.int .i64 (i : Nat))))))), (5, (true, .a (.one (.rf 13)))), (2, _), (3, _), (4, _), (16, _)], [(13, .row 2 ((allTo g a i).map cPair))]⟩) (fun (i : Nat) => g.Values.length - i) (0) ⟨Nat.zero_le _, trivial⟩ (Le.sub0 rfl ⟨rfl, rfl, rfl, rfl, rfl, rfl, trivial⟩ ⟨(by refine congrArg (fun r => some (R.row 2 r)) ?_; first | rfl | (simp [allTo]; done)), trivial⟩) ?_
    rintro i ⟨hk, he⟩
    refine AW.seq ?_
    refine AW.region ?_
    refine AWl.put (R_lt rfl (.no rfl) rfl (.tmp rfl fun _ => rfl) (.tmp rfl fun _ => rfl)) rfl ?_
    refine AWl.nil ?_
    refine AW.seq ?_
    refine AW.cond (.tmp rfl fun _ => rfl) (fun h18 => ?_) (fun h18 => ?_)
    · skip
      try simp at h18
      have hiV : i < g.Values.length := by omega
      refine AW.skip ?_
      refine AW.seq ?_
      refine AW.block ?_
      refine AW.seq ?_
      refine AW.region ?_
      refine AWl.put (R_move rfl (.no rfl) rfl (.tmp rfl fun _ => rfl)) rfl ?_
      refine AWl.put (R_assign rfl (.no rfl) rfl (.tmp rfl fun _ => rfl)) rfl ?_
      refine AWl.nil ?_
      refine AW.seq ?_
      refine AW.region ?_
      refine AWl.put ((by exact R_load rfl (.no rfl) rfl (.tmp rfl fun _ => rfl) ty35 rfl rfl)) rfl ?_
      refine AWl.put ((by exact R_load rfl (.no rfl) rfl (.tmp rfl fun _ => rfl) ty37 rfl rfl)) rfl ?_
      refine AWl.put (R_move rfl (.no rfl) rfl (.tmp rfl fun _ => rfl)) rfl ?_
      refine AWl.put (R_callz (FnT.fr (implAnswersFrom_ok g a ha hg (i : Int) (by omega))) rfl (.no rfl) rfl (.cons (.tmp rfl fun _ => rfl) rfl (.cons (.tmp rfl fun _ => rfl) rfl (.cons (.tmp rfl fun _ => rfl) rfl .nil)))) rfl ?_
      refine AWl.put ((by exact R_lenm rfl (.no rfl) rfl (.tmp rfl fun _ => rfl) (by exact .t) Try.underlying22)) rfl ?_
      refine AWl.put (R_move rfl (.no rfl) rfl (.const rfl)) rfl ?_
      refine AWl.nil ?_
      refine AW.block ?_
      refine AW.loop1 (fun (k : Nat) => (k ≤ (ansL g a i).length) ∧ True) (fun (k : Nat) => ⟨_, [(25, (true, .a (.one (.t (.v (.int .i64 (k : Nat))))))), (5, (true, .a (.one (.rf 13)))), (2, _), (3, _), (4, _), (6, _), (16, _), (17, _), (23, _), (24, _)], [(13, .row 2 ((allTo g a i ++ ((ansL g a i).take k).map fun y => (⟨(i : Int), y⟩ : TPair)).map cPair))]⟩) (fun (k : Nat) => (ansL g a i).length - k) (0) ⟨Nat.zero_le _, trivial⟩ (Le.sub0 rfl ⟨rfl, rfl, rfl, rfl, rfl, rfl, rfl, rfl, rfl, rfl, trivial⟩ ⟨(by refine congrArg (fun r => some (R.row 2 r)) ?_; first | rfl | (simp [allTo]; done)), trivial⟩) ?_
      rintro k ⟨hk1, he1⟩
      refine AW.seq ?_
      refine AW.region ?_
      refine AWl.put (R_lt rfl (.no rfl) rfl (.tmp rfl fun _ => rfl) (.tmp rfl fun _ => rfl)) rfl ?_
      refine AWl.nil ?_
      refine AW.seq ?_
      refine AW.cond (.tmp rfl fun _ => rfl) (fun h26 => ?_) (fun h26 => ?_)
      · skip
        try simp at h26
        obtain ⟨y, hy⟩ : ∃ ξ, (ansL g a i)[k]? = some ξ := ⟨_, List.getElem?_eq_getElem (by omega)⟩
        have hal := allTo_len ha hg i
        have hkl := ansL_len ha hg (i : Int)
        refine AW.skip ?_
        refine AW.seq ?_
        refine AW.block ?_
        refine AW.seq ?_
        refine AW.region ?_
        refine AWl.put ((by exact R_indexAddr rfl (.no rfl) rfl (.tmp rfl fun _ => rfl) (.tmp rfl fun _ => rfl) Try.underlying22 ty3 (fun _ => ⟨by omega, (map_get hy)⟩))) rfl ?_
        refine AWl.put ((by exact R_load rfl (.no rfl) rfl (.tmp rfl fun _ => rfl) ty3 rfl rfl)) rfl ?_
        refine AWl.put (R_assign rfl (.no rfl) rfl (.tmp rfl fun _ => rfl)) rfl ?_
        refine AWl.nil ?_
        refine AW.region ?_
        refine AWl.put (R_move rfl (.no rfl) rfl (.tmp rfl fun _ => rfl)) rfl ?_
        refine AWl.put (R_move rfl (.no rfl) rfl (.tmp rfl fun _ => rfl)) rfl ?_
        refine AWl.put (R_move rfl (.no rfl) rfl (.tmp rfl fun _ => rfl)) rfl ?_
        refine AWl.put (R_build (ps := [(0, .tmp 30), (1, .tmp 31)]) rfl rfl rfl in93 rfl rfl st93 (.cons (.tmp rfl fun _ => rfl) rfl rfl fp93_0 (.cons (.tmp rfl fun _ => rfl) rfl rfl fp93_1 .nil)) rfl) rfl ?_
        refine AWl.absadd (R_list (xs := [.tmp 32]) 33 rfl rfl rfl (.cons (.tmp rfl fun _ => rfl) rfl rfl .nil) Try.underlying46 in93 rfl rfl rfl rfl) rfl ?_
        refine AWl.chgput (R_append rfl rfl rfl (.tmp rfl fun _ => rfl) rfl (.tmp rfl fun _ => rfl) (by exact .rf rfl) (by rfl) Try.underlying46 in93 rfl (by (simp [chunk]; omega)) (by (unfold maxLen; simp [chunk]; omega))) rfl ?_
        refine AWl.le (σ' := ⟨_, [(2, _), (3, _), (4, _), (5, _), (6, _), (8, _), (16, _), (17, _), (23, _), (24, _), (25, _), (26, _), (34, _)], [(13, _), (33, _)]⟩) (Le.sub0 rfl ⟨rfl, rfl, rfl, rfl, rfl, rfl, rfl, rfl, rfl, rfl, rfl, rfl, rfl, trivial⟩ ⟨rfl, rfl, trivial⟩) ?_
        refine AWl.put (R_assign rfl (.no rfl) rfl (.tmp rfl fun _ => rfl)) rfl ?_
        refine AWl.nil ?_
        refine AW.region ?_
        refine AWl.put (R_add rfl (.no rfl) rfl (.tmp rfl fun _ => rfl) (.const rfl) (fun _ => by omega)) rfl ?_
        refine AWl.put (R_move rfl (.no rfl) rfl (.tmp rfl fun _ => rfl)) rfl ?_
        refine AWl.nil ?_
        repeat (with_reducible refine BlockQ.nor ?_)
        refine Round1.next (k + 1) ⟨by omega, trivial⟩ (by omega) (Le.sub0 rfl ⟨rfl, rfl, rfl, rfl, rfl, rfl, rfl, rfl, rfl, rfl, trivial⟩ ⟨(by refine congrArg (fun r => some (R.row 2 r)) ?_; first | (rw [take_at hy]; simp [chunk, cPair]; done) | (rw [allTo_succ, List.take_of_length_le (by omega)]; done) | (simp; done)), trivial⟩)
      · skip
        try simp at h26
        refine AW.exit ?_
        refine AW.region ?_
        refine AWl.put (R_add rfl (.no rfl) rfl (.tmp rfl fun _ => rfl) (.const rfl) (fun _ => by omega)) rfl ?_
        refine AWl.put (R_move rfl (.no rfl) rfl (.tmp rfl fun _ => rfl)) rfl ?_
        refine AWl.nil ?_
        repeat (with_reducible refine BlockQ.nor ?_)
        refine Round1.next (i + 1) ⟨by omega, trivial⟩ (by omega) (Le.sub0 rfl ⟨rfl, rfl, rfl, rfl, rfl, rfl, trivial⟩ ⟨(by refine congrArg (fun r => some (R.row 2 r)) ?_; first | (rw [take_at hy]; simp [chunk, cPair]; done) | (rw [allTo_succ, List.take_of_length_le (by omega)]; done) | (simp; done)), trivial⟩)
    · skip
      try simp at h18
      refine AW.exit ?_
      refine AW.seq ?_
      refine AW.region ?_
      refine AWl.put (R_move rfl (.no rfl) rfl (.tmp rfl fun _ => rfl)) rfl ?_
      refine AWl.put (R_assign rfl (.no rfl) rfl (.tmp rfl fun _ => rfl)) rfl ?_
      refine AWl.nil ?_
      refine AW.ret ?_
      refine Res.one rfl (.tmp rfl .nil) rfl ?_
      unfold allAns; rw [if_pos hgc, show i = g.Values.length by omega]; rfl
theorem implAnswersByComponents (g : TGraph) (a : TAutomaton) : FnT Try.prog 26 [.agg (cGraph g), .agg (cAutomaton a)] (.a (.one (.sl 2 ((allAns g a).map cPair)))) := by
  refine FnT.walk Try.func26 rfl (by kernel_rfl) Try.ntmps26 rfl fun hlen w0 => ?_
  try simp [cPair, cToken, cExpr, cEdge, cGraph, cStep, cWalk, cChange, cBatch, cHistory, cPositions, cAutomaton, cProductStep, cPathAtom, cConjunction, cView, cDelta, cRegistered, cRegistry] at hlen
  refine AW.seq ?_
  refine AW.region ?_
  refine AWl.put (R_boxz rfl rfl rfl (.tmp rfl fun _ => rfl) (ts := _) (by rfl)) rfl ?_
  refine AWl.put (R_boxz rfl rfl rfl (.tmp rfl fun _ => rfl) (ts := _) (by rfl)) rfl ?_
  refine AWl.put (R_assign rfl (.no rfl) rfl (.const rfl)) rfl ?_
  refine AWl.nilS (i := 4) 20001 2 rfl rfl ?_
  refine AWl.nil ?_
  refine AW.seq ?_
  refine AW.region ?_
  refine AWl.put ((by exact R_load rfl (.no rfl) rfl (.tmp rfl fun _ => rfl) ty35 rfl rfl)) rfl ?_
  refine AWl.put ((by exact R_load rfl (.no rfl) rfl (.tmp rfl fun _ => rfl) ty37 rfl rfl)) rfl ?_
  refine AWl.adds (R_call 700 (implAllAnswers g a) rfl rfl rfl (.cons (.tmp rfl fun _ => rfl) rfl (.cons (.tmp rfl fun _ => rfl) rfl .nil)) rfl rfl) rfl ?_
  refine AWl.put (R_assign rfl (.no rfl) rfl (.tmp rfl fun _ => rfl)) rfl ?_
  refine AWl.nil ?_
  refine AW.ret ?_
  refine Res.one rfl (.tmp rfl .nil) rfl ?_
  rfl
theorem specAnswersByComponents (g : TGraph) (a : TAutomaton) : FnT Try.prog 25 [.agg (cGraph g), .agg (cAutomaton a)] (.a (.one (.sl 2 ((allAns g a).map cPair)))) := by
  refine FnT.walk Try.func25 rfl (by kernel_rfl) Try.ntmps25 rfl fun hlen w0 => ?_
  try simp [cPair, cToken, cExpr, cEdge, cGraph, cStep, cWalk, cChange, cBatch, cHistory, cPositions, cAutomaton, cProductStep, cPathAtom, cConjunction, cView, cDelta, cRegistered, cRegistry] at hlen
  skip
  refine AW.seq ?_
  refine AW.region ?_
  refine AWl.put (R_boxz rfl rfl rfl (.tmp rfl fun _ => rfl) (ts := _) (by rfl)) rfl ?_
  refine AWl.put (R_boxz rfl rfl rfl (.tmp rfl fun _ => rfl) (ts := _) (by rfl)) rfl ?_
  refine AWl.put (R_assign rfl (.no rfl) rfl (.const rfl)) rfl ?_
  refine AWl.nilS (i := 4) 20001 2 rfl rfl ?_
  refine AWl.nil ?_
  refine AW.seq ?_
  refine AW.region ?_
  refine AWl.add (R_empty 11 rfl rfl rfl Try.underlying46 ty93 rfl) rfl ?_
  refine AWl.put (R_assign rfl (.no rfl) rfl (.tmp rfl fun _ => rfl)) rfl ?_
  refine AWl.nil ?_
  refine AW.seq ?_
  refine AW.seq ?_
  refine AW.region ?_
  refine AWl.put ((by exact R_load rfl (.no rfl) rfl (.tmp rfl fun _ => rfl) ty35 rfl rfl)) rfl ?_
  refine AWl.put ((by exact R_load rfl (.no rfl) rfl (.tmp rfl fun _ => rfl) ty37 rfl rfl)) rfl ?_
  refine AWl.put (R_callz (FnT.fr (specl14Good g a 0 0)) rfl (.no rfl) rfl (.cons (.tmp rfl fun _ => rfl) rfl (.cons (.tmp rfl fun _ => rfl) rfl (.cons (.const rfl) rfl (.cons (.const rfl) rfl .nil))))) rfl ?_
  refine AWl.put (R_not rfl (.no rfl) rfl (.tmp rfl fun _ => rfl)) rfl ?_
  refine AWl.nil ?_
  refine AW.cond (.tmp rfl fun _ => rfl) (fun h15 => ?_) (fun h15 => ?_)
  · skip
    rw [good_c] at h15
    refine AW.seq ?_
    refine AW.region ?_
    refine AWl.put (R_move rfl (.no rfl) rfl (.tmp rfl fun _ => rfl)) rfl ?_
    refine AWl.put (R_assign rfl (.no rfl) rfl (.tmp rfl fun _ => rfl)) rfl ?_
    refine AWl.nil ?_
    refine AW.ret ?_
    refine Res.one rfl (.tmp rfl .nil) rfl ?_
    unfold allAns; rw [if_neg (by simpa using h15)]; rfl
  · skip
    rw [good_c] at h15
    have hgc : goodC g a = true := by simpa using h15
    obtain ⟨hg, ha⟩ := good_c2 hgc
    have hA := validA_len ha
    have hG := validG_len hg
    have hN : 1 ≤ NP g a ∧ NP g a ≤ 60 := prod_le ha hg
    refine AW.skip ?_
    refine AW.seq ?_
    refine AW.region ?_
    refine AWl.put ((by exact R_fieldAddr rfl (.no rfl) rfl (.tmp rfl fun _ => rfl) fl37_1)) rfl ?_
    refine AWl.put ((by exact R_load rfl (.no rfl) rfl (.tmp rfl fun _ => rfl) ty26 rfl rfl)) rfl ?_
    refine AWl.put ((by exact R_lenm rfl (.no rfl) rfl (.tmp rfl fun _ => rfl) (by exact .t) Try.underlying26)) rfl ?_
    refine AWl.put (R_assign rfl (.no rfl) rfl (.tmp rfl fun _ => rfl)) rfl ?_
    refine AWl.nil ?_
    refine AW.seq ?_
    refine AW.le (σ' := ⟨_, [(0, _), (1, _), (2, _), (3, _), (4, _), (5, _), (6, _)], [(20001, _), (11, _)]⟩) (Le.sub0 rfl ⟨rfl, rfl, rfl, rfl, rfl, rfl, rfl, trivial⟩ ⟨rfl, rfl, trivial⟩) ?_
    refine AW.region ?_
    refine AWl.put ((by exact R_load rfl (.no rfl) rfl (.tmp rfl fun _ => rfl) ty35 rfl rfl)) rfl ?_
    refine AWl.put ((by exact R_load rfl (.no rfl) rfl (.tmp rfl fun _ => rfl) ty37 rfl rfl)) rfl ?_
    refine AWl.put (R_callz (FnT.fr (specl24Reach g a ha hg)) rfl (.no rfl) rfl (.cons (.tmp rfl fun _ => rfl) rfl (.cons (.tmp rfl fun _ => rfl) rfl .nil))) rfl ?_
    refine AWl.put (R_assign rfl (.no rfl) rfl (.tmp rfl fun _ => rfl)) rfl ?_
    refine AWl.nil ?_
    refine AW.seq ?_
    refine AW.seq ?_
    refine AW.region ?_
    refine AWl.put (R_assign rfl (.no rfl) rfl (.const rfl)) rfl ?_
    refine AWl.nil ?_
    refine AW.block ?_
    refine AW.loop1 (fun (x : Nat) => (x ≤ g.Values.length) ∧ True) (fun (x : Nat) => ⟨_, [(8, (true, .a (.one (.t (.v (.int .i64 (x : Nat))))))), (5, (true, .a (.one (.rf 11)))), (2, _), (3, _), (4, _), (6, _), (7, _)], [(11, .row 2 ((setG pless (bycTo g a x)).map cPair))]⟩) (fun (x : Nat) => g.Values.length - x) (0) ⟨Nat.zero_le _, trivial⟩ (Le.sub0 rfl ⟨rfl, rfl, rfl, rfl, rfl, rfl, rfl, trivial⟩ ⟨(by refine congrArg (fun r => some (R.row 2 r)) ?_; first | rfl | (simp [bycRow]; done) | (simp [bycTo, setG]; done)), trivial⟩) ?_
    rintro x ⟨hk, he⟩
    refine AW.seq ?_
    refine AW.seq ?_
    refine AW.region ?_
    refine AWl.put (R_move rfl (.no rfl) rfl (.tmp rfl fun _ => rfl)) rfl ?_
    refine AWl.put ((by exact R_fieldAddr rfl (.no rfl) rfl (.tmp rfl fun _ => rfl) fl35_0)) rfl ?_
    refine AWl.put ((by exact R_load rfl (.no rfl) rfl (.tmp rfl fun _ => rfl) ty22 rfl rfl)) rfl ?_
    refine AWl.put ((by exact R_lenm rfl (.no rfl) rfl (.tmp rfl fun _ => rfl) (by exact .t) Try.underlying22)) rfl ?_
    refine AWl.put (R_lt rfl (.no rfl) rfl (.tmp rfl fun _ => rfl) (.tmp rfl fun _ => rfl)) rfl ?_
    refine AWl.nil ?_
    refine AW.cond (.tmp rfl fun _ => rfl) (fun h27 => ?_) (fun h27 => ?_)
    · skip
      try simp only [bit_at, bit_zero, shr_zero] at h27
      try simp only [Int.toNat_natCast] at h27
      try simp at h27
      have hxV : x < g.Values.length := by omega
      have hs0 := start_ok (g := g) ha (x := (x : Int)) (by omega)
      have hxm : 0 ≤ (x : Int) * (a.Accept.length : Int) := Int.mul_nonneg (by omega) (by omega)
      have hNn : ((NP g a : Nat) : Int) = ((a.Accept.length * g.Values.length : Nat) : Int) := rfl
      have hsN : ((x : Int) * (a.Accept.length : Int) + a.Start).toNat < NP g a := by omega
      have hgw : ((List.range (NP g a)).map fun p => ((wK (nxN g a) (NP g a) p : Nat) : Int))[((x : Int) * (a.Accept.length : Int) + a.Start).toNat]? = some ((wK (nxN g a) (NP g a) ((x : Int) * (a.Accept.length : Int) + a.Start).toNat : Nat) : Int) := range_get _ hsN
      have hes : ((x : Int) * (a.Accept.length : Int) + a.Start).toNat = x * a.Accept.length + a.Start.toNat := by (have e : ((x * a.Accept.length + a.Start.toNat : Nat) : Int) = (x : Int) * (a.Accept.length : Int) + a.Start := by rw [Int.natCast_add, Int.natCast_mul, Int.toNat_of_nonneg hA.2.2.2.1]); omega
      refine AW.skip ?_
      refine AW.seq ?_
      refine AW.block ?_
      refine AW.seq ?_
      refine AW.region ?_
      refine AWl.put (R_move rfl (.no rfl) rfl (.tmp rfl fun _ => rfl)) rfl ?_
      refine AWl.put (R_move rfl (.no rfl) rfl (.tmp rfl fun _ => rfl)) rfl ?_
      refine AWl.put (R_mul rfl (.no rfl) rfl (.tmp rfl fun _ => rfl) (.tmp rfl fun _ => rfl) (fun _ => by omega)) rfl ?_
      refine AWl.put ((by exact R_fieldAddr rfl (.no rfl) rfl (.tmp rfl fun _ => rfl) fl37_0)) rfl ?_
      refine AWl.put ((by exact R_load rfl (.no rfl) rfl (.tmp rfl fun _ => rfl) ty3 rfl rfl)) rfl ?_
      refine AWl.put (R_add rfl (.no rfl) rfl (.tmp rfl fun _ => rfl) (.tmp rfl fun _ => rfl) (fun _ => by omega)) rfl ?_
      refine AWl.put (R_assign rfl (.no rfl) rfl (.tmp rfl fun _ => rfl)) rfl ?_
      refine AWl.nil ?_
      refine AW.seq ?_
      refine AW.le (σ' := ⟨_, [(2, _), (3, _), (4, _), (5, _), (6, _), (7, _), (8, _), (9, _)], [(11, _)]⟩) (Le.sub0 rfl ⟨rfl, rfl, rfl, rfl, rfl, rfl, rfl, rfl, trivial⟩ ⟨rfl, trivial⟩) ?_
      refine AW.region ?_
      refine AWl.put (R_assign rfl (.no rfl) rfl (.const rfl)) rfl ?_
      refine AWl.nil ?_
      refine AW.block ?_
      refine AW.loop1 (fun (i : Nat) => (i ≤ NP g a) ∧ True) (fun (i : Nat) => ⟨_, [(10, (true, .a (.one (.t (.v (.int .i64 (i : Nat))))))), (5, (true, .a (.one (.rf 11)))), (2, _), (3, _), (4, _), (6, _), (7, _), (8, _), (9, _)], [(11, .row 2 ((setG pless (bycTo g a x ++ bycRow g a x i)).map cPair))]⟩) (fun (i : Nat) => NP g a - i) (0) ⟨Nat.zero_le _, trivial⟩ (Le.sub0 rfl ⟨rfl, rfl, rfl, rfl, rfl, rfl, rfl, rfl, rfl, trivial⟩ ⟨(by refine congrArg (fun r => some (R.row 2 r)) ?_; first | rfl | (simp [bycRow]; done) | (simp [bycTo, setG]; done)), trivial⟩) ?_
      rintro i ⟨hk1, he1⟩
      refine AW.seq ?_
      refine AW.seq ?_
      refine AW.region ?_
      refine AWl.put (R_move rfl (.no rfl) rfl (.tmp rfl fun _ => rfl)) rfl ?_
      refine AWl.put (R_move rfl (.no rfl) rfl (.tmp rfl fun _ => rfl)) rfl ?_
      refine AWl.put ((by exact R_lenm rfl (.no rfl) rfl (.tmp rfl fun _ => rfl) (by exact .t) Try.underlying22)) rfl ?_
      refine AWl.put (R_lt rfl (.no rfl) rfl (.tmp rfl fun _ => rfl) (.tmp rfl fun _ => rfl)) rfl ?_
      refine AWl.nil ?_
      refine AW.cond (.tmp rfl fun _ => rfl) (fun h39 => ?_) (fun h39 => ?_)
      · skip
        try simp only [bit_at, bit_zero, shr_zero] at h39
        try simp only [Int.toNat_natCast] at h39
        try simp at h39
        have hiN : i < NP g a := by (first | omega | (simp at h39; omega))
        have hdm := nd_ok (p := i) hA.1 (show i < NP g a from hiN)
        obtain ⟨v, hv⟩ : ∃ v, g.Values[((i : Int) / (a.Accept.length : Int)).toNat]? = some v := ⟨_, List.getElem?_eq_getElem (by omega)⟩
        have hal := bycTo_len ha hg x
        have hrl := bycRow_len g a x i
        have hii : decide (i = ((x : Int) * (a.Accept.length : Int) + a.Start).toNat) = decide ((i : Int) = (x : Int) * (a.Accept.length : Int) + a.Start) := decide_eq_decide.2 (by omega)
        refine AW.skip ?_
        refine AW.seq ?_
        refine AW.block ?_
        refine AW.seq ?_
        refine AW.drawn 24 (nthB [[], [], [0, 1], [0, 1, 2], [0, 1, 2, 3], [0, 1, 2, 3], [0, 1, 2, 3, 4, 5], [0, 1, 2, 3, 4, 5, 6], [0, 1, 2, 3], [0, 1, 2, 3, 4, 5, 6, 7, 8], [0, 1, 2, 3, 4, 5, 6, 7, 8, 9], [0, 1, 2, 3, 4, 5, 6, 7, 8, 9, 10], [0, 1, 2, 3, 4, 5, 6, 7, 8, 9, 10, 11], [0, 1, 2, 3, 4, 5, 6, 7, 8, 9, 10, 11, 12], [0, 1, 2, 3, 4, 5, 6, 7, 8, 9, 10, 11, 12, 13], [0, 1, 2, 3, 4, 5, 6, 7, 8, 9, 10, 11, 12, 13], [0, 1, 2, 3, 4, 5, 6, 7, 8, 9, 10, 11, 12, 13], [0, 1, 2, 3, 4, 5, 6, 7, 8, 9, 10, 11, 12, 13], [0, 1, 2, 3, 4, 5, 6, 7, 8, 9, 10, 11, 12, 13, 16, 17], [0, 1, 2, 3, 4, 5, 6, 7, 8, 9, 10, 11, 12, 13], [0, 1, 2, 3, 4, 5, 6, 7, 8, 9, 10, 11, 12, 13], [0, 1, 2, 3, 4, 5, 6, 7, 8, 9, 10, 11, 12, 13, 19, 20], [0, 1, 2, 3, 4, 5, 6, 7, 8, 9, 10, 11, 12, 13, 14, 15, 16, 17, 18, 19, 20, 21], [0, 1, 2, 3, 4, 5, 6, 7, 8, 9, 10, 11, 12, 13, 14, 15, 16, 17, 18, 19, 20, 21, 22]]) (by kernel_rfl) (by kernel_rfl) (by kernel_rfl) ?_
        refine DrawC.step rfl rfl rfl (Loc.of rfl fun σ' hs => R_move rfl (.no rfl) (hd_sup hs rfl) (.tmp (hs.slots _ _ rfl) fun _ => rfl)) ?_
        refine DrawC.step rfl rfl rfl (Loc.of rfl fun σ' hs => R_move rfl (.no rfl) (hd_sup hs rfl) (.tmp (hs.slots _ _ rfl) fun _ => rfl)) ?_
        refine DrawC.step rfl rfl rfl (Loc.of rfl fun σ' hs => R_eq rfl (.no rfl) (hd_sup hs rfl) (.tmp (hs.slots _ _ rfl) fun _ => rfl) (.tmp (hs.slots _ _ rfl) fun _ => rfl)) ?_
        refine DrawC.step rfl rfl rfl (Loc.of rfl fun σ' hs => R_move rfl (.no rfl) (hd_sup hs rfl) (.tmp (hs.slots _ _ rfl) fun _ => rfl)) ?_
        refine DrawC.step rfl rfl rfl (Loc.of rfl fun σ' hs => R_move rfl (by exact .not1 rfl rfl (hs.slots _ _ rfl) (by rw [hs.n]; rfl)) (hd_sup hs rfl) (.tmp (hs.slots _ _ rfl) (by exact fun _ => rfl))) ?_
        refine DrawC.step rfl rfl rfl (Loc.of rfl fun σ' hs => R_move rfl (by exact .not1 rfl rfl (hs.slots _ _ rfl) (by rw [hs.n]; rfl)) (hd_sup hs rfl) (.tmp (hs.slots _ _ rfl) (by exact fun _ => rfl))) ?_
        refine DrawC.step rfl rfl rfl (Loc.of rfl fun σ' hs => (by exact R_indexAddr rfl (by exact .not1 rfl rfl (hs.slots _ _ rfl) (by rw [hs.n]; rfl)) (hd_sup hs rfl) (.tmp (hs.slots _ _ rfl) (by exact id)) (.tmp (hs.slots _ _ rfl) (by exact id)) Try.underlying22 ty3 (fun hq => by (try simp at hq); exact ⟨by omega, (map_get hgw)⟩))) ?_
        refine DrawC.step rfl rfl rfl (Loc.of rfl fun σ' hs => (by exact R_load rfl (by exact .not1 rfl rfl (hs.slots _ _ rfl) (by rw [hs.n]; rfl)) (hd_sup hs rfl) (.tmp (hs.slots _ _ rfl) (by exact id)) ty3 rfl rfl)) ?_
        refine DrawC.step rfl rfl rfl (Loc.of rfl fun σ' hs => R_move rfl (by exact .not1 rfl rfl (hs.slots _ _ rfl) (by rw [hs.n]; rfl)) (hd_sup hs rfl) (.tmp (hs.slots _ _ rfl) (by exact fun _ => rfl))) ?_
        refine DrawC.step rfl rfl rfl (Loc.of rfl fun σ' hs => R_shr rfl (by exact .not1 rfl rfl (hs.slots _ _ rfl) (by rw [hs.n]; rfl)) (hd_sup hs rfl) (.tmp (hs.slots _ _ rfl) (by exact id)) (.tmp (hs.slots _ _ rfl) (by exact id)) (fun hq => by first | omega | (simp at hq; omega))) ?_
        refine DrawC.step rfl rfl rfl (Loc.of rfl fun σ' hs => R_and1 rfl (by exact .not1 rfl rfl (hs.slots _ _ rfl) (by rw [hs.n]; rfl)) (hd_sup hs rfl) (.tmp (hs.slots _ _ rfl) (by exact id)) (.const rfl) (fun _ => by first | exact Int.natCast_nonneg _ | omega)) ?_
        refine DrawC.step rfl rfl rfl (Loc.of rfl fun σ' hs => R_eq rfl (by exact .not1 rfl rfl (hs.slots _ _ rfl) (by rw [hs.n]; rfl)) (hd_sup hs rfl) (.tmp (hs.slots _ _ rfl) (by exact id)) (.const rfl)) ?_
        refine DrawC.step rfl rfl rfl (Loc.of rfl fun σ' hs => R_or rfl (.no rfl) (hd_sup hs rfl) (.tmp (hs.slots _ _ rfl) fun _ => rfl) (.tmp (hs.slots _ _ rfl) (by exact id))) ?_
        refine DrawC.step rfl rfl rfl (Loc.of rfl fun σ' hs => R_move rfl (.no rfl) (hd_sup hs rfl) (.tmp (hs.slots _ _ rfl) fun _ => rfl)) ?_
        refine DrawC.step rfl rfl rfl (Loc.of rfl fun σ' hs => (by exact R_load rfl (by exact .yes1 rfl rfl (hs.slots _ _ rfl) (by rw [hs.n]; rfl)) (hd_sup hs rfl) (.tmp (hs.slots _ _ rfl) (by exact fun _ => rfl)) ty35 rfl rfl)) ?_
        refine DrawC.step rfl rfl rfl (Loc.of rfl fun σ' hs => (by exact R_load rfl (by exact .yes1 rfl rfl (hs.slots _ _ rfl) (by rw [hs.n]; rfl)) (hd_sup hs rfl) (.tmp (hs.slots _ _ rfl) (by exact fun _ => rfl)) ty37 rfl rfl)) ?_
        refine DrawC.step rfl rfl rfl (Loc.of rfl fun σ' hs => R_move rfl (by exact .yes1 rfl rfl (hs.slots _ _ rfl) (by rw [hs.n]; rfl)) (hd_sup hs rfl) (.tmp (hs.slots _ _ rfl) (by exact fun _ => rfl))) ?_
        refine DrawC.step rfl rfl rfl (Loc.of rfl fun σ' hs => R_move rfl (by exact .yes1 rfl rfl (hs.slots _ _ rfl) (by rw [hs.n]; rfl)) (hd_sup hs rfl) (.tmp (hs.slots _ _ rfl) (by exact fun _ => rfl))) ?_
        refine DrawC.step rfl rfl rfl (Loc.of rfl fun σ' hs => R_quo rfl (by exact .yes1 rfl rfl (hs.slots _ _ rfl) (by rw [hs.n]; rfl)) (hd_sup hs rfl) (.tmp (hs.slots _ _ rfl) (by exact id)) (.tmp (hs.slots _ _ rfl) (by exact id)) (fun hq => by first | omega | (simp at hq; omega))) ?_
        refine DrawC.step rfl rfl rfl (Loc.of rfl fun σ' hs => R_move rfl (by exact .yes1 rfl rfl (hs.slots _ _ rfl) (by rw [hs.n]; rfl)) (hd_sup hs rfl) (.tmp (hs.slots _ _ rfl) (by exact fun _ => rfl))) ?_
        refine DrawC.step rfl rfl rfl (Loc.of rfl fun σ' hs => R_move rfl (by exact .yes1 rfl rfl (hs.slots _ _ rfl) (by rw [hs.n]; rfl)) (hd_sup hs rfl) (.tmp (hs.slots _ _ rfl) (by exact fun _ => rfl))) ?_
        refine DrawC.step rfl rfl rfl (Loc.of rfl fun σ' hs => R_rem rfl (by exact .yes1 rfl rfl (hs.slots _ _ rfl) (by rw [hs.n]; rfl)) (hd_sup hs rfl) (.tmp (hs.slots _ _ rfl) (by exact id)) (.tmp (hs.slots _ _ rfl) (by exact id)) (fun hq => by first | omega | (simp at hq; omega))) ?_
        refine DrawC.step rfl rfl rfl (Loc.of rfl fun σ' hs => R_callq rfl (by exact .yes1 rfl rfl (hs.slots _ _ rfl) (by rw [hs.n]; rfl)) (hd_sup hs rfl) (.cons (.tmp (hs.slots _ _ rfl) (by exact id)) (readA_sup hs rfl) (.cons (.tmp (hs.slots _ _ rfl) (by exact id)) (readA_sup hs rfl) (.cons (.tmp (hs.slots _ _ rfl) (by exact id)) (readA_sup hs rfl) (.cons (.tmp (hs.slots _ _ rfl) (by exact id)) (readA_sup hs rfl) .nil)))) fun hq => FnT.fr (specl14Accepts g a ha hg ((i : Int) / (a.Accept.length : Int)) ((i : Int) % (a.Accept.length : Int)) v (by omega) hv (by omega))) ?_
        refine DrawC.step rfl rfl rfl (Loc.of rfl fun σ' hs => R_and rfl (.no rfl) (hd_sup hs rfl) (.tmp (hs.slots _ _ rfl) fun _ => rfl) (.tmp (hs.slots _ _ rfl) (by exact id))) ?_
        refine DrawC.fin rfl rfl ?_
        refine AWl.nil ?_
        refine AW.cond (.tmp rfl fun _ => rfl) (fun h65 => ?_) (fun h65 => ?_)
        · skip
          try simp only [bit_at, bit_zero, shr_zero] at h65
          try simp only [Int.toNat_natCast] at h65
          try simp at h65
          have hhit : bycB g a x i = true := by (unfold bycB; rw [hv, Option.getD_some, ← hes, hii]; (try simp only [bit_at] at h65); simpa [Int.natCast_inj] using h65)
          refine AW.le (σ' := ⟨_, [(2, _), (3, _), (4, _), (5, _), (6, _), (7, _), (8, _), (9, _), (10, _)], [(11, _)]⟩) (Le.sub0 rfl ⟨rfl, rfl, rfl, rfl, rfl, rfl, rfl, rfl, rfl, trivial⟩ ⟨rfl, trivial⟩) ?_
          refine AW.region ?_
          refine AWl.put (R_move rfl (.no rfl) rfl (.tmp rfl fun _ => rfl)) rfl ?_
          refine AWl.put (R_move rfl (.no rfl) rfl (.tmp rfl fun _ => rfl)) rfl ?_
          refine AWl.put (R_move rfl (.no rfl) rfl (.tmp rfl fun _ => rfl)) rfl ?_
          refine AWl.put (R_move rfl (.no rfl) rfl (.tmp rfl fun _ => rfl)) rfl ?_
          refine AWl.put (R_quo rfl (.no rfl) rfl (.tmp rfl fun _ => rfl) (.tmp rfl fun _ => rfl) (fun _ => by omega)) rfl ?_
          refine AWl.put (R_build (ps := [(0, .tmp 67), (1, .tmp 70)]) rfl rfl rfl in93 rfl rfl st93 (.cons (.tmp rfl fun _ => rfl) rfl rfl fp93_0 (.cons (.tmp rfl fun _ => rfl) rfl rfl fp93_1 .nil)) rfl) rfl ?_
          apply AWl.consume
          case ho =>
            apply R_consume (xo := .tmp 66) 11 (specl15Put (setG pless (bycTo g a x ++ bycRow g a x i)) ⟨(x : Int), (i : Int) / (a.Accept.length : Int)⟩ (Nat.le_trans (setG_len _) (by rw [List.length_append]; omega))) rfl rfl rfl (.tmp rfl fun _ => rfl)
            case ha => rfl
            case hargs => exact (ArgC.own (ArgRd.agg (.tmp rfl fun _ => rfl) .nil))
            all_goals rfl
          case hd => rfl
          refine AWl.put (R_assign rfl (.no rfl) rfl (.tmp rfl fun _ => rfl)) rfl ?_
          refine AWl.nil ?_
          refine AW.le (σ' := ⟨_, [(2, _), (3, _), (4, _), (5, _), (6, _), (7, _), (8, _), (9, _), (10, _)], [(11, _)]⟩) (Le.sub0 rfl ⟨rfl, rfl, rfl, rfl, rfl, rfl, rfl, rfl, rfl, trivial⟩ ⟨rfl, trivial⟩) ?_
          refine AW.region ?_
          refine AWl.put (R_move rfl (.no rfl) rfl (.tmp rfl fun _ => rfl)) rfl ?_
          refine AWl.put (R_add rfl (.no rfl) rfl (.tmp rfl fun _ => rfl) (.const rfl) (fun _ => by omega)) rfl ?_
          refine AWl.put (R_assign rfl (.no rfl) rfl (.tmp rfl fun _ => rfl)) rfl ?_
          refine AWl.nil ?_
          repeat (with_reducible refine BlockQ.nor ?_)
          refine Round1.next (i + 1) ⟨by omega, trivial⟩ (by omega) (Le.sub0 rfl ⟨rfl, rfl, rfl, rfl, rfl, rfl, rfl, rfl, rfl, trivial⟩ ⟨(by refine congrArg (fun r => some (R.row 2 r)) ?_; first | (rw [bycRow_succ, hhit, ← setG_snoc]; simp; done) | (rw [bycRow_succ, hhit]; simp; done) | (rw [bycTo_succ, show i = NP g a by first | omega | (simp at h39; omega)]; done) | (simp [bycRow]; done)), trivial⟩)
        · skip
          try simp only [bit_at, bit_zero, shr_zero] at h65
          try simp only [Int.toNat_natCast] at h65
          try simp at h65
          have hhit : bycB g a x i = false := by (unfold bycB; rw [hv, Option.getD_some, ← hes, hii]; (try simp only [bit_at] at h65); simpa using h65)
          refine AW.skip ?_
          refine AW.le (σ' := ⟨_, [(2, _), (3, _), (4, _), (5, _), (6, _), (7, _), (8, _), (9, _), (10, _)], [(11, _)]⟩) (Le.sub0 rfl ⟨rfl, rfl, rfl, rfl, rfl, rfl, rfl, rfl, rfl, trivial⟩ ⟨rfl, trivial⟩) ?_
          refine AW.region ?_
          refine AWl.put (R_move rfl (.no rfl) rfl (.tmp rfl fun _ => rfl)) rfl ?_
          refine AWl.put (R_add rfl (.no rfl) rfl (.tmp rfl fun _ => rfl) (.const rfl) (fun _ => by omega)) rfl ?_
          refine AWl.put (R_assign rfl (.no rfl) rfl (.tmp rfl fun _ => rfl)) rfl ?_
          refine AWl.nil ?_
          repeat (with_reducible refine BlockQ.nor ?_)
          refine Round1.next (i + 1) ⟨by omega, trivial⟩ (by omega) (Le.sub0 rfl ⟨rfl, rfl, rfl, rfl, rfl, rfl, rfl, rfl, rfl, trivial⟩ ⟨(by refine congrArg (fun r => some (R.row 2 r)) ?_; first | (rw [bycRow_succ, hhit, ← setG_snoc]; simp; done) | (rw [bycRow_succ, hhit]; simp; done) | (rw [bycTo_succ, show i = NP g a by first | omega | (simp at h39; omega)]; done) | (simp [bycRow]; done)), trivial⟩)
      · skip
        try simp only [bit_at, bit_zero, shr_zero] at h39
        try simp only [Int.toNat_natCast] at h39
        try simp at h39
        refine AW.exit ?_
        refine AW.region ?_
        refine AWl.put (R_move rfl (.no rfl) rfl (.tmp rfl fun _ => rfl)) rfl ?_
        refine AWl.put (R_add rfl (.no rfl) rfl (.tmp rfl fun _ => rfl) (.const rfl) (fun _ => by omega)) rfl ?_
        refine AWl.put (R_assign rfl (.no rfl) rfl (.tmp rfl fun _ => rfl)) rfl ?_
        refine AWl.nil ?_
        repeat (with_reducible refine BlockQ.nor ?_)
        refine Round1.next (x + 1) ⟨by omega, trivial⟩ (by omega) (Le.sub0 rfl ⟨rfl, rfl, rfl, rfl, rfl, rfl, rfl, trivial⟩ ⟨(by refine congrArg (fun r => some (R.row 2 r)) ?_; first | (rw [bycRow_succ, hhit, ← setG_snoc]; simp; done) | (rw [bycRow_succ, hhit]; simp; done) | (rw [bycTo_succ, show i = NP g a by first | omega | (simp at h39; omega)]; done) | (simp [bycRow]; done)), trivial⟩)
    · skip
      try simp only [bit_at, bit_zero, shr_zero] at h27
      try simp only [Int.toNat_natCast] at h27
      try simp at h27
      refine AW.exit ?_
      refine AW.seq ?_
      refine AW.region ?_
      refine AWl.put (R_move rfl (.no rfl) rfl (.tmp rfl fun _ => rfl)) rfl ?_
      refine AWl.put (R_assign rfl (.no rfl) rfl (.tmp rfl fun _ => rfl)) rfl ?_
      refine AWl.nil ?_
      refine AW.ret ?_
      refine Res.one rfl (.tmp rfl .nil) rfl ?_
      unfold allAns; rw [if_pos hgc, show x = g.Values.length by omega, byc_all ha hg]; rfl
end Go.Proofs.Ytbfejakbaijmhaa
