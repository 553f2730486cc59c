/- The answers of an automaton from a node, and all of them: both texts. -/
import Derived.Test.YtbfejakbaijmhaaGreatB38xf
import Derived.Test.YtbfejakbaijmhaaGreatB34xf
set_option linter.unusedVariables false
set_option linter.unusedSimpArgs false
set_option maxHeartbeats 1000000
set_option maxRecDepth 100000
namespace Go.Q
open Go.D
def hitB (g : TGraph) (a : TAutomaton) (RK : List Int) (p : Nat) : Bool := decide (0 ≤ atI RK (p : Int)) && acc a ((p : Int) % (a.Accept.length : Int)) (g.Values[((p : Int) / (a.Accept.length : Int)).toNat]?.getD 0)
def hitsN (g : TGraph) (a : TAutomaton) (RK : List Int) (i : Nat) : List Int := ((List.range i).filter (hitB g a RK)).map fun (p : Nat) => (p : Int) / (a.Accept.length : Int)
theorem hitsN_succ (g : TGraph) (a : TAutomaton) (RK : List Int) (i : Nat) : hitsN g a RK (i + 1) = hitsN g a RK i ++ if hitB g a RK i then [(i : Int) / (a.Accept.length : Int)] else [] := by
  unfold hitsN
  rw [range_filter_succ, List.map_append]
  cases hitB g a RK i <;> rfl
theorem hitsN_len (g : TGraph) (a : TAutomaton) (RK : List Int) (i : Nat) : (hitsN g a RK i).length ≤ i := by
  unfold hitsN
  rw [List.length_map]
  exact Nat.le_trans (List.length_filter_le _ _) (by simp)
theorem hitsN_rng {g : TGraph} {a : TAutomaton} (ha : validA a = true) {RK : List Int} {i : Nat} (hi : i ≤ a.Accept.length * g.Values.length) : ∀ y ∈ hitsN g a RK i, 0 ≤ y ∧ y < g.Values.length := by
  intro y hy
  unfold hitsN at hy
  obtain ⟨p, hp, rfl⟩ := List.mem_map.1 hy
  have := List.mem_range.1 (List.mem_filter.1 hp).1
  exact (nd_ok (by have := validA_len ha; omega) (show p < a.Accept.length * g.Values.length by omega)).1
def ansL (g : TGraph) (a : TAutomaton) (x : Int) : List Int := ascL (hitsN g a (ranksOf g a x) (a.Accept.length * g.Values.length))
theorem wB_snoc (l : List Int) (x : Int) : wB (l ++ [x]) = wB l ||| 2 ^ x.toNat := by unfold wB; rw [List.foldl_append]; rfl
/-- The bits of a number below a bound, as numbers that ascend. -/
def setI (m b : Nat) : List Int := ((List.range b).filter m.testBit).map fun (q : Nat) => (q : Int)
theorem setI_strict (m b : Nat) : StrictS ltI (setI m b) := by
  unfold setI StrictS
  rw [List.pairwise_map]
  refine List.Pairwise.filter _ ?_
  refine List.Pairwise.imp ?_ List.pairwise_lt_range
  intro p q h
  unfold ltI
  simp; omega
theorem setI_asc {l : List Int} {b : Nat} (hl : ∀ x ∈ l, 0 ≤ x ∧ x < b) : setI (wB l) b = ascL l := by
  refine strict_ext ltI_so (setI_strict _ _) (setG_strict ltI_so l) fun x => ?_
  rw [mem_ascL]
  unfold setI
  simp only [List.mem_map, List.mem_filter, List.mem_range]
  constructor
  · rintro ⟨q, ⟨_, h2⟩, rfl⟩
    exact (wB_test (fun k hk => (hl k hk).1) q).1 h2
  · intro h
    have := hl x h
    refine ⟨x.toNat, ⟨by omega, ?_⟩, by omega⟩
    exact (wB_test (fun k hk => (hl k hk).1) _).2 (by rwa [Int.toNat_of_nonneg this.1])
theorem ansL_len {g : TGraph} {a : TAutomaton} (ha : validA a = true) (hg : validG g = true) (x : Int) : (ansL g a x).length ≤ 60 := Nat.le_trans (setG_len _) (Nat.le_trans (hitsN_len _ _ _ _) (prod_le ha hg).2)
def ansF (g : TGraph) (a : TAutomaton) (x : Int) : List Int := if goodB g a x 0 then ansL g a x else []
end Go.Q
namespace Go.Proofs.YtbfejakbaijmhaaGreat
open Go.RowKit Go.Q Go.D
theorem implAnswersFrom_ok (g : TGraph) (a : TAutomaton) (ha : validA a = true) (hg : validG g = true) (x : Int) (hx : 0 ≤ x ∧ x < g.Values.length) : FnT Tryz.prog 58 [.agg (cGraph g), .agg (cAutomaton a), .one (.v (.int .i64 x))] (.a (.one (.sl 1 ((ansL g a x).map cInt)))) := by
  refine FnT.walk Tryz.func58 rfl (by kernel_rfl) Tryz.ntmps58 rfl fun hlen w0 => ?_
  try simp [cPair, cToken, cExpr, cEdge, cGraph, cStep, cWalk, cChange, cBatch, cHistory, cPositions, cAutomaton, cProductStep, cPathAtom, cConjunction, cView, cDelta, cRegistered, cRegistry] at hlen
  have hA := validA_len ha
  have hG := validG_len hg
  have hN : 1 ≤ NP g a ∧ NP g a ≤ 60 := prod_le ha hg
  have hRK := ranks_ok ha hg hx
  have hRl : (ranksOf g a x).length = NP g a := hRK.1
  refine AW.seq ?_
  refine AW.region ?_
  refine AWl.put (R_boxz rfl rfl rfl (.tmp rfl fun _ => rfl) (ts := _) (by rfl)) rfl ?_
  refine AWl.put (R_boxz rfl rfl rfl (.tmp rfl fun _ => rfl) (ts := _) (by rfl)) rfl ?_
  refine AWl.put (R_assign rfl (.no rfl) rfl (.const rfl)) rfl ?_
  refine AWl.nilS (i := 6) 20001 1 rfl rfl ?_
  refine AWl.nil ?_
  refine AW.seq ?_
  refine AW.region ?_
  refine AWl.add (R_empty 11 rfl rfl rfl Tryz.underlying22 ty3 rfl) rfl ?_
  refine AWl.put (R_assign rfl (.no rfl) rfl (.tmp rfl fun _ => rfl)) rfl ?_
  refine AWl.nil ?_
  refine AW.seq ?_
  refine AW.region ?_
  refine AWl.put ((by exact R_fieldAddr rfl (.no rfl) rfl (.tmp rfl fun _ => rfl) fl59_1)) rfl ?_
  refine AWl.put ((by exact R_load rfl (.no rfl) rfl (.tmp rfl fun _ => rfl) ty51 rfl rfl)) rfl ?_
  refine AWl.put ((by exact R_lenm rfl (.no rfl) rfl (.tmp rfl fun _ => rfl) (by exact .t) Tryz.underlying51)) rfl ?_
  refine AWl.put (R_assign rfl (.no rfl) rfl (.tmp rfl fun _ => rfl)) rfl ?_
  refine AWl.nil ?_
  refine AW.seq ?_
  refine AW.seq ?_
  refine AW.region ?_
  refine AWl.put ((by exact R_load rfl (.no rfl) rfl (.tmp rfl fun _ => rfl) ty33 rfl rfl)) rfl ?_
  refine AWl.put ((by exact R_load rfl (.no rfl) rfl (.tmp rfl fun _ => rfl) ty59 rfl rfl)) rfl ?_
  refine AWl.put (R_move rfl (.no rfl) rfl (.tmp rfl fun _ => rfl)) rfl ?_
  refine AWl.put (R_callz (FnT.fr (implDistancesFrom g a ha hg x hx)) rfl (.no rfl) rfl (.cons (.tmp rfl fun _ => rfl) rfl (.cons (.tmp rfl fun _ => rfl) rfl (.cons (.tmp rfl fun _ => rfl) rfl .nil)))) rfl ?_
  refine AWl.put ((by exact R_lenm rfl (.no rfl) rfl (.tmp rfl fun _ => rfl) (by exact .t) Tryz.underlying22)) rfl ?_
  refine AWl.put (R_move rfl (.no rfl) rfl (.const rfl)) rfl ?_
  refine AWl.nil ?_
  refine AW.block ?_
  refine AW.loop1 (fun (i : Nat) => (i ≤ NP g a) ∧ True) (fun (i : Nat) => ⟨_, [(20, (true, .a (.one (.t (.v (.int .i64 (i : Nat))))))), (7, (true, .a (.one (.rf 11)))), (3, _), (4, _), (6, _), (8, _), (18, _), (19, _)], [(11, .row 1 ((hitsN g a (ranksOf g a x) i).map cInt))]⟩) (fun (i : Nat) => NP g a - i) (0) ⟨Nat.zero_le _, trivial⟩ (Le.sub0 rfl ⟨rfl, rfl, rfl, rfl, rfl, rfl, rfl, rfl, trivial⟩ ⟨rfl, trivial⟩) ?_
  rintro i ⟨hk, he⟩
  refine AW.seq ?_
  refine AW.region ?_
  refine AWl.put (R_lt rfl (.no rfl) rfl (.tmp rfl fun _ => rfl) (.tmp rfl fun _ => rfl)) rfl ?_
  refine AWl.nil ?_
  refine AW.seq ?_
  refine AW.cond (.tmp rfl fun _ => rfl) (fun h21 => ?_) (fun h21 => ?_)
  · skip
    try simp at h21
    have hiN : i < NP g a := by omega
    have hdm := nd_ok (p := i) hA.1 (show i < NP g a from hiN)
    obtain ⟨v, hv⟩ : ∃ v, g.Values[((i : Int) / (a.Accept.length : Int)).toNat]? = some v := ⟨_, List.getElem?_eq_getElem (by omega)⟩
    have hvr := validG_val hg hv
    have hgi := atI_get (out := ranksOf g a x) (k := (i : Int)) (by omega)
    have hhl := hitsN_len g a (ranksOf g a x) i
    have hpw : 2 ^ ((i : Int) % (a.Accept.length : Int)).toNat < 2 ^ a.Accept.length := Nat.pow_lt_pow_right (by omega) (by omega)
    refine AW.skip ?_
    refine AW.seq ?_
    refine AW.block ?_
    refine AW.seq ?_
    refine AW.region ?_
    refine AWl.put (R_move rfl (.no rfl) rfl (.tmp rfl fun _ => rfl)) rfl ?_
    refine AWl.put ((by exact R_indexAddr rfl (.no rfl) rfl (.tmp rfl fun _ => rfl) (.tmp rfl fun _ => rfl) Tryz.underlying22 ty3 (fun _ => ⟨by omega, (by exact map_get hgi)⟩))) rfl ?_
    refine AWl.put ((by exact R_load rfl (.no rfl) rfl (.tmp rfl fun _ => rfl) ty3 rfl rfl)) rfl ?_
    refine AWl.put (R_assign rfl (.no rfl) rfl (.tmp rfl fun _ => rfl)) rfl ?_
    refine AWl.put (R_assign rfl (.no rfl) rfl (.tmp rfl fun _ => rfl)) rfl ?_
    refine AWl.nil ?_
    refine AW.seq ?_
    refine AW.drawn 17 (nthB [[], [0], [0, 1], [0, 1, 2], [0, 1, 2], [0, 1, 2], [0, 1, 2, 4, 5], [0, 1, 2, 4, 5, 6], [0, 1, 2], [0, 1, 2, 8], [0, 1, 2], [0, 1, 2], [0, 1, 2, 10, 11], [0, 1, 2, 8, 9, 10, 11, 12], [0, 1, 2, 8, 9, 10, 11, 12, 13], [0, 1, 2, 3, 4, 5, 6, 7, 8, 9, 10, 11, 12, 13, 14], [0, 1, 2, 3, 4, 5, 6, 7, 8, 9, 10, 11, 12, 13, 14, 15]]) (by kernel_rfl) (by kernel_rfl) (by kernel_rfl) ?_
    refine DrawC.step rfl rfl rfl (Loc.of rfl fun σ' hs => R_move rfl (.no rfl) (hd_sup hs rfl) (.tmp (hs.slots _ _ rfl) fun _ => rfl)) ?_
    refine DrawC.step rfl rfl rfl (Loc.of rfl fun σ' hs => R_ge rfl (.no rfl) (hd_sup hs rfl) (.tmp (hs.slots _ _ rfl) fun _ => rfl) (.const rfl)) ?_
    refine DrawC.step rfl rfl rfl (Loc.of rfl fun σ' hs => R_move rfl (.no rfl) (hd_sup hs rfl) (.tmp (hs.slots _ _ rfl) fun _ => rfl)) ?_
    refine DrawC.step rfl rfl rfl (Loc.of rfl fun σ' hs => (by exact R_load rfl (by exact .yes1 rfl rfl (hs.slots _ _ rfl) (by rw [hs.n]; rfl)) (hd_sup hs rfl) (.tmp (hs.slots _ _ rfl) (by exact fun _ => rfl)) ty59 rfl rfl)) ?_
    refine DrawC.step rfl rfl rfl (Loc.of rfl fun σ' hs => R_move rfl (by exact .yes1 rfl rfl (hs.slots _ _ rfl) (by rw [hs.n]; rfl)) (hd_sup hs rfl) (.tmp (hs.slots _ _ rfl) (by exact fun _ => rfl))) ?_
    refine DrawC.step rfl rfl rfl (Loc.of rfl fun σ' hs => R_move rfl (by exact .yes1 rfl rfl (hs.slots _ _ rfl) (by rw [hs.n]; rfl)) (hd_sup hs rfl) (.tmp (hs.slots _ _ rfl) (by exact fun _ => rfl))) ?_
    refine DrawC.step rfl rfl rfl (Loc.of rfl fun σ' hs => R_rem rfl (by exact .yes1 rfl rfl (hs.slots _ _ rfl) (by rw [hs.n]; rfl)) (hd_sup hs rfl) (.tmp (hs.slots _ _ rfl) (by exact id)) (.tmp (hs.slots _ _ rfl) (by exact id)) (fun hq => by first | omega | (simp at hq; omega))) ?_
    refine DrawC.step rfl rfl rfl (Loc.of rfl fun σ' hs => R_shlN rfl (by exact .yes1 rfl rfl (hs.slots _ _ rfl) (by rw [hs.n]; rfl)) (hd_sup hs rfl) (.const rfl) (.tmp (hs.slots _ _ rfl) (by exact id)) (fun hq => by first | omega | (simp at hq; omega))) ?_
    refine DrawC.step rfl rfl rfl (Loc.of rfl fun σ' hs => (by exact R_fieldAddr rfl (by exact .yes1 rfl rfl (hs.slots _ _ rfl) (by rw [hs.n]; rfl)) (hd_sup hs rfl) (.tmp (hs.slots _ _ rfl) (by exact fun _ => rfl)) fl33_0)) ?_
    refine DrawC.step rfl rfl rfl (Loc.of rfl fun σ' hs => (by exact R_load rfl (by exact .yes1 rfl rfl (hs.slots _ _ rfl) (by rw [hs.n]; rfl)) (hd_sup hs rfl) (.tmp (hs.slots _ _ rfl) (by exact id)) ty22 rfl rfl)) ?_
    refine DrawC.step rfl rfl rfl (Loc.of rfl fun σ' hs => R_move rfl (by exact .yes1 rfl rfl (hs.slots _ _ rfl) (by rw [hs.n]; rfl)) (hd_sup hs rfl) (.tmp (hs.slots _ _ rfl) (by exact fun _ => rfl))) ?_
    refine DrawC.step rfl rfl rfl (Loc.of rfl fun σ' hs => R_move rfl (by exact .yes1 rfl rfl (hs.slots _ _ rfl) (by rw [hs.n]; rfl)) (hd_sup hs rfl) (.tmp (hs.slots _ _ rfl) (by exact fun _ => rfl))) ?_
    refine DrawC.step rfl rfl rfl (Loc.of rfl fun σ' hs => R_quo rfl (by exact .yes1 rfl rfl (hs.slots _ _ rfl) (by rw [hs.n]; rfl)) (hd_sup hs rfl) (.tmp (hs.slots _ _ rfl) (by exact id)) (.tmp (hs.slots _ _ rfl) (by exact id)) (fun hq => by first | omega | (simp at hq; omega))) ?_
    refine DrawC.step rfl rfl rfl (Loc.of rfl fun σ' hs => (by exact R_indexAddr rfl (by exact .yes1 rfl rfl (hs.slots _ _ rfl) (by rw [hs.n]; rfl)) (hd_sup hs rfl) (.tmp (hs.slots _ _ rfl) (by exact id)) (.tmp (hs.slots _ _ rfl) (by exact id)) Tryz.underlying22 ty3 (fun hq => by (try simp at hq); exact ⟨by omega, (by exact map_get hv)⟩))) ?_
    refine DrawC.step rfl rfl rfl (Loc.of rfl fun σ' hs => (by exact R_load rfl (by exact .yes1 rfl rfl (hs.slots _ _ rfl) (by rw [hs.n]; rfl)) (hd_sup hs rfl) (.tmp (hs.slots _ _ rfl) (by exact id)) ty3 rfl rfl)) ?_
    refine DrawC.step rfl rfl rfl (Loc.of rfl fun σ' hs => R_callq rfl (by exact .yes1 rfl rfl (hs.slots _ _ rfl) (by rw [hs.n]; rfl)) (hd_sup hs rfl) (.cons (.tmp (hs.slots _ _ rfl) (by exact id)) (readA_sup hs rfl) (.cons (.tmp (hs.slots _ _ rfl) (by exact id)) (readA_sup hs rfl) (.cons (.tmp (hs.slots _ _ rfl) (by exact id)) (readA_sup hs rfl) .nil))) fun hq => FnT.fr (implacceptsAt a ha (2 ^ ((i : Int) % (a.Accept.length : Int)).toNat) hpw v hvr)) ?_
    refine DrawC.step rfl rfl rfl (Loc.of rfl fun σ' hs => R_and rfl (.no rfl) (hd_sup hs rfl) (.tmp (hs.slots _ _ rfl) fun _ => rfl) (.tmp (hs.slots _ _ rfl) (by exact id))) ?_
    refine DrawC.fin rfl rfl ?_
    refine AWl.nil ?_
    refine AW.cond (.tmp rfl fun _ => rfl) (fun h41 => ?_) (fun h41 => ?_)
    · skip
      rw [accS_pow a v (by omega)] at h41
      have hhit : hitB g a (ranksOf g a x) i = true := by (unfold hitB; rw [hv, Option.getD_some]; simpa [Int.toNat_of_nonneg hdm.2.1] using h41)
      refine AW.le (σ' := ⟨_, [(3, _), (4, _), (6, _), (7, _), (8, _), (9, _), (10, _), (18, _), (19, _), (20, _)], [(11, _)]⟩) (Le.sub0 rfl ⟨rfl, rfl, rfl, rfl, rfl, rfl, rfl, rfl, rfl, rfl, trivial⟩ ⟨rfl, trivial⟩) ?_
      refine AW.region ?_
      refine AWl.put (R_move rfl (.no rfl) rfl (.tmp rfl fun _ => rfl)) rfl ?_
      refine AWl.put (R_move rfl (.no rfl) rfl (.tmp rfl fun _ => rfl)) rfl ?_
      refine AWl.put (R_move rfl (.no rfl) rfl (.tmp rfl fun _ => rfl)) rfl ?_
      refine AWl.put (R_quo rfl (.no rfl) rfl (.tmp rfl fun _ => rfl) (.tmp rfl fun _ => rfl) (fun _ => by omega)) rfl ?_
      refine AWl.absadd (R_list (xs := [.tmp 45]) 46 rfl rfl rfl (.cons (.tmp rfl fun _ => rfl) rfl rfl .nil) Tryz.underlying22 in3 rfl rfl rfl rfl) rfl ?_
      refine AWl.chgput (R_append rfl rfl rfl (.tmp rfl fun _ => rfl) rfl (.tmp rfl fun _ => rfl) (by exact .rf rfl) (by rfl) Tryz.underlying22 in3 rfl (by (simp [chunk]; omega)) (by (unfold maxLen; simp [chunk]; omega))) rfl ?_
      refine AWl.le (σ' := ⟨_, [(3, _), (4, _), (6, _), (7, _), (8, _), (9, _), (10, _), (18, _), (19, _), (20, _), (47, _)], [(11, _), (46, _)]⟩) (Le.sub0 rfl ⟨rfl, rfl, rfl, rfl, rfl, rfl, rfl, rfl, rfl, rfl, rfl, trivial⟩ ⟨rfl, rfl, trivial⟩) ?_
      refine AWl.put (R_assign rfl (.no rfl) rfl (.tmp rfl fun _ => rfl)) rfl ?_
      refine AWl.nil ?_
      refine AW.region ?_
      refine AWl.put (R_add rfl (.no rfl) rfl (.tmp rfl fun _ => rfl) (.const rfl) (fun _ => by omega)) rfl ?_
      refine AWl.put (R_move rfl (.no rfl) rfl (.tmp rfl fun _ => rfl)) rfl ?_
      refine AWl.nil ?_
      repeat (with_reducible refine BlockQ.nor ?_)
      refine Round1.next (i + 1) ⟨by omega, trivial⟩ (by omega) (Le.sub0 rfl ⟨rfl, rfl, rfl, rfl, rfl, rfl, rfl, rfl, trivial⟩ ⟨(by refine congrArg (fun r => some (R.row 1 r)) ?_; first | (rw [hitsN_succ, hhit]; simp [chunk, cInt]; done) | (rw [hitsN_succ, hhit]; simp; done)), trivial⟩)
    · skip
      rw [accS_pow a v (by omega)] at h41
      have hhit : hitB g a (ranksOf g a x) i = false := by (unfold hitB; rw [hv, Option.getD_some]; simpa [Int.toNat_of_nonneg hdm.2.1] using h41)
      refine AW.skip ?_
      refine AW.le (σ' := ⟨_, [(3, _), (4, _), (6, _), (7, _), (8, _), (9, _), (10, _), (18, _), (19, _), (20, _)], [(11, _)]⟩) (Le.sub0 rfl ⟨rfl, rfl, rfl, rfl, rfl, rfl, rfl, rfl, rfl, rfl, trivial⟩ ⟨rfl, trivial⟩) ?_
      refine AW.region ?_
      refine AWl.put (R_add rfl (.no rfl) rfl (.tmp rfl fun _ => rfl) (.const rfl) (fun _ => by omega)) rfl ?_
      refine AWl.put (R_move rfl (.no rfl) rfl (.tmp rfl fun _ => rfl)) rfl ?_
      refine AWl.nil ?_
      repeat (with_reducible refine BlockQ.nor ?_)
      refine Round1.next (i + 1) ⟨by omega, trivial⟩ (by omega) (Le.sub0 rfl ⟨rfl, rfl, rfl, rfl, rfl, rfl, rfl, rfl, trivial⟩ ⟨(by refine congrArg (fun r => some (R.row 1 r)) ?_; first | (rw [hitsN_succ, hhit]; simp [chunk, cInt]; done) | (rw [hitsN_succ, hhit]; simp; done)), trivial⟩)
  · skip
    try simp at h21
    refine AW.exit ?_
    refine AW.seq ?_
    refine AW.le (σ' := ⟨_, [(3, _), (4, _), (6, _), (7, _), (8, _), (18, _), (19, _), (20, _)], [(11, .row 1 ((hitsN g a (ranksOf g a x) (NP g a)).map cInt))]⟩) (Le.sub0 rfl ⟨rfl, rfl, rfl, rfl, rfl, rfl, rfl, rfl, trivial⟩ ⟨by rw [show i = NP g a by omega]; rfl, trivial⟩) ?_
    refine AW.region ?_
    refine AWl.put (R_move rfl (.no rfl) rfl (.tmp rfl fun _ => rfl)) rfl ?_
    refine AWl.adds (R_call 5000 (implascending (hitsN g a (ranksOf g a x) (NP g a)) (Nat.le_trans (hitsN_len _ _ _ _) (by omega))) rfl rfl rfl (.cons (.tmp rfl fun _ => rfl) rfl .nil) rfl rfl) rfl ?_
    refine AWl.put (R_assign rfl (.no rfl) rfl (.tmp rfl fun _ => rfl)) rfl ?_
    refine AWl.nil ?_
    refine AW.ret ?_
    refine Res.one rfl (.tmp rfl .nil) rfl ?_
    rfl
theorem implDistancesFrom_nil (g : TGraph) (a : TAutomaton) (x : Int) (hb : bothB g a [x] = false) : FnT Tryz.prog 99 [.agg (cGraph g), .agg (cAutomaton a), .one (.v (.int .i64 x))] (.a (.one (.sl 1 (([] : List Int).map cInt)))) := by
  refine FnT.walk Tryz.func99 rfl (by kernel_rfl) Tryz.ntmps99 rfl fun hlen w0 => ?_
  try simp [cPair, cToken, cExpr, cEdge, cGraph, cStep, cWalk, cChange, cBatch, cHistory, cPositions, cAutomaton, cProductStep, cPathAtom, cConjunction, cView, cDelta, cRegistered, cRegistry] at hlen
  skip
  refine AW.seq ?_
  refine AW.region ?_
  refine AWl.put (R_boxz rfl rfl rfl (.tmp rfl fun _ => rfl) (ts := _) (by rfl)) rfl ?_
  refine AWl.put (R_boxz rfl rfl rfl (.tmp rfl fun _ => rfl) (ts := _) (by rfl)) rfl ?_
  refine AWl.put (R_assign rfl (.no rfl) rfl (.const rfl)) rfl ?_
  refine AWl.nilS (i := 6) 20001 1 rfl rfl ?_
  refine AWl.nil ?_
  refine AW.seq ?_
  refine AW.seq ?_
  refine AW.region ?_
  refine AWl.put ((by exact R_load rfl (.no rfl) rfl (.tmp rfl fun _ => rfl) ty33 rfl rfl)) rfl ?_
  refine AWl.put ((by exact R_load rfl (.no rfl) rfl (.tmp rfl fun _ => rfl) ty59 rfl rfl)) rfl ?_
  refine AWl.put (R_move rfl (.no rfl) rfl (.tmp rfl fun _ => rfl)) rfl ?_
  refine AWl.put (R_listz (xs := [.tmp 9]) (rows := [cInt x]) rfl rfl rfl (.cons (.tmp rfl fun _ => rfl) rfl rfl .nil) Tryz.underlying22 in3 rfl rfl (rfl)) rfl ?_
  refine AWl.put (R_callz (FnT.fr (implbothOk g a [x])) rfl (.no rfl) rfl (.cons (.tmp rfl fun _ => rfl) rfl (.cons (.tmp rfl fun _ => rfl) rfl (.cons (.tmp rfl fun _ => rfl) rfl .nil)))) rfl ?_
  refine AWl.put (R_not rfl (.no rfl) rfl (.tmp rfl fun _ => rfl)) rfl ?_
  refine AWl.nil ?_
  refine AW.cond (.tmp rfl fun _ => rfl) (fun h12 => ?_) (fun h12 => ?_)
  · skip
    try simp at h12
    refine AW.seq ?_
    refine AW.le (σ' := ⟨_, [(0, _), (1, _), (2, _), (3, _), (4, _), (6, _)], [(20001, _)]⟩) (Le.sub0 rfl ⟨rfl, rfl, rfl, rfl, rfl, rfl, trivial⟩ ⟨rfl, trivial⟩) ?_
    refine AW.region ?_
    refine AWl.put (R_assign rfl (.no rfl) rfl (.const rfl)) rfl ?_
    refine AWl.nilS (i := 6) 20002 1 rfl rfl ?_
    refine AWl.nil ?_
    refine AW.ret ?_
    refine Res.one rfl (.tmp rfl .nil) rfl ?_
    rfl
  · exact absurd h12 (by simp [hb])
theorem implAnswersFrom_bad (g : TGraph) (a : TAutomaton) (x : Int) (hb : goodB g a x 0 = false) : FnT Tryz.prog 58 [.agg (cGraph g), .agg (cAutomaton a), .one (.v (.int .i64 x))] (.a (.one (.sl 1 (([] : List Int).map cInt)))) := by
  refine FnT.walk Tryz.func58 rfl (by kernel_rfl) Tryz.ntmps58 rfl fun hlen w0 => ?_
  try simp [cPair, cToken, cExpr, cEdge, cGraph, cStep, cWalk, cChange, cBatch, cHistory, cPositions, cAutomaton, cProductStep, cPathAtom, cConjunction, cView, cDelta, cRegistered, cRegistry] at hlen
  skip
  refine AW.seq ?_
  refine AW.region ?_
  refine AWl.put (R_boxz rfl rfl rfl (.tmp rfl fun _ => rfl) (ts := _) (by rfl)) rfl ?_
  refine AWl.put (R_boxz rfl rfl rfl (.tmp rfl fun _ => rfl) (ts := _) (by rfl)) rfl ?_
  refine AWl.put (R_assign rfl (.no rfl) rfl (.const rfl)) rfl ?_
  refine AWl.nilS (i := 6) 20001 1 rfl rfl ?_
  refine AWl.nil ?_
  refine AW.seq ?_
  refine AW.region ?_
  refine AWl.add (R_empty 11 rfl rfl rfl Tryz.underlying22 ty3 rfl) rfl ?_
  refine AWl.put (R_assign rfl (.no rfl) rfl (.tmp rfl fun _ => rfl)) rfl ?_
  refine AWl.nil ?_
  refine AW.seq ?_
  refine AW.region ?_
  refine AWl.put ((by exact R_fieldAddr rfl (.no rfl) rfl (.tmp rfl fun _ => rfl) fl59_1)) rfl ?_
  refine AWl.put ((by exact R_load rfl (.no rfl) rfl (.tmp rfl fun _ => rfl) ty51 rfl rfl)) rfl ?_
  refine AWl.put ((by exact R_lenm rfl (.no rfl) rfl (.tmp rfl fun _ => rfl) (by exact .t) Tryz.underlying51)) rfl ?_
  refine AWl.put (R_assign rfl (.no rfl) rfl (.tmp rfl fun _ => rfl)) rfl ?_
  refine AWl.nil ?_
  refine AW.seq ?_
  refine AW.seq ?_
  refine AW.region ?_
  refine AWl.put ((by exact R_load rfl (.no rfl) rfl (.tmp rfl fun _ => rfl) ty33 rfl rfl)) rfl ?_
  refine AWl.put ((by exact R_load rfl (.no rfl) rfl (.tmp rfl fun _ => rfl) ty59 rfl rfl)) rfl ?_
  refine AWl.put (R_move rfl (.no rfl) rfl (.tmp rfl fun _ => rfl)) rfl ?_
  refine AWl.put (R_callz (FnT.fr (implDistancesFrom_nil g a x (by rw [both_good]; exact hb))) rfl (.no rfl) rfl (.cons (.tmp rfl fun _ => rfl) rfl (.cons (.tmp rfl fun _ => rfl) rfl (.cons (.tmp rfl fun _ => rfl) rfl .nil)))) rfl ?_
  refine AWl.put ((by exact R_lenm rfl (.no rfl) rfl (.tmp rfl fun _ => rfl) (by exact .t) Tryz.underlying22)) rfl ?_
  refine AWl.put (R_move rfl (.no rfl) rfl (.const rfl)) rfl ?_
  refine AWl.nil ?_
  refine AW.block ?_
  refine AW.loop1 (fun (i : Nat) => (i = 0) ∧ True) (fun (i : Nat) => ⟨_, [(20, (true, .a (.one (.t (.v (.int .i64 (i : Nat))))))), (7, (true, .a (.one (.rf 11)))), (3, _), (4, _), (6, _), (8, _), (18, _), (19, _)], [(11, .row 1 (([] : List Int).map cInt))]⟩) (fun (i : Nat) => 0 - i) (0) ⟨rfl, trivial⟩ (Le.sub0 rfl ⟨rfl, rfl, rfl, rfl, rfl, rfl, rfl, rfl, trivial⟩ ⟨rfl, trivial⟩) ?_
  rintro i ⟨hk, he⟩
  refine AW.seq ?_
  refine AW.region ?_
  refine AWl.put (R_lt rfl (.no rfl) rfl (.tmp rfl fun _ => rfl) (.tmp rfl fun _ => rfl)) rfl ?_
  refine AWl.nil ?_
  refine AW.seq ?_
  refine AW.cond (.tmp rfl fun _ => rfl) (fun h21 => ?_) (fun h21 => ?_)
  · exact absurd h21 (by simp at h21; omega)
  · skip
    try simp at h21
    refine AW.exit ?_
    refine AW.seq ?_
    refine AW.region ?_
    refine AWl.put (R_move rfl (.no rfl) rfl (.tmp rfl fun _ => rfl)) rfl ?_
    refine AWl.adds (R_call 5000 (implascending [] (by simp)) rfl rfl rfl (.cons (.tmp rfl fun _ => rfl) rfl .nil) rfl rfl) rfl ?_
    refine AWl.put (R_assign rfl (.no rfl) rfl (.tmp rfl fun _ => rfl)) rfl ?_
    refine AWl.nil ?_
    refine AW.ret ?_
    refine Res.one rfl (.tmp rfl .nil) rfl ?_
    rfl
theorem implAnswersFrom (g : TGraph) (a : TAutomaton) (x : Int) : FnT Tryz.prog 58 [.agg (cGraph g), .agg (cAutomaton a), .one (.v (.int .i64 x))] (.a (.one (.sl 1 ((ansF g a x).map cInt)))) := by
  cases hb : goodB g a x 0 with
  | false => unfold ansF; rw [hb]; exact implAnswersFrom_bad g a x hb
  | true => unfold ansF; rw [hb]; exact implAnswersFrom_ok g a (good_parts hb).2.1 (good_parts hb).1 x (good_parts hb).2.2
end Go.Proofs.YtbfejakbaijmhaaGreat
