/- Answers of a view: both texts. -/
import Derived.Test.YtbfejakbaijmhaaGreatB46xf
import Derived.Test.YtbfejakbaijmhaaGreatB39xf
set_option linter.unusedVariables false
set_option linter.unusedSimpArgs false
set_option maxHeartbeats 1000000
set_option maxRecDepth 100000
namespace Go.Q
open Go.D
theorem wB_lt {l : List Int} {b : Nat} (h : ∀ x ∈ l, 0 ≤ x ∧ x < b) : wB l < 2 ^ b := Nat.lt_pow_two_of_testBit _ fun i hi => by
  cases ht : (wB l).testBit i with
  | false => rfl
  | true =>
    have h1 := (wB_test (fun k hk => (h k hk).1) i).1 ht
    have := h _ h1
    omega
theorem setI_succ (m b : Nat) : setI m (b + 1) = setI m b ++ if m.testBit b then [(b : Int)] else [] := by
  unfold setI
  rw [range_filter_succ, List.map_append]
  cases m.testBit b <;> rfl
theorem setI_len (m b : Nat) : (setI m b).length ≤ b := by
  unfold setI
  rw [List.length_map]
  exact Nat.le_trans (List.length_filter_le _ _) (by simp)
theorem hitsN_wB {g : TGraph} {a : TAutomaton} (ha : validA a = true) {RK : List Int} {i : Nat} (hi : i ≤ a.Accept.length * g.Values.length) (hv : g.Values.length ≤ 5) : wB (hitsN g a RK i) < 2 ^ 5 :=
  wB_lt fun x hx => by have := hitsN_rng ha hi x hx; omega
def targets (g : TGraph) (v : TView) : List Int := if validV g v then ansL g v.Automaton v.Source else []
end Go.Q
namespace Go.Proofs.YtbfejakbaijmhaaGreat
open Go.RowKit Go.Q Go.D
theorem specl4Set (m : Nat) (hm : m < 9223372036854775808) : FnT Tryz.prog 94 [.one (.v (.int .i64 (m : Int)))] (.a (.one (.sl 1 ((setI m 30).map cInt)))) := by
  refine FnT.walk Tryz.func94 rfl (by kernel_rfl) Tryz.ntmps94 rfl fun hlen w0 => ?_
  try simp [cPair, cToken, cExpr, cEdge, cGraph, cStep, cWalk, cChange, cBatch, cHistory, cPositions, cAutomaton, cProductStep, cPathAtom, cConjunction, cView, cDelta, cRegistered, cRegistry] at hlen
  refine AW.seq ?_
  refine AW.region ?_
  refine AWl.put (R_assign rfl (.no rfl) rfl (.const rfl)) rfl ?_
  refine AWl.nilS (i := 2) 20001 1 rfl rfl ?_
  refine AWl.nil ?_
  refine AW.seq ?_
  refine AW.region ?_
  refine AWl.add (R_empty 5 rfl rfl rfl Tryz.underlying22 ty3 rfl) rfl ?_
  refine AWl.put (R_assign rfl (.no rfl) rfl (.tmp rfl fun _ => rfl)) rfl ?_
  refine AWl.nil ?_
  refine AW.seq ?_
  refine AW.seq ?_
  refine AW.region ?_
  refine AWl.put (R_assign rfl (.no rfl) rfl (.const rfl)) rfl ?_
  refine AWl.nil ?_
  refine AW.block ?_
  refine AW.loop1 (fun (i : Nat) => (i ≤ 30) ∧ True) (fun (i : Nat) => ⟨_, [(4, (true, .a (.one (.t (.v (.int .i64 (i : Nat))))))), (3, (true, .a (.one (.rf 5)))), (0, _), (2, _)], [(5, .row 1 ((setI m i).map cInt))]⟩) (fun (i : Nat) => 30 - i) (0) ⟨by omega, trivial⟩ (Le.sub0 rfl ⟨rfl, rfl, rfl, rfl, trivial⟩ ⟨rfl, trivial⟩) ?_
  rintro i ⟨hk, he⟩
  refine AW.seq ?_
  refine AW.seq ?_
  refine AW.region ?_
  refine AWl.put (R_move rfl (.no rfl) rfl (.tmp rfl fun _ => rfl)) rfl ?_
  refine AWl.put (R_lt rfl (.no rfl) rfl (.tmp rfl fun _ => rfl) (.const rfl)) rfl ?_
  refine AWl.nil ?_
  refine AW.cond (.tmp rfl fun _ => rfl) (fun h7 => ?_) (fun h7 => ?_)
  · skip
    try simp only [bit_at, bit_zero, shr_zero] at h7
    try simp only [Int.toNat_natCast] at h7
    try simp at h7
    have hi30 : i < 30 := by (first | omega | (simp at h7; omega))
    have hsl := setI_len m i
    refine AW.skip ?_
    refine AW.seq ?_
    refine AW.block ?_
    refine AW.seq ?_
    refine AW.region ?_
    refine AWl.put (R_move rfl (.no rfl) rfl (.tmp rfl fun _ => rfl)) rfl ?_
    refine AWl.put (R_move rfl (.no rfl) rfl (.tmp rfl fun _ => rfl)) rfl ?_
    refine AWl.put (R_shr rfl (.no rfl) rfl (.tmp rfl fun _ => rfl) (.tmp rfl fun _ => rfl) (fun _ => by omega)) rfl ?_
    refine AWl.put (R_and1 rfl (.no rfl) rfl (.tmp rfl fun _ => rfl) (.const rfl) (fun _ => by first | exact Int.natCast_nonneg _ | omega)) rfl ?_
    refine AWl.put (R_eq rfl (.no rfl) rfl (.tmp rfl fun _ => rfl) (.const rfl)) rfl ?_
    refine AWl.nil ?_
    refine AW.cond (.tmp rfl fun _ => rfl) (fun h14 => ?_) (fun h14 => ?_)
    · skip
      try simp only [bit_at, bit_zero, shr_zero] at h14
      try simp only [Int.toNat_natCast] at h14
      try simp at h14
      refine AW.le (σ' := ⟨_, [(0, _), (2, _), (3, _), (4, _)], [(5, _)]⟩) (Le.sub0 rfl ⟨rfl, rfl, rfl, rfl, trivial⟩ ⟨rfl, trivial⟩) ?_
      refine AW.region ?_
      refine AWl.put (R_move rfl (.no rfl) rfl (.tmp rfl fun _ => rfl)) rfl ?_
      refine AWl.put (R_move rfl (.no rfl) rfl (.tmp rfl fun _ => rfl)) rfl ?_
      refine AWl.absadd (R_list (xs := [.tmp 16]) 17 rfl rfl rfl (.cons (.tmp rfl fun _ => rfl) rfl rfl .nil) Tryz.underlying22 in3 rfl rfl rfl rfl) rfl ?_
      refine AWl.chgput (R_append rfl rfl rfl (.tmp rfl fun _ => rfl) rfl (.tmp rfl fun _ => rfl) (by exact .rf rfl) (by rfl) Tryz.underlying22 in3 rfl (by (simp [chunk]; omega)) (by (unfold maxLen; simp [chunk]; omega))) rfl ?_
      refine AWl.le (σ' := ⟨_, [(0, _), (2, _), (3, _), (4, _), (18, _)], [(5, _), (17, _)]⟩) (Le.sub0 rfl ⟨rfl, rfl, rfl, rfl, rfl, trivial⟩ ⟨rfl, rfl, trivial⟩) ?_
      refine AWl.put (R_assign rfl (.no rfl) rfl (.tmp rfl fun _ => rfl)) rfl ?_
      refine AWl.nil ?_
      refine AW.region ?_
      refine AWl.put (R_move rfl (.no rfl) rfl (.tmp rfl fun _ => rfl)) rfl ?_
      refine AWl.put (R_add rfl (.no rfl) rfl (.tmp rfl fun _ => rfl) (.const rfl) (fun _ => by omega)) rfl ?_
      refine AWl.put (R_assign rfl (.no rfl) rfl (.tmp rfl fun _ => rfl)) rfl ?_
      refine AWl.nil ?_
      repeat (with_reducible refine BlockQ.nor ?_)
      refine Round1.next (i + 1) ⟨by omega, trivial⟩ (by omega) (Le.sub0 rfl ⟨rfl, rfl, rfl, rfl, trivial⟩ ⟨(by refine congrArg (fun r => some (R.row 1 r)) ?_; first | (rw [setI_succ, if_pos (by simpa using h14)]; simp [chunk, cInt]; done) | (rw [setI_succ, if_neg (by simpa using h14)]; simp; done)), trivial⟩)
    · skip
      try simp only [bit_at, bit_zero, shr_zero] at h14
      try simp only [Int.toNat_natCast] at h14
      try simp at h14
      refine AW.skip ?_
      refine AW.le (σ' := ⟨_, [(0, _), (2, _), (3, _), (4, _)], [(5, _)]⟩) (Le.sub0 rfl ⟨rfl, rfl, rfl, rfl, trivial⟩ ⟨rfl, trivial⟩) ?_
      refine AW.region ?_
      refine AWl.put (R_move rfl (.no rfl) rfl (.tmp rfl fun _ => rfl)) rfl ?_
      refine AWl.put (R_add rfl (.no rfl) rfl (.tmp rfl fun _ => rfl) (.const rfl) (fun _ => by omega)) rfl ?_
      refine AWl.put (R_assign rfl (.no rfl) rfl (.tmp rfl fun _ => rfl)) rfl ?_
      refine AWl.nil ?_
      repeat (with_reducible refine BlockQ.nor ?_)
      refine Round1.next (i + 1) ⟨by omega, trivial⟩ (by omega) (Le.sub0 rfl ⟨rfl, rfl, rfl, rfl, trivial⟩ ⟨(by refine congrArg (fun r => some (R.row 1 r)) ?_; first | (rw [setI_succ, if_pos (by simpa using h14)]; simp [chunk, cInt]; done) | (rw [setI_succ, if_neg (by simpa using h14)]; simp; done)), trivial⟩)
  · skip
    try simp only [bit_at, bit_zero, shr_zero] at h7
    try simp only [Int.toNat_natCast] at h7
    try simp at h7
    refine AW.exit ?_
    refine AW.seq ?_
    refine AW.region ?_
    refine AWl.put (R_move rfl (.no rfl) rfl (.tmp rfl fun _ => rfl)) rfl ?_
    refine AWl.put (R_assign rfl (.no rfl) rfl (.tmp rfl fun _ => rfl)) rfl ?_
    refine AWl.nil ?_
    refine AW.ret ?_
    refine Res.one rfl (.tmp rfl .nil) rfl ?_
    rw [show i = 30 by first | omega | (simp at h7; omega)]; rfl
theorem specl15From (g : TGraph) (a : TAutomaton) (ha : validA a = true) (hg : validG g = true) (x : Int) (hx : 0 ≤ x ∧ x < g.Values.length) : FnT Tryz.prog 55 [.agg (cGraph g), .agg (cAutomaton a), .one (.v (.int .i64 x))] (.a (.one (.sl 1 ((ansL g a x).map cInt)))) := by
  refine FnT.walk Tryz.func55 rfl (by kernel_rfl) Tryz.ntmps55 rfl fun hlen w0 => ?_
  try simp [cPair, cToken, cExpr, cEdge, cGraph, cStep, cWalk, cChange, cBatch, cHistory, cPositions, cAutomaton, cProductStep, cPathAtom, cConjunction, cView, cDelta, cRegistered, cRegistry] at hlen
  have hA := validA_len ha
  have hG := validG_len hg
  have hN : 1 ≤ NP g a ∧ NP g a ≤ 60 := prod_le ha hg
  have hRK := ranks_ok ha hg hx
  have hRl : (ranksOf g a x).length = NP g a := hRK.1
  refine AW.seq ?_
  refine AW.region ?_
  refine AWl.put (R_boxz rfl rfl rfl (.tmp rfl fun _ => rfl) (ts := _) (by rfl)) rfl ?_
  refine AWl.put (R_boxz rfl rfl rfl (.tmp rfl fun _ => rfl) (ts := _) (by rfl)) rfl ?_
  refine AWl.put (R_assign rfl (.no rfl) rfl (.const rfl)) rfl ?_
  refine AWl.nilS (i := 6) 20001 1 rfl rfl ?_
  refine AWl.nil ?_
  refine AW.seq ?_
  refine AW.region ?_
  refine AWl.put ((by exact R_fieldAddr rfl (.no rfl) rfl (.tmp rfl fun _ => rfl) fl59_1)) rfl ?_
  refine AWl.put ((by exact R_load rfl (.no rfl) rfl (.tmp rfl fun _ => rfl) ty51 rfl rfl)) rfl ?_
  refine AWl.put ((by exact R_lenm rfl (.no rfl) rfl (.tmp rfl fun _ => rfl) (by exact .t) Tryz.underlying51)) rfl ?_
  refine AWl.put (R_assign rfl (.no rfl) rfl (.tmp rfl fun _ => rfl)) rfl ?_
  refine AWl.nil ?_
  refine AW.seq ?_
  refine AW.region ?_
  refine AWl.put ((by exact R_load rfl (.no rfl) rfl (.tmp rfl fun _ => rfl) ty33 rfl rfl)) rfl ?_
  refine AWl.put ((by exact R_load rfl (.no rfl) rfl (.tmp rfl fun _ => rfl) ty59 rfl rfl)) rfl ?_
  refine AWl.put (R_move rfl (.no rfl) rfl (.tmp rfl fun _ => rfl)) rfl ?_
  refine AWl.put (R_callz (FnT.fr (specl14Ranks g a ha hg x hx)) rfl (.no rfl) rfl (.cons (.tmp rfl fun _ => rfl) rfl (.cons (.tmp rfl fun _ => rfl) rfl (.cons (.tmp rfl fun _ => rfl) rfl .nil)))) rfl ?_
  refine AWl.put (R_assign rfl (.no rfl) rfl (.tmp rfl fun _ => rfl)) rfl ?_
  refine AWl.nil ?_
  refine AW.seq ?_
  refine AW.le (σ' := ⟨_, [(0, _), (1, _), (2, _), (3, _), (4, _), (6, _), (7, _), (8, _)], [(20001, _)]⟩) (Le.sub0 rfl ⟨rfl, rfl, rfl, rfl, rfl, rfl, rfl, rfl, trivial⟩ ⟨rfl, trivial⟩) ?_
  refine AW.region ?_
  refine AWl.put (R_assign rfl (.no rfl) rfl (.const rfl)) rfl ?_
  refine AWl.nil ?_
  refine AW.seq ?_
  refine AW.seq ?_
  refine AW.region ?_
  refine AWl.put (R_assign rfl (.no rfl) rfl (.const rfl)) rfl ?_
  refine AWl.nil ?_
  refine AW.block ?_
  refine AW.loop2 (fun (i : Nat) (m : Nat) => (i ≤ NP g a ∧ m < 2 ^ 60) ∧ m = wB (hitsN g a (ranksOf g a x) i)) (fun (i : Nat) (m : Nat) => ⟨_, [(10, (true, .a (.one (.t (.v (.int .i64 (i : Nat))))))), (9, (true, .a (.one (.t (.v (.int .i64 (m : Nat))))))), (3, _), (4, _), (6, _), (7, _), (8, _)], []⟩) (fun (i : Nat) (m : Nat) => NP g a - i) (0) (0) ⟨⟨Nat.zero_le _, by decide⟩, rfl⟩ (Le.sub0 rfl ⟨rfl, rfl, rfl, rfl, rfl, rfl, rfl, trivial⟩ trivial) ?_
  rintro i m ⟨hk, he⟩
  refine AW.seq ?_
  refine AW.seq ?_
  refine AW.region ?_
  refine AWl.put (R_move rfl (.no rfl) rfl (.tmp rfl fun _ => rfl)) rfl ?_
  refine AWl.put (R_move rfl (.no rfl) rfl (.tmp rfl fun _ => rfl)) rfl ?_
  refine AWl.put ((by exact R_lenm rfl (.no rfl) rfl (.tmp rfl fun _ => rfl) (by exact .t) Tryz.underlying22)) rfl ?_
  refine AWl.put (R_lt rfl (.no rfl) rfl (.tmp rfl fun _ => rfl) (.tmp rfl fun _ => rfl)) rfl ?_
  refine AWl.nil ?_
  refine AW.cond (.tmp rfl fun _ => rfl) (fun h21 => ?_) (fun h21 => ?_)
  · skip
    try simp at h21
    have hiN : i < NP g a := by omega
    have hdm := nd_ok (p := i) hA.1 (show i < NP g a from hiN)
    obtain ⟨v, hv⟩ : ∃ v, g.Values[((i : Int) / (a.Accept.length : Int)).toNat]? = some v := ⟨_, List.getElem?_eq_getElem (by omega)⟩
    have hgi := atI_get (out := ranksOf g a x) (k := (i : Int)) (by omega)
    refine AW.skip ?_
    refine AW.seq ?_
    refine AW.block ?_
    refine AW.seq ?_
    refine AW.drawn 16 (nthB [[], [], [0, 1], [0, 1, 2], [0, 1, 2, 3], [0, 1, 2, 3, 4], [0, 1, 2, 3, 4, 5], [0, 1, 2, 3, 4, 5], [0, 1, 2, 3, 4, 5], [0, 1, 2, 3, 4, 5], [0, 1, 2, 3, 4, 5, 8, 9], [0, 1, 2, 3, 4, 5], [0, 1, 2, 3, 4, 5], [0, 1, 2, 3, 4, 5, 11, 12], [0, 1, 2, 3, 4, 5, 6, 7, 8, 9, 10, 11, 12, 13], [0, 1, 2, 3, 4, 5, 6, 7, 8, 9, 10, 11, 12, 13, 14]]) (by kernel_rfl) (by kernel_rfl) (by kernel_rfl) ?_
    refine DrawC.step rfl rfl rfl (Loc.of rfl fun σ' hs => R_move rfl (.no rfl) (hd_sup hs rfl) (.tmp (hs.slots _ _ rfl) fun _ => rfl)) ?_
    refine DrawC.step rfl rfl rfl (Loc.of rfl fun σ' hs => R_move rfl (.no rfl) (hd_sup hs rfl) (.tmp (hs.slots _ _ rfl) fun _ => rfl)) ?_
    refine DrawC.step rfl rfl rfl (Loc.of rfl fun σ' hs => (by exact R_indexAddr rfl (.no rfl) (hd_sup hs rfl) (.tmp (hs.slots _ _ rfl) fun _ => rfl) (.tmp (hs.slots _ _ rfl) fun _ => rfl) Tryz.underlying22 ty3 (fun _ => ⟨by omega, (map_get hgi)⟩))) ?_
    refine DrawC.step rfl rfl rfl (Loc.of rfl fun σ' hs => (by exact R_load rfl (.no rfl) (hd_sup hs rfl) (.tmp (hs.slots _ _ rfl) fun _ => rfl) ty3 rfl rfl)) ?_
    refine DrawC.step rfl rfl rfl (Loc.of rfl fun σ' hs => R_ge rfl (.no rfl) (hd_sup hs rfl) (.tmp (hs.slots _ _ rfl) fun _ => rfl) (.const rfl)) ?_
    refine DrawC.step rfl rfl rfl (Loc.of rfl fun σ' hs => R_move rfl (.no rfl) (hd_sup hs rfl) (.tmp (hs.slots _ _ rfl) fun _ => rfl)) ?_
    refine DrawC.step rfl rfl rfl (Loc.of rfl fun σ' hs => (by exact R_load rfl (by exact .yes1 rfl rfl (hs.slots _ _ rfl) (by rw [hs.n]; rfl)) (hd_sup hs rfl) (.tmp (hs.slots _ _ rfl) (by exact fun _ => rfl)) ty33 rfl rfl)) ?_
    refine DrawC.step rfl rfl rfl (Loc.of rfl fun σ' hs => (by exact R_load rfl (by exact .yes1 rfl rfl (hs.slots _ _ rfl) (by rw [hs.n]; rfl)) (hd_sup hs rfl) (.tmp (hs.slots _ _ rfl) (by exact fun _ => rfl)) ty59 rfl rfl)) ?_
    refine DrawC.step rfl rfl rfl (Loc.of rfl fun σ' hs => R_move rfl (by exact .yes1 rfl rfl (hs.slots _ _ rfl) (by rw [hs.n]; rfl)) (hd_sup hs rfl) (.tmp (hs.slots _ _ rfl) (by exact fun _ => rfl))) ?_
    refine DrawC.step rfl rfl rfl (Loc.of rfl fun σ' hs => R_move rfl (by exact .yes1 rfl rfl (hs.slots _ _ rfl) (by rw [hs.n]; rfl)) (hd_sup hs rfl) (.tmp (hs.slots _ _ rfl) (by exact fun _ => rfl))) ?_
    refine DrawC.step rfl rfl rfl (Loc.of rfl fun σ' hs => R_quo rfl (by exact .yes1 rfl rfl (hs.slots _ _ rfl) (by rw [hs.n]; rfl)) (hd_sup hs rfl) (.tmp (hs.slots _ _ rfl) (by exact id)) (.tmp (hs.slots _ _ rfl) (by exact id)) (fun hq => by first | omega | (simp at hq; omega))) ?_
    refine DrawC.step rfl rfl rfl (Loc.of rfl fun σ' hs => R_move rfl (by exact .yes1 rfl rfl (hs.slots _ _ rfl) (by rw [hs.n]; rfl)) (hd_sup hs rfl) (.tmp (hs.slots _ _ rfl) (by exact fun _ => rfl))) ?_
    refine DrawC.step rfl rfl rfl (Loc.of rfl fun σ' hs => R_move rfl (by exact .yes1 rfl rfl (hs.slots _ _ rfl) (by rw [hs.n]; rfl)) (hd_sup hs rfl) (.tmp (hs.slots _ _ rfl) (by exact fun _ => rfl))) ?_
    refine DrawC.step rfl rfl rfl (Loc.of rfl fun σ' hs => R_rem rfl (by exact .yes1 rfl rfl (hs.slots _ _ rfl) (by rw [hs.n]; rfl)) (hd_sup hs rfl) (.tmp (hs.slots _ _ rfl) (by exact id)) (.tmp (hs.slots _ _ rfl) (by exact id)) (fun hq => by first | omega | (simp at hq; omega))) ?_
    refine DrawC.step rfl rfl rfl (Loc.of rfl fun σ' hs => R_callq rfl (by exact .yes1 rfl rfl (hs.slots _ _ rfl) (by rw [hs.n]; rfl)) (hd_sup hs rfl) (.cons (.tmp (hs.slots _ _ rfl) (by exact id)) (readA_sup hs rfl) (.cons (.tmp (hs.slots _ _ rfl) (by exact id)) (readA_sup hs rfl) (.cons (.tmp (hs.slots _ _ rfl) (by exact id)) (readA_sup hs rfl) (.cons (.tmp (hs.slots _ _ rfl) (by exact id)) (readA_sup hs rfl) .nil)))) fun hq => FnT.fr (specl14Accepts g a ha hg ((i : Int) / (a.Accept.length : Int)) ((i : Int) % (a.Accept.length : Int)) v (by omega) hv (by omega))) ?_
    refine DrawC.step rfl rfl rfl (Loc.of rfl fun σ' hs => R_and rfl (.no rfl) (hd_sup hs rfl) (.tmp (hs.slots _ _ rfl) fun _ => rfl) (.tmp (hs.slots _ _ rfl) (by exact id))) ?_
    refine DrawC.fin rfl rfl ?_
    refine AWl.nil ?_
    refine AW.cond (.tmp rfl fun _ => rfl) (fun h39 => ?_) (fun h39 => ?_)
    · skip
      try simp at h39
      have hhit : hitB g a (ranksOf g a x) i = true := by (unfold hitB; rw [hv, Option.getD_some]; simpa using h39)
      have h2x : 2 ^ ((i : Int) / (a.Accept.length : Int)).toNat ≤ 2 ^ 5 := Nat.pow_le_pow_right (by omega) (by omega)
      have h2p := Nat.two_pow_pos ((i : Int) / (a.Accept.length : Int)).toNat
      refine AW.le (σ' := ⟨_, [(3, _), (4, _), (6, _), (7, _), (8, _), (9, _), (10, _)], []⟩) (Le.sub0 rfl ⟨rfl, rfl, rfl, rfl, rfl, rfl, rfl, trivial⟩ trivial) ?_
      refine AW.region ?_
      refine AWl.put (R_move rfl (.no rfl) rfl (.tmp rfl fun _ => rfl)) rfl ?_
      refine AWl.put (R_move rfl (.no rfl) rfl (.tmp rfl fun _ => rfl)) rfl ?_
      refine AWl.put (R_move rfl (.no rfl) rfl (.tmp rfl fun _ => rfl)) rfl ?_
      refine AWl.put (R_quo rfl (.no rfl) rfl (.tmp rfl fun _ => rfl) (.tmp rfl fun _ => rfl) (fun _ => by omega)) rfl ?_
      refine AWl.put (R_shlN rfl (.no rfl) rfl (.const rfl) (.tmp rfl fun _ => rfl) (fun _ => by omega)) rfl ?_
      refine AWl.put (R_or_int rfl (.no rfl) rfl (.tmp rfl fun _ => rfl) (.tmp rfl fun _ => rfl) (fun _ => by omega)) rfl ?_
      refine AWl.put (R_assign rfl (.no rfl) rfl (.tmp rfl fun _ => rfl)) rfl ?_
      refine AWl.nil ?_
      refine AW.le (σ' := ⟨_, [(3, _), (4, _), (6, _), (7, _), (8, _), (9, _), (10, _)], []⟩) (Le.sub0 rfl ⟨rfl, rfl, rfl, rfl, rfl, rfl, rfl, trivial⟩ trivial) ?_
      refine AW.region ?_
      refine AWl.put (R_move rfl (.no rfl) rfl (.tmp rfl fun _ => rfl)) rfl ?_
      refine AWl.put (R_add rfl (.no rfl) rfl (.tmp rfl fun _ => rfl) (.const rfl) (fun _ => by omega)) rfl ?_
      refine AWl.put (R_assign rfl (.no rfl) rfl (.tmp rfl fun _ => rfl)) rfl ?_
      refine AWl.nil ?_
      repeat (with_reducible refine BlockQ.nor ?_)
      refine Round2.next (i + 1) (m ||| 2 ^ ((i : Int) / (a.Accept.length : Int)).toNat) ⟨⟨by omega, or_pow_lt hk.2 (by omega)⟩, (by rw [hitsN_succ, hhit, if_pos rfl, wB_snoc, ← he])⟩ (by omega) (Le.sub0 rfl ⟨rfl, rfl, rfl, rfl, rfl, rfl, rfl, trivial⟩ trivial)
    · skip
      try simp at h39
      have hhit : hitB g a (ranksOf g a x) i = false := by (unfold hitB; rw [hv, Option.getD_some]; simpa using h39)
      refine AW.skip ?_
      refine AW.le (σ' := ⟨_, [(3, _), (4, _), (6, _), (7, _), (8, _), (9, _), (10, _)], []⟩) (Le.sub0 rfl ⟨rfl, rfl, rfl, rfl, rfl, rfl, rfl, trivial⟩ trivial) ?_
      refine AW.region ?_
      refine AWl.put (R_move rfl (.no rfl) rfl (.tmp rfl fun _ => rfl)) rfl ?_
      refine AWl.put (R_add rfl (.no rfl) rfl (.tmp rfl fun _ => rfl) (.const rfl) (fun _ => by omega)) rfl ?_
      refine AWl.put (R_assign rfl (.no rfl) rfl (.tmp rfl fun _ => rfl)) rfl ?_
      refine AWl.nil ?_
      repeat (with_reducible refine BlockQ.nor ?_)
      refine Round2.next (i + 1) (m) ⟨⟨by omega, hk.2⟩, (by rw [hitsN_succ, hhit]; simpa using he)⟩ (by omega) (Le.sub0 rfl ⟨rfl, rfl, rfl, rfl, rfl, rfl, rfl, trivial⟩ trivial)
  · skip
    try simp at h21
    have hM : m = wB (hitsN g a (ranksOf g a x) (NP g a)) := by (rw [he, show i = NP g a by omega])
    subst hM
    refine AW.exit ?_
    refine AW.seq ?_
    refine AW.region ?_
    refine AWl.put (R_move rfl (.no rfl) rfl (.tmp rfl fun _ => rfl)) rfl ?_
    refine AWl.adds (R_call 4700 (specl4Set (wB (hitsN g a (ranksOf g a x) (NP g a))) (Nat.lt_trans (hitsN_wB ha (Nat.le_refl _) (by omega)) (by decide))) rfl rfl rfl (.cons (.tmp rfl fun _ => rfl) rfl .nil) rfl rfl) rfl ?_
    refine AWl.put (R_assign rfl (.no rfl) rfl (.tmp rfl fun _ => rfl)) rfl ?_
    refine AWl.nil ?_
    refine AW.ret ?_
    refine Res.one rfl (.tmp rfl .nil) rfl ?_
    unfold ansL; rw [setI_asc (fun z hz => by have := hitsN_rng ha (Nat.le_refl _) z hz; omega)]; rfl
theorem specViewTargets (g : TGraph) (v : TView) : FnT Tryz.prog 23 [.agg (cGraph g), .agg (cView v)] (.a (.one (.sl 1 ((targets g v).map cInt)))) := by
  refine FnT.walk Tryz.func23 rfl (by kernel_rfl) Tryz.ntmps23 rfl fun hlen w0 => ?_
  try simp [cPair, cToken, cExpr, cEdge, cGraph, cStep, cWalk, cChange, cBatch, cHistory, cPositions, cAutomaton, cProductStep, cPathAtom, cConjunction, cView, cDelta, cRegistered, cRegistry] at hlen
  refine AW.seq ?_
  refine AW.region ?_
  refine AWl.put (R_boxz rfl rfl rfl (.tmp rfl fun _ => rfl) (ts := _) (by rfl)) rfl ?_
  refine AWl.put (R_boxz rfl rfl rfl (.tmp rfl fun _ => rfl) (ts := _) (by rfl)) rfl ?_
  refine AWl.put (R_assign rfl (.no rfl) rfl (.const rfl)) rfl ?_
  refine AWl.nilS (i := 4) 20001 1 rfl rfl ?_
  refine AWl.nil ?_
  refine AW.seq ?_
  refine AW.seq ?_
  refine AW.region ?_
  refine AWl.put ((by exact R_load rfl (.no rfl) rfl (.tmp rfl fun _ => rfl) ty33 rfl rfl)) rfl ?_
  refine AWl.put ((by exact R_load rfl (.no rfl) rfl (.tmp rfl fun _ => rfl) ty61 rfl rfl)) rfl ?_
  refine AWl.put (R_callz (FnT.fr (specIsValidView g v)) rfl (.no rfl) rfl (.cons (.tmp rfl fun _ => rfl) rfl (.cons (.tmp rfl fun _ => rfl) rfl .nil))) rfl ?_
  refine AWl.put (R_not rfl (.no rfl) rfl (.tmp rfl fun _ => rfl)) rfl ?_
  refine AWl.nil ?_
  refine AW.cond (.tmp rfl fun _ => rfl) (fun h8 => ?_) (fun h8 => ?_)
  · skip
    try simp at h8
    refine AW.seq ?_
    refine AW.region ?_
    refine AWl.add (R_empty 9 rfl rfl rfl Tryz.underlying22 ty3 rfl) rfl ?_
    refine AWl.put (R_assign rfl (.no rfl) rfl (.tmp rfl fun _ => rfl)) rfl ?_
    refine AWl.nil ?_
    refine AW.ret ?_
    refine Res.one rfl (.tmp rfl .nil) rfl ?_
    unfold targets; rw [if_neg (by unfold validV; cases hq9 : (buildV g v.Automaton v.Source).2 <;> simp_all)]; rfl
  · skip
    try simp at h8
    have hv : validV g v = true := by (unfold validV; simpa using h8)
    have hp := good_parts (validV_parts hv)
    refine AW.skip ?_
    refine AW.seq ?_
    refine AW.region ?_
    refine AWl.put ((by exact R_load rfl (.no rfl) rfl (.tmp rfl fun _ => rfl) ty33 rfl rfl)) rfl ?_
    refine AWl.put ((by exact R_fieldAddr rfl (.no rfl) rfl (.tmp rfl fun _ => rfl) fl61_0)) rfl ?_
    refine AWl.put ((by exact R_load rfl (.no rfl) rfl (.tmp rfl fun _ => rfl) ty59 rfl rfl)) rfl ?_
    refine AWl.put ((by exact R_fieldAddr rfl (.no rfl) rfl (.tmp rfl fun _ => rfl) fl61_1)) rfl ?_
    refine AWl.put ((by exact R_load rfl (.no rfl) rfl (.tmp rfl fun _ => rfl) ty3 rfl rfl)) rfl ?_
    refine AWl.adds (R_call 1500 (specl15From g v.Automaton hp.2.1 hp.1 v.Source hp.2.2) rfl rfl rfl (.cons (.tmp rfl fun _ => rfl) rfl (.cons (.tmp rfl fun _ => rfl) rfl (.cons (.tmp rfl fun _ => rfl) rfl .nil))) rfl rfl) rfl ?_
    refine AWl.put (R_assign rfl (.no rfl) rfl (.tmp rfl fun _ => rfl)) rfl ?_
    refine AWl.nil ?_
    refine AW.ret ?_
    refine Res.one rfl (.tmp rfl .nil) rfl ?_
    unfold targets; rw [if_pos hv]; rfl
theorem implViewTargets (g : TGraph) (v : TView) : FnT Tryz.prog 25 [.agg (cGraph g), .agg (cView v)] (.a (.one (.sl 1 ((targets g v).map cInt)))) := by
  refine FnT.walk Tryz.func25 rfl (by kernel_rfl) Tryz.ntmps25 rfl fun hlen w0 => ?_
  try simp [cPair, cToken, cExpr, cEdge, cGraph, cStep, cWalk, cChange, cBatch, cHistory, cPositions, cAutomaton, cProductStep, cPathAtom, cConjunction, cView, cDelta, cRegistered, cRegistry] at hlen
  refine AW.seq ?_
  refine AW.region ?_
  refine AWl.put (R_boxz rfl rfl rfl (.tmp rfl fun _ => rfl) (ts := _) (by rfl)) rfl ?_
  refine AWl.put (R_boxz rfl rfl rfl (.tmp rfl fun _ => rfl) (ts := _) (by rfl)) rfl ?_
  refine AWl.put (R_assign rfl (.no rfl) rfl (.const rfl)) rfl ?_
  refine AWl.nilS (i := 4) 20001 1 rfl rfl ?_
  refine AWl.nil ?_
  refine AW.seq ?_
  refine AW.seq ?_
  refine AW.region ?_
  refine AWl.put ((by exact R_load rfl (.no rfl) rfl (.tmp rfl fun _ => rfl) ty33 rfl rfl)) rfl ?_
  refine AWl.put ((by exact R_load rfl (.no rfl) rfl (.tmp rfl fun _ => rfl) ty61 rfl rfl)) rfl ?_
  refine AWl.put (R_callz (FnT.fr (implIsValidView g v)) rfl (.no rfl) rfl (.cons (.tmp rfl fun _ => rfl) rfl (.cons (.tmp rfl fun _ => rfl) rfl .nil))) rfl ?_
  refine AWl.put (R_not rfl (.no rfl) rfl (.tmp rfl fun _ => rfl)) rfl ?_
  refine AWl.nil ?_
  refine AW.cond (.tmp rfl fun _ => rfl) (fun h8 => ?_) (fun h8 => ?_)
  · skip
    try simp at h8
    refine AW.seq ?_
    refine AW.region ?_
    refine AWl.put (R_assign rfl (.no rfl) rfl (.const rfl)) rfl ?_
    refine AWl.nilS (i := 4) 20002 1 rfl rfl ?_
    refine AWl.nil ?_
    refine AW.ret ?_
    refine Res.one rfl (.tmp rfl .nil) rfl ?_
    unfold targets; rw [if_neg (by unfold validV; cases hq9 : (buildV g v.Automaton v.Source).2 <;> simp_all)]; rfl
  · skip
    try simp at h8
    have hv : validV g v = true := by (unfold validV; simpa using h8)
    have hp := good_parts (validV_parts hv)
    refine AW.skip ?_
    refine AW.seq ?_
    refine AW.region ?_
    refine AWl.put ((by exact R_load rfl (.no rfl) rfl (.tmp rfl fun _ => rfl) ty33 rfl rfl)) rfl ?_
    refine AWl.put ((by exact R_fieldAddr rfl (.no rfl) rfl (.tmp rfl fun _ => rfl) fl61_0)) rfl ?_
    refine AWl.put ((by exact R_load rfl (.no rfl) rfl (.tmp rfl fun _ => rfl) ty59 rfl rfl)) rfl ?_
    refine AWl.put ((by exact R_fieldAddr rfl (.no rfl) rfl (.tmp rfl fun _ => rfl) fl61_1)) rfl ?_
    refine AWl.put ((by exact R_load rfl (.no rfl) rfl (.tmp rfl fun _ => rfl) ty3 rfl rfl)) rfl ?_
    refine AWl.adds (R_call 1400 (implAnswersFrom g v.Automaton v.Source) rfl rfl rfl (.cons (.tmp rfl fun _ => rfl) rfl (.cons (.tmp rfl fun _ => rfl) rfl (.cons (.tmp rfl fun _ => rfl) rfl .nil))) rfl rfl) rfl ?_
    refine AWl.put (R_assign rfl (.no rfl) rfl (.tmp rfl fun _ => rfl)) rfl ?_
    refine AWl.nil ?_
    refine AW.ret ?_
    refine Res.one rfl (.tmp rfl .nil) rfl ?_
    unfold targets; rw [if_pos hv]; unfold ansF; rw [if_pos (validV_parts hv)]; rfl
end Go.Proofs.YtbfejakbaijmhaaGreat
