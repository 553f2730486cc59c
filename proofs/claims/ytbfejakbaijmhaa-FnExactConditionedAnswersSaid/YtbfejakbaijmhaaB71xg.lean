/- Conditioned answers: the reference's text. -/
import Derived.Test.YtbfejakbaijmhaaB70xg
set_option linter.unusedVariables false
set_option linter.unusedSimpArgs false
set_option maxHeartbeats 1000000
set_option maxRecDepth 100000
namespace Go.Q
open Go.D
theorem same_eq (e : TNd) (u : Int) (m : Nat) : (decide (e.node = u) && decide ((e.set : Int) = (m : Int))) = sameN u m e := by
  unfold sameN
  congr 1
  exact decide_eq_decide.2 (by omega)
theorem any_take_at {α : Type} {p : α → Bool} {l : List α} {j : Nat} {x : α} (h : l[j]? = some x) : (l.take (j + 1)).any p = ((l.take j).any p || p x) := by
  rw [take_at h, List.any_append]; simp
end Go.Q
namespace Go.Proofs.Ytbfejakbaijmhaa
open Go.RowKit Go.Q Go.D
theorem specl18Next (g : TGraph) (a : TAutomaton) (ha : validA a = true) (hg : validG g = true) (nd : Int) (hnd : 0 ≤ nd ∧ nd < g.Values.length) (S0 : Nat) (hS : S0 < 2 ^ a.Accept.length) (y : TArc) (hya : y ∈ arcsAt g nd) : FnT Try.prog 100 [.agg (cGraph g), .agg (cAutomaton a), .one (.v (.int .i64 nd)), .one (.v (.int .i64 (S0 : Int))), .agg (cStep y.step)] (.tup [.one (.v (.int .i64 y.to)), .one (.v (.int .i64 ((aftS a S0 (valAt g nd) y.letter : Nat) : Int)))]) := by
  obtain ⟨j0, hy⟩ := List.getElem?_of_mem hya
  refine FnT.walk Try.func100 rfl (by kernel_rfl) Try.ntmps100 rfl fun hlen w0 => ?_
  try simp [cPair, cToken, cExpr, cEdge, cGraph, cStep, cWalk, cChange, cBatch, cHistory, cPositions, cAutomaton, cProductStep, cPathAtom, cConjunction, cView, cDelta, cRegistered, cRegistry] at hlen
  have hA := validA_len ha
  have hG := validG_len hg
  have hP := pow_le_12 ha
  have hvx := valAt_ok hg hnd
  have hyo := arcsAt_ok hg hy
  obtain ⟨k1, e, hed, hy1, hy2, hy3⟩ := arcsAt_edge hg hy
  have hE := validG_edge hg hed
  have hix : edgeIndex g y.step.Edge = (k1 : Int) := by rw [hy1]; exact edgeIndex_at hg hed
  have hlet : FnT Try.prog 166 [.agg (cEdge e), .one (.v (.bool y.step.Inverse))] (.a (.one (.v (.int .i64 y.letter)))) := by (rw [hy2]; exact specl14Letter e _ (by omega))
  have hto : FnT Try.prog 167 [.agg (cEdge e), .one (.v (.bool y.step.Inverse))] (.a (.one (.v (.int .i64 y.to)))) := by (rw [hy3]; exact specl14To e _)
  refine AW.seq ?_
  refine AW.region ?_
  refine AWl.put (R_boxz rfl rfl rfl (.tmp rfl fun _ => rfl) (ts := _) (by rfl)) rfl ?_
  refine AWl.put (R_boxz rfl rfl rfl (.tmp rfl fun _ => rfl) (ts := _) (by rfl)) rfl ?_
  refine AWl.put (R_boxz rfl rfl rfl (.tmp rfl fun _ => rfl) (ts := _) (by rfl)) rfl ?_
  refine AWl.put (R_assign rfl (.no rfl) rfl (.const rfl)) rfl ?_
  refine AWl.put (R_assign rfl (.no rfl) rfl (.const rfl)) rfl ?_
  refine AWl.nil ?_
  refine AW.seq ?_
  refine AW.drawn 9 (nthB [[], [0], [], [], [3], [2, 3, 4], [0, 1, 2, 3, 4, 5], [0, 1, 2, 3, 4, 5, 6], []]) (by kernel_rfl) (by kernel_rfl) (by kernel_rfl) ?_
  refine DrawC.step rfl rfl rfl (Loc.of rfl fun σ' hs => (by exact R_fieldAddr rfl (.no rfl) (hd_sup hs rfl) (.tmp (hs.slots _ _ rfl) fun _ => rfl) fl35_1)) ?_
  refine DrawC.step rfl rfl rfl (Loc.of rfl fun σ' hs => (by exact R_load rfl (.no rfl) (hd_sup hs rfl) (.tmp (hs.slots _ _ rfl) fun _ => rfl) ty33 rfl rfl)) ?_
  refine DrawC.step rfl rfl rfl (Loc.of rfl fun σ' hs => (by exact R_load rfl (.no rfl) (hd_sup hs rfl) (.tmp (hs.slots _ _ rfl) fun _ => rfl) ty35 rfl rfl)) ?_
  refine DrawC.step rfl rfl rfl (Loc.of rfl fun σ' hs => (by exact R_fieldAddr rfl (.no rfl) (hd_sup hs rfl) (.tmp (hs.slots _ _ rfl) fun _ => rfl) fl122_0)) ?_
  refine DrawC.step rfl rfl rfl (Loc.of rfl fun σ' hs => (by exact R_load rfl (.no rfl) (hd_sup hs rfl) (.tmp (hs.slots _ _ rfl) fun _ => rfl) ty3 rfl rfl)) ?_
  refine DrawC.step rfl rfl rfl (Loc.of rfl fun σ' hs => R_callz (FnT.fr (specEdgeIndex _ _)) rfl (.no rfl) (hd_sup hs rfl) (.cons (.tmp (hs.slots _ _ rfl) fun _ => rfl) (readA_sup hs rfl) (.cons (.tmp (hs.slots _ _ rfl) fun _ => rfl) (readA_sup hs rfl) .nil))) ?_
  refine DrawC.step rfl rfl rfl (Loc.of rfl fun σ' hs => (by exact R_indexAddr rfl (.no rfl) (hd_sup hs rfl) (.tmp (hs.slots _ _ rfl) fun _ => rfl) (.tmp (hs.slots _ _ rfl) fun _ => rfl) Try.underlying33 ty154 (fun _ => ⟨by omega, map_get (l := g.Edges) (x := e) (by rw [hix]; exact hed)⟩))) ?_
  refine DrawC.step rfl rfl rfl (Loc.of rfl fun σ' hs => (by exact R_load rfl (.no rfl) (hd_sup hs rfl) (.tmp (hs.slots _ _ rfl) fun _ => rfl) ty154 rfl rfl)) ?_
  refine DrawC.step rfl rfl rfl (Loc.of1 rfl fun σ' hs hf => R_alloc 12 rfl rfl (hd_sup hs rfl) in154 rfl rfl hf) ?_
  refine DrawC.fin rfl rfl ?_
  refine AWl.chgb (R_store_pb rfl rfl rfl (.tmp rfl fun _ => rfl) (.tmp rfl fun _ => rfl) rfl ty154 rfl rfl rfl (by kernel_rfl) rfl) ?_
  refine AWl.nil ?_
  refine AW.seq ?_
  refine AW.le (σ' := ⟨_, [(0, _), (1, _), (2, _), (3, _), (4, _), (5, _), (6, _), (9, _), (10, _), (11, _), (12, _)], [(12, _)]⟩) (Le.sub0 rfl ⟨rfl, rfl, rfl, rfl, rfl, rfl, rfl, rfl, rfl, rfl, rfl, trivial⟩ ⟨rfl, trivial⟩) ?_
  refine AW.region ?_
  refine AWl.put (R_assign rfl (.no rfl) rfl (.const rfl)) rfl ?_
  refine AWl.nil ?_
  refine AW.seq ?_
  refine AW.seq ?_
  refine AW.region ?_
  refine AWl.put (R_assign rfl (.no rfl) rfl (.const rfl)) rfl ?_
  refine AWl.nil ?_
  refine AW.block ?_
  refine AW.loop2 (fun (q : Nat) (o : Nat) => (q ≤ a.Accept.length ∧ o < 2 ^ a.Accept.length) ∧ o = ((List.range q).filter S0.testBit).foldl (fun out (s : Nat) => aftF a y.letter (bitsN (closure a s (valAt g nd))) out) 0) (fun (q : Nat) (o : Nat) => ⟨_, [(14, (true, .a (.one (.t (.v (.int .i64 (q : Nat))))))), (13, (true, .a (.one (.t (.v (.int .i64 (o : Nat))))))), (2, _), (3, _), (5, _), (6, _), (9, _), (10, _), (11, _), (12, _)], [(12, .box [.t (.v (.int .i64 e.ID)), .t (.v (.int .i64 e.From)), .t (.v (.int .i64 e.To)), .t (.v (.int .i64 e.Label))])]⟩) (fun (q : Nat) (o : Nat) => a.Accept.length - q) (0) (0) ⟨⟨Nat.zero_le _, Nat.two_pow_pos _⟩, rfl⟩ (Le.sub0 rfl ⟨rfl, rfl, rfl, rfl, rfl, rfl, rfl, rfl, rfl, rfl, trivial⟩ ⟨rfl, trivial⟩) ?_
  rintro q o ⟨hk, he⟩
  refine AW.seq ?_
  refine AW.seq ?_
  refine AW.region ?_
  refine AWl.put (R_move rfl (.no rfl) rfl (.tmp rfl fun _ => rfl)) rfl ?_
  refine AWl.put ((by exact R_fieldAddr rfl (.no rfl) rfl (.tmp rfl fun _ => rfl) fl37_1)) rfl ?_
  refine AWl.put ((by exact R_load rfl (.no rfl) rfl (.tmp rfl fun _ => rfl) ty26 rfl rfl)) rfl ?_
  refine AWl.put ((by exact R_lenm rfl (.no rfl) rfl (.tmp rfl fun _ => rfl) (by exact .t) Try.underlying26)) rfl ?_
  refine AWl.put (R_lt rfl (.no rfl) rfl (.tmp rfl fun _ => rfl) (.tmp rfl fun _ => rfl)) rfl ?_
  refine AWl.nil ?_
  refine AW.cond (.tmp rfl fun _ => rfl) (fun h30 => ?_) (fun h30 => ?_)
  · skip
    try simp only [bit_at, bit_zero, shr_zero] at h30
    try simp only [Int.toNat_natCast] at h30
    try simp at h30
    have hqn : q < a.Accept.length := by omega
    have hcl := closure_lt ha (s := (q : Int)) hvx.2 (by omega)
    refine AW.skip ?_
    refine AW.seq ?_
    refine AW.block ?_
    refine AW.seq ?_
    refine AW.seq ?_
    refine AW.region ?_
    refine AWl.put (R_move rfl (.no rfl) rfl (.tmp rfl fun _ => rfl)) rfl ?_
    refine AWl.put (R_move rfl (.no rfl) rfl (.tmp rfl fun _ => rfl)) rfl ?_
    refine AWl.put (R_shr rfl (.no rfl) rfl (.tmp rfl fun _ => rfl) (.tmp rfl fun _ => rfl) (fun _ => by omega)) rfl ?_
    refine AWl.put (R_and1 rfl (.no rfl) rfl (.tmp rfl fun _ => rfl) (.const rfl) (fun _ => by first | exact Int.natCast_nonneg _ | omega)) rfl ?_
    refine AWl.put (R_eq rfl (.no rfl) rfl (.tmp rfl fun _ => rfl) (.const rfl)) rfl ?_
    refine AWl.nil ?_
    refine AW.cond (.tmp rfl fun _ => rfl) (fun h37 => ?_) (fun h37 => ?_)
    · skip
      try simp only [bit_at, bit_zero, shr_zero] at h37
      try simp only [Int.toNat_natCast] at h37
      try simp at h37
      have hb0 : S0.testBit q = false := by simpa using h37
      refine AW.exit ?_
      refine AW.le (σ' := ⟨_, [(2, _), (3, _), (5, _), (6, _), (9, _), (10, _), (11, _), (12, _), (13, _), (14, _)], [(12, _)]⟩) (Le.sub0 rfl ⟨rfl, rfl, rfl, rfl, rfl, rfl, rfl, rfl, rfl, rfl, trivial⟩ ⟨rfl, trivial⟩) ?_
      refine AW.region ?_
      refine AWl.put (R_move rfl (.no rfl) rfl (.tmp rfl fun _ => rfl)) rfl ?_
      refine AWl.put (R_add rfl (.no rfl) rfl (.tmp rfl fun _ => rfl) (.const rfl) (fun _ => by omega)) rfl ?_
      refine AWl.put (R_assign rfl (.no rfl) rfl (.tmp rfl fun _ => rfl)) rfl ?_
      refine AWl.nil ?_
      repeat (with_reducible refine BlockQ.nor ?_)
      refine Round2.next (q + 1) (o) ⟨⟨by omega, hk.2⟩, (by rw [range_filter_succ, hb0]; simpa using he)⟩ (by omega) (Le.sub0 rfl ⟨rfl, rfl, rfl, rfl, rfl, rfl, rfl, rfl, rfl, rfl, trivial⟩ ⟨(by rfl), trivial⟩)
    · skip
      try simp only [bit_at, bit_zero, shr_zero] at h37
      try simp only [Int.toNat_natCast] at h37
      try simp at h37
      have hb1 : S0.testBit q = true := by simpa using h37
      refine AW.skip ?_
      refine AW.seq ?_
      refine AW.le (σ' := ⟨_, [(2, _), (3, _), (5, _), (6, _), (9, _), (10, _), (11, _), (12, _), (13, _), (14, _)], [(12, _)]⟩) (Le.sub0 rfl ⟨rfl, rfl, rfl, rfl, rfl, rfl, rfl, rfl, rfl, rfl, trivial⟩ ⟨rfl, trivial⟩) ?_
      refine AW.drawn 9 (nthB [[], [], [], [2], [], [2, 3, 4], [2, 3, 4, 5], [0, 1, 2, 3, 4, 5, 6], [0, 1, 2, 3, 4, 5, 6, 7]]) (by kernel_rfl) (by kernel_rfl) (by kernel_rfl) ?_
      refine DrawC.step rfl rfl rfl (Loc.of rfl fun σ' hs => (by exact R_load rfl (.no rfl) (hd_sup hs rfl) (.tmp (hs.slots _ _ rfl) fun _ => rfl) ty37 rfl rfl)) ?_
      refine DrawC.step rfl rfl rfl (Loc.of rfl fun σ' hs => R_move rfl (.no rfl) (hd_sup hs rfl) (.tmp (hs.slots _ _ rfl) fun _ => rfl)) ?_
      refine DrawC.step rfl rfl rfl (Loc.of rfl fun σ' hs => (by exact R_fieldAddr rfl (.no rfl) (hd_sup hs rfl) (.tmp (hs.slots _ _ rfl) fun _ => rfl) fl35_0)) ?_
      refine DrawC.step rfl rfl rfl (Loc.of rfl fun σ' hs => (by exact R_load rfl (.no rfl) (hd_sup hs rfl) (.tmp (hs.slots _ _ rfl) fun _ => rfl) ty22 rfl rfl)) ?_
      refine DrawC.step rfl rfl rfl (Loc.of rfl fun σ' hs => R_move rfl (.no rfl) (hd_sup hs rfl) (.tmp (hs.slots _ _ rfl) fun _ => rfl)) ?_
      refine DrawC.step rfl rfl rfl (Loc.of rfl fun σ' hs => (by exact R_indexAddr rfl (.no rfl) (hd_sup hs rfl) (.tmp (hs.slots _ _ rfl) fun _ => rfl) (.tmp (hs.slots _ _ rfl) fun _ => rfl) Try.underlying22 ty3 (fun _ => ⟨by omega, (by exact map_get hvx.1)⟩))) ?_
      refine DrawC.step rfl rfl rfl (Loc.of rfl fun σ' hs => (by exact R_load rfl (.no rfl) (hd_sup hs rfl) (.tmp (hs.slots _ _ rfl) fun _ => rfl) ty3 rfl rfl)) ?_
      refine DrawC.step rfl rfl rfl (Loc.of rfl fun σ' hs => R_callz (FnT.fr (specl14Closure a ha (q : Int) (valAt g nd) ⟨by omega, by omega⟩ hvx.2)) rfl (.no rfl) (hd_sup hs rfl) (.cons (.tmp (hs.slots _ _ rfl) fun _ => rfl) (readA_sup hs rfl) (.cons (.tmp (hs.slots _ _ rfl) fun _ => rfl) (readA_sup hs rfl) (.cons (.tmp (hs.slots _ _ rfl) fun _ => rfl) (readA_sup hs rfl) .nil)))) ?_
      refine DrawC.step rfl rfl rfl (Loc.of rfl fun σ' hs => R_assign rfl (.no rfl) (hd_sup hs rfl) (.tmp (hs.slots _ _ rfl) fun _ => rfl)) ?_
      refine DrawC.fin rfl rfl ?_
      refine AWl.nil ?_
      refine AW.seq ?_
      refine AW.le (σ' := ⟨_, [(2, _), (3, _), (5, _), (6, _), (9, _), (10, _), (11, _), (12, _), (13, _), (14, _), (15, _)], [(12, _)]⟩) (Le.sub0 rfl ⟨rfl, rfl, rfl, rfl, rfl, rfl, rfl, rfl, rfl, rfl, rfl, trivial⟩ ⟨rfl, trivial⟩) ?_
      refine AW.region ?_
      refine AWl.put (R_assign rfl (.no rfl) rfl (.const rfl)) rfl ?_
      refine AWl.nil ?_
      refine AW.block ?_
      refine AW.loop2 (fun (r : Nat) (p : Nat) => (r ≤ a.Accept.length ∧ p < 2 ^ a.Accept.length) ∧ p = aftF a y.letter ((List.range r).filter (closure a q (valAt g nd)).testBit) o) (fun (r : Nat) (p : Nat) => ⟨_, [(16, (true, .a (.one (.t (.v (.int .i64 (r : Nat))))))), (13, (true, .a (.one (.t (.v (.int .i64 (p : Nat))))))), (2, _), (3, _), (5, _), (6, _), (9, _), (10, _), (11, _), (12, _), (14, _), (15, _)], [(12, .box [.t (.v (.int .i64 e.ID)), .t (.v (.int .i64 e.From)), .t (.v (.int .i64 e.To)), .t (.v (.int .i64 e.Label))])]⟩) (fun (r : Nat) (p : Nat) => a.Accept.length - r) (0) (o) ⟨⟨Nat.zero_le _, hk.2⟩, (by simp [aftF])⟩ (Le.sub0 rfl ⟨rfl, rfl, rfl, rfl, rfl, rfl, rfl, rfl, rfl, rfl, rfl, rfl, trivial⟩ ⟨rfl, trivial⟩) ?_
      rintro r p ⟨hk1, he1⟩
      refine AW.seq ?_
      refine AW.seq ?_
      refine AW.region ?_
      refine AWl.put (R_move rfl (.no rfl) rfl (.tmp rfl fun _ => rfl)) rfl ?_
      refine AWl.put ((by exact R_fieldAddr rfl (.no rfl) rfl (.tmp rfl fun _ => rfl) fl37_1)) rfl ?_
      refine AWl.put ((by exact R_load rfl (.no rfl) rfl (.tmp rfl fun _ => rfl) ty26 rfl rfl)) rfl ?_
      refine AWl.put ((by exact R_lenm rfl (.no rfl) rfl (.tmp rfl fun _ => rfl) (by exact .t) Try.underlying26)) rfl ?_
      refine AWl.put (R_lt rfl (.no rfl) rfl (.tmp rfl fun _ => rfl) (.tmp rfl fun _ => rfl)) rfl ?_
      refine AWl.nil ?_
      refine AW.cond (.tmp rfl fun _ => rfl) (fun h50 => ?_) (fun h50 => ?_)
      · skip
        try simp only [bit_at, bit_zero, shr_zero] at h50
        try simp only [Int.toNat_natCast] at h50
        try simp at h50
        obtain ⟨row, hr1, hr2, hr3, hn1, hn2⟩ := validA_next ha (s := (r : Int)) (k := y.letter) (by omega) (by omega) (by omega) (by omega)
        refine AW.skip ?_
        refine AW.seq ?_
        refine AW.block ?_
        refine AW.seq ?_
        refine AW.drawn 12 (nthB [[], [0], [], [0, 1, 2], [0, 1, 2, 3], [], [], [6], [5, 6, 7], [0, 1, 2, 3, 4, 5, 6, 7, 8], [0, 1, 2, 3, 4, 5, 6, 7, 8, 9], [0, 1, 2, 3, 4, 5, 6, 7, 8, 9, 10]]) (by kernel_rfl) (by kernel_rfl) (by kernel_rfl) ?_
        refine DrawC.step rfl rfl rfl (Loc.of rfl fun σ' hs => (by exact R_fieldAddr rfl (.no rfl) (hd_sup hs rfl) (.tmp (hs.slots _ _ rfl) fun _ => rfl) fl37_2)) ?_
        refine DrawC.step rfl rfl rfl (Loc.of rfl fun σ' hs => (by exact R_load rfl (.no rfl) (hd_sup hs rfl) (.tmp (hs.slots _ _ rfl) fun _ => rfl) ty27 rfl rfl)) ?_
        refine DrawC.step rfl rfl rfl (Loc.of rfl fun σ' hs => R_move rfl (.no rfl) (hd_sup hs rfl) (.tmp (hs.slots _ _ rfl) fun _ => rfl)) ?_
        refine DrawC.step rfl rfl rfl (Loc.of rfl fun σ' hs => (by exact R_indexAddr rfl (.no rfl) (hd_sup hs rfl) (.tmp (hs.slots _ _ rfl) fun _ => rfl) (.tmp (hs.slots _ _ rfl) fun _ => rfl) Try.underlying27 ty22 (fun _ => ⟨by omega, (by exact map_get hr1)⟩))) ?_
        refine DrawC.step rfl rfl rfl (Loc.of rfl fun σ' hs => (by exact R_load rfl (.no rfl) (hd_sup hs rfl) (.tmp (hs.slots _ _ rfl) fun _ => rfl) ty22 rfl rfl)) ?_
        refine DrawC.step rfl rfl rfl (Loc.of rfl fun σ' hs => (by exact R_load_pp rfl (.no rfl) (hd_sup hs rfl) (.tmp (hs.slots _ _ rfl) fun _ => rfl) (hs.res _ _ rfl) ty154 rfl rfl)) ?_
        refine DrawC.step rfl rfl rfl (Loc.of rfl fun σ' hs => (by exact R_fieldAddr rfl (.no rfl) (hd_sup hs rfl) (.tmp (hs.slots _ _ rfl) fun _ => rfl) fl122_1)) ?_
        refine DrawC.step rfl rfl rfl (Loc.of rfl fun σ' hs => (by exact R_load rfl (.no rfl) (hd_sup hs rfl) (.tmp (hs.slots _ _ rfl) fun _ => rfl) ty4 rfl rfl)) ?_
        refine DrawC.step rfl rfl rfl (Loc.of rfl fun σ' hs => R_callz (FnT.fr (hlet)) rfl (.no rfl) (hd_sup hs rfl) (.cons (.tmp (hs.slots _ _ rfl) fun _ => rfl) (readA_sup hs rfl) (.cons (.tmp (hs.slots _ _ rfl) fun _ => rfl) (readA_sup hs rfl) .nil))) ?_
        refine DrawC.step rfl rfl rfl (Loc.of rfl fun σ' hs => (by exact R_indexAddr rfl (.no rfl) (hd_sup hs rfl) (.tmp (hs.slots _ _ rfl) fun _ => rfl) (.tmp (hs.slots _ _ rfl) fun _ => rfl) Try.underlying22 ty3 (fun _ => ⟨by omega, (by exact map_get hr3)⟩))) ?_
        refine DrawC.step rfl rfl rfl (Loc.of rfl fun σ' hs => (by exact R_load rfl (.no rfl) (hd_sup hs rfl) (.tmp (hs.slots _ _ rfl) fun _ => rfl) ty3 rfl rfl)) ?_
        refine DrawC.step rfl rfl rfl (Loc.of rfl fun σ' hs => R_assign rfl (.no rfl) (hd_sup hs rfl) (.tmp (hs.slots _ _ rfl) fun _ => rfl)) ?_
        refine DrawC.fin rfl rfl ?_
        refine AWl.nil ?_
        refine AW.seq ?_
        refine AW.le (σ' := ⟨_, [(2, _), (3, _), (5, _), (6, _), (9, _), (10, _), (11, _), (12, _), (13, _), (14, _), (15, _), (16, _), (17, _)], [(12, _)]⟩) (Le.sub0 rfl ⟨rfl, rfl, rfl, rfl, rfl, rfl, rfl, rfl, rfl, rfl, rfl, rfl, rfl, trivial⟩ ⟨rfl, trivial⟩) ?_
        refine AW.region ?_
        refine AWl.put (R_move rfl (.no rfl) rfl (.tmp rfl fun _ => rfl)) rfl ?_
        refine AWl.put (R_move rfl (.no rfl) rfl (.tmp rfl fun _ => rfl)) rfl ?_
        refine AWl.put (R_shr rfl (.no rfl) rfl (.tmp rfl fun _ => rfl) (.tmp rfl fun _ => rfl) (fun _ => by omega)) rfl ?_
        refine AWl.put (R_and1 rfl (.no rfl) rfl (.tmp rfl fun _ => rfl) (.const rfl) (fun _ => by first | exact Int.natCast_nonneg _ | omega)) rfl ?_
        refine AWl.put (R_eq rfl (.no rfl) rfl (.tmp rfl fun _ => rfl) (.const rfl)) rfl ?_
        refine AWl.put (R_move rfl (.no rfl) rfl (.tmp rfl fun _ => rfl)) rfl ?_
        refine AWl.put (R_move rfl (by exact .yes1 rfl rfl rfl rfl) rfl (.tmp rfl (by exact fun _ => rfl))) rfl ?_
        refine AWl.put (R_ge rfl (by exact .yes1 rfl rfl rfl rfl) rfl (.tmp rfl (by exact id)) (.const rfl)) rfl ?_
        refine AWl.put (R_and rfl (.no rfl) rfl (.tmp rfl fun _ => rfl) (.tmp rfl (by exact id))) rfl ?_
        refine AWl.nil ?_
        refine AW.cond (.tmp rfl fun _ => rfl) (fun h72 => ?_) (fun h72 => ?_)
        · skip
          try simp only [bit_at, bit_zero, shr_zero] at h72
          try simp only [Int.toNat_natCast] at h72
          try simp at h72
          have h2x := pow_12 ha (x := (nextOf a r y.letter).toNat) (by omega)
          have h2p := Nat.two_pow_pos (nextOf a r y.letter).toNat
          refine AW.le (σ' := ⟨_, [(2, _), (3, _), (5, _), (6, _), (9, _), (10, _), (11, _), (12, _), (13, _), (14, _), (15, _), (16, _), (17, _)], [(12, _)]⟩) (Le.sub0 rfl ⟨rfl, rfl, rfl, rfl, rfl, rfl, rfl, rfl, rfl, rfl, rfl, rfl, rfl, trivial⟩ ⟨rfl, trivial⟩) ?_
          refine AW.region ?_
          refine AWl.put (R_move rfl (.no rfl) rfl (.tmp rfl fun _ => rfl)) rfl ?_
          refine AWl.put (R_move rfl (.no rfl) rfl (.tmp rfl fun _ => rfl)) rfl ?_
          refine AWl.put (R_shlN rfl (.no rfl) rfl (.const rfl) (.tmp rfl fun _ => rfl) (fun _ => by omega)) rfl ?_
          refine AWl.put (R_or_int rfl (.no rfl) rfl (.tmp rfl fun _ => rfl) (.tmp rfl fun _ => rfl) (fun _ => by omega)) rfl ?_
          refine AWl.put (R_assign rfl (.no rfl) rfl (.tmp rfl fun _ => rfl)) rfl ?_
          refine AWl.nil ?_
          refine AW.region ?_
          refine AWl.put (R_move rfl (.no rfl) rfl (.tmp rfl fun _ => rfl)) rfl ?_
          refine AWl.put (R_add rfl (.no rfl) rfl (.tmp rfl fun _ => rfl) (.const rfl) (fun _ => by omega)) rfl ?_
          refine AWl.put (R_assign rfl (.no rfl) rfl (.tmp rfl fun _ => rfl)) rfl ?_
          refine AWl.nil ?_
          repeat (with_reducible refine BlockQ.nor ?_)
          refine Round2.next (r + 1) (p ||| 2 ^ (nextOf a r y.letter).toNat) ⟨⟨by omega, or_pow_lt hk1.2 (by omega)⟩, (by rw [range_filter_succ, h72.1, if_pos rfl, aftF_snoc, if_pos h72.2, he1])⟩ (by omega) (Le.sub0 rfl ⟨rfl, rfl, rfl, rfl, rfl, rfl, rfl, rfl, rfl, rfl, rfl, rfl, trivial⟩ ⟨(by rfl), trivial⟩)
        · skip
          try simp only [bit_at, bit_zero, shr_zero] at h72
          try simp only [Int.toNat_natCast] at h72
          try simp at h72
          refine AW.skip ?_
          refine AW.le (σ' := ⟨_, [(2, _), (3, _), (5, _), (6, _), (9, _), (10, _), (11, _), (12, _), (13, _), (14, _), (15, _), (16, _), (17, _)], [(12, _)]⟩) (Le.sub0 rfl ⟨rfl, rfl, rfl, rfl, rfl, rfl, rfl, rfl, rfl, rfl, rfl, rfl, rfl, trivial⟩ ⟨rfl, trivial⟩) ?_
          refine AW.region ?_
          refine AWl.put (R_move rfl (.no rfl) rfl (.tmp rfl fun _ => rfl)) rfl ?_
          refine AWl.put (R_add rfl (.no rfl) rfl (.tmp rfl fun _ => rfl) (.const rfl) (fun _ => by omega)) rfl ?_
          refine AWl.put (R_assign rfl (.no rfl) rfl (.tmp rfl fun _ => rfl)) rfl ?_
          refine AWl.nil ?_
          repeat (with_reducible refine BlockQ.nor ?_)
          refine Round2.next (r + 1) (p) ⟨⟨by omega, hk1.2⟩, (by rw [range_filter_succ]; cases hb : (closure a q (valAt g nd)).testBit r with | false => (rw [if_neg (by simp), List.append_nil]; exact he1) | true => (rw [if_pos rfl, aftF_snoc, if_neg (by have := h72 hb; omega)]; exact he1))⟩ (by omega) (Le.sub0 rfl ⟨rfl, rfl, rfl, rfl, rfl, rfl, rfl, rfl, rfl, rfl, rfl, rfl, trivial⟩ ⟨(by rfl), trivial⟩)
      · skip
        try simp only [bit_at, bit_zero, shr_zero] at h50
        try simp only [Int.toNat_natCast] at h50
        try simp at h50
        refine AW.exit ?_
        refine AW.region ?_
        refine AWl.put (R_move rfl (.no rfl) rfl (.tmp rfl fun _ => rfl)) rfl ?_
        refine AWl.put (R_add rfl (.no rfl) rfl (.tmp rfl fun _ => rfl) (.const rfl) (fun _ => by omega)) rfl ?_
        refine AWl.put (R_assign rfl (.no rfl) rfl (.tmp rfl fun _ => rfl)) rfl ?_
        refine AWl.nil ?_
        repeat (with_reducible refine BlockQ.nor ?_)
        refine Round2.next (q + 1) (p) ⟨⟨by omega, hk1.2⟩, (by rw [range_filter_succ, hb1, if_pos rfl, List.foldl_append, ← he, he1, show r = a.Accept.length by omega, ← bits_eq hcl (by omega)]; rfl)⟩ (by omega) (Le.sub0 rfl ⟨rfl, rfl, rfl, rfl, rfl, rfl, rfl, rfl, rfl, rfl, trivial⟩ ⟨(by rfl), trivial⟩)
  · skip
    try simp only [bit_at, bit_zero, shr_zero] at h30
    try simp only [Int.toNat_natCast] at h30
    try simp at h30
    refine AW.exit ?_
    refine AW.seq ?_
    refine AW.region ?_
    refine AWl.put ((by exact R_load_pp rfl (.no rfl) rfl (.tmp rfl fun _ => rfl) rfl ty154 rfl rfl)) rfl ?_
    refine AWl.put ((by exact R_fieldAddr rfl (.no rfl) rfl (.tmp rfl fun _ => rfl) fl122_1)) rfl ?_
    refine AWl.put ((by exact R_load rfl (.no rfl) rfl (.tmp rfl fun _ => rfl) ty4 rfl rfl)) rfl ?_
    refine AWl.put (R_callz (FnT.fr (hto)) rfl (.no rfl) rfl (.cons (.tmp rfl fun _ => rfl) rfl (.cons (.tmp rfl fun _ => rfl) rfl .nil))) rfl ?_
    refine AWl.put (R_move rfl (.no rfl) rfl (.tmp rfl fun _ => rfl)) rfl ?_
    refine AWl.put (R_assign rfl (.no rfl) rfl (.tmp rfl fun _ => rfl)) rfl ?_
    refine AWl.put (R_assign rfl (.no rfl) rfl (.tmp rfl fun _ => rfl)) rfl ?_
    refine AWl.nil ?_
    refine AW.ret ?_
    refine Res.many rfl (.tmp rfl (.tmp rfl .nil)) rfl ?_ (by simp)
    unfold aftS; rw [bits_eq hS (by omega), he, show q = a.Accept.length by omega]; rfl
theorem specl18Ends (g : TGraph) (a : TAutomaton) (ha : validA a = true) (hg : validG g = true) (nd : Int) (hnd : 0 ≤ nd ∧ nd < g.Values.length) (S0 : Nat) (hS : S0 < 2 ^ a.Accept.length) : FnT Try.prog 113 [.agg (cGraph g), .agg (cAutomaton a), .one (.v (.int .i64 nd)), .one (.v (.int .i64 (S0 : Int)))] (.a (.one (.v (.bool (accS a S0 (valAt g nd)))))) := by
  refine FnT.walk Try.func113 rfl (by kernel_rfl) Try.ntmps113 rfl fun hlen w0 => ?_
  try simp [cPair, cToken, cExpr, cEdge, cGraph, cStep, cWalk, cChange, cBatch, cHistory, cPositions, cAutomaton, cProductStep, cPathAtom, cConjunction, cView, cDelta, cRegistered, cRegistry] at hlen
  have hA := validA_len ha
  have hP := pow_le_12 ha
  have hvx := valAt_ok hg hnd
  refine AW.seq ?_
  refine AW.region ?_
  refine AWl.put (R_boxz rfl rfl rfl (.tmp rfl fun _ => rfl) (ts := _) (by rfl)) rfl ?_
  refine AWl.put (R_boxz rfl rfl rfl (.tmp rfl fun _ => rfl) (ts := _) (by rfl)) rfl ?_
  refine AWl.put (R_assign rfl (.no rfl) rfl (.const rfl)) rfl ?_
  refine AWl.nil ?_
  refine AW.seq ?_
  refine AW.seq ?_
  refine AW.region ?_
  refine AWl.put (R_assign rfl (.no rfl) rfl (.const rfl)) rfl ?_
  refine AWl.nil ?_
  refine AW.block ?_
  refine AW.loop1 (fun (k : Nat) => (k ≤ a.Accept.length ∧ ∀ j, j < k → (S0.testBit j && acc a (j : Nat) (valAt g nd)) = false) ∧ True) (fun (k : Nat) => ⟨_, [(9, (true, .a (.one (.t (.v (.int .i64 (k : Nat))))))), (2, _), (3, _), (4, _), (5, _)], []⟩) (fun (k : Nat) => a.Accept.length - k) (0) ⟨⟨Nat.zero_le _, fun j hj => absurd hj (Nat.not_lt_zero j)⟩, trivial⟩ (Le.sub0 rfl ⟨rfl, rfl, rfl, rfl, rfl, trivial⟩ trivial) ?_
  rintro k ⟨hk, he⟩
  refine AW.seq ?_
  refine AW.seq ?_
  refine AW.region ?_
  refine AWl.put (R_move rfl (.no rfl) rfl (.tmp rfl fun _ => rfl)) rfl ?_
  refine AWl.put ((by exact R_fieldAddr rfl (.no rfl) rfl (.tmp rfl fun _ => rfl) fl37_1)) rfl ?_
  refine AWl.put ((by exact R_load rfl (.no rfl) rfl (.tmp rfl fun _ => rfl) ty26 rfl rfl)) rfl ?_
  refine AWl.put ((by exact R_lenm rfl (.no rfl) rfl (.tmp rfl fun _ => rfl) (by exact .t) Try.underlying26)) rfl ?_
  refine AWl.put (R_lt rfl (.no rfl) rfl (.tmp rfl fun _ => rfl) (.tmp rfl fun _ => rfl)) rfl ?_
  refine AWl.nil ?_
  refine AW.cond (.tmp rfl fun _ => rfl) (fun h14 => ?_) (fun h14 => ?_)
  · skip
    try simp only [bit_at, bit_zero, shr_zero] at h14
    try simp only [Int.toNat_natCast] at h14
    try simp at h14
    refine AW.skip ?_
    refine AW.seq ?_
    refine AW.block ?_
    refine AW.seq ?_
    refine AW.region ?_
    refine AWl.put (R_move rfl (.no rfl) rfl (.tmp rfl fun _ => rfl)) rfl ?_
    refine AWl.put (R_move rfl (.no rfl) rfl (.tmp rfl fun _ => rfl)) rfl ?_
    refine AWl.put (R_shr rfl (.no rfl) rfl (.tmp rfl fun _ => rfl) (.tmp rfl fun _ => rfl) (fun _ => by omega)) rfl ?_
    refine AWl.put (R_and1 rfl (.no rfl) rfl (.tmp rfl fun _ => rfl) (.const rfl) (fun _ => by first | exact Int.natCast_nonneg _ | omega)) rfl ?_
    refine AWl.put (R_eq rfl (.no rfl) rfl (.tmp rfl fun _ => rfl) (.const rfl)) rfl ?_
    refine AWl.put (R_move rfl (.no rfl) rfl (.tmp rfl fun _ => rfl)) rfl ?_
    refine AWl.put ((by exact R_load rfl (by exact .yes1 rfl rfl rfl rfl) rfl (.tmp rfl (by exact fun _ => rfl)) ty35 rfl rfl)) rfl ?_
    refine AWl.put ((by exact R_load rfl (by exact .yes1 rfl rfl rfl rfl) rfl (.tmp rfl (by exact fun _ => rfl)) ty37 rfl rfl)) rfl ?_
    refine AWl.put (R_move rfl (by exact .yes1 rfl rfl rfl rfl) rfl (.tmp rfl (by exact fun _ => rfl))) rfl ?_
    refine AWl.put (R_move rfl (by exact .yes1 rfl rfl rfl rfl) rfl (.tmp rfl (by exact fun _ => rfl))) rfl ?_
    refine AWl.put (R_callq rfl (by exact .yes1 rfl rfl rfl rfl) rfl (.cons (.tmp rfl (by exact id)) rfl (.cons (.tmp rfl (by exact id)) rfl (.cons (.tmp rfl (by exact id)) rfl (.cons (.tmp rfl (by exact id)) rfl .nil)))) fun hq => FnT.fr (specl14Accepts g a ha hg nd (k : Int) (valAt g nd) hnd.1 hvx.1 (by omega))) rfl ?_
    refine AWl.put (R_and rfl (.no rfl) rfl (.tmp rfl fun _ => rfl) (.tmp rfl (by exact id))) rfl ?_
    refine AWl.nil ?_
    refine AW.cond (.tmp rfl fun _ => rfl) (fun h28 => ?_) (fun h28 => ?_)
    · skip
      simp only [bit_at] at h28; simp only [Int.toNat_natCast] at h28
      refine AW.seq ?_
      refine AW.le (σ' := ⟨_, [(2, _), (3, _), (4, _), (5, _), (9, _)], []⟩) (Le.sub0 rfl ⟨rfl, rfl, rfl, rfl, rfl, trivial⟩ trivial) ?_
      refine AW.region ?_
      refine AWl.put (R_assign rfl (.no rfl) rfl (.const rfl)) rfl ?_
      refine AWl.nil ?_
      refine AW.ret ?_
      refine Res.v rfl rfl ?_
      unfold accS; rw [bits_eq hS (by omega), any_filter_range, range_any (by omega) h28]
    · skip
      simp only [bit_at] at h28; simp only [Int.toNat_natCast] at h28
      refine AW.skip ?_
      refine AW.le (σ' := ⟨_, [(2, _), (3, _), (4, _), (5, _), (9, _)], []⟩) (Le.sub0 rfl ⟨rfl, rfl, rfl, rfl, rfl, trivial⟩ trivial) ?_
      refine AW.region ?_
      refine AWl.put (R_move rfl (.no rfl) rfl (.tmp rfl fun _ => rfl)) rfl ?_
      refine AWl.put (R_add rfl (.no rfl) rfl (.tmp rfl fun _ => rfl) (.const rfl) (fun _ => by omega)) rfl ?_
      refine AWl.put (R_assign rfl (.no rfl) rfl (.tmp rfl fun _ => rfl)) rfl ?_
      refine AWl.nil ?_
      repeat (with_reducible refine BlockQ.nor ?_)
      refine Round1.next (k + 1) ⟨⟨by omega, lt_succ_cases hk.2 h28⟩, trivial⟩ (by omega) (Le.sub0 rfl ⟨rfl, rfl, rfl, rfl, rfl, trivial⟩ trivial)
  · skip
    try simp only [bit_at, bit_zero, shr_zero] at h14
    try simp only [Int.toNat_natCast] at h14
    try simp at h14
    refine AW.exit ?_
    refine AW.seq ?_
    refine AW.region ?_
    refine AWl.put (R_assign rfl (.no rfl) rfl (.const rfl)) rfl ?_
    refine AWl.nil ?_
    refine AW.ret ?_
    refine Res.v rfl rfl ?_
    unfold accS; rw [bits_eq hS (by omega), any_filter_range, range_none (by omega) hk.2]
theorem specl23Explore (g : TGraph) (a : TAutomaton) (ha : validA a = true) (hg : validG g = true) (c x : Int) (hx : 0 ≤ x ∧ x < g.Values.length) : FnT Try.prog 112 [.agg (cGraph g), .agg (cAutomaton a), .one (.v (.int .i64 c)), .one (.v (.int .i64 x))] (.a (.one (.sl 5 ((expL g a c x).map cNd)))) := by
  refine FnT.walk Try.func112 rfl (by kernel_rfl) Try.ntmps112 rfl fun hlen w0 => ?_
  try simp [cPair, cToken, cExpr, cEdge, cGraph, cStep, cWalk, cChange, cBatch, cHistory, cPositions, cAutomaton, cProductStep, cPathAtom, cConjunction, cView, cDelta, cRegistered, cRegistry] at hlen
  have hA := validA_len ha
  have hG := validG_len hg
  have hP := pow_le_12 ha
  refine AW.seq ?_
  refine AW.region ?_
  refine AWl.put (R_boxz rfl rfl rfl (.tmp rfl fun _ => rfl) (ts := _) (by rfl)) rfl ?_
  refine AWl.put (R_boxz rfl rfl rfl (.tmp rfl fun _ => rfl) (ts := _) (by rfl)) rfl ?_
  refine AWl.put (R_assign rfl (.no rfl) rfl (.const rfl)) rfl ?_
  refine AWl.nilS (i := 8) 20001 5 rfl rfl ?_
  refine AWl.nil ?_
  refine AW.seq ?_
  refine AW.region ?_
  refine AWl.put (R_move rfl (.no rfl) rfl (.tmp rfl fun _ => rfl)) rfl ?_
  refine AWl.put ((by exact R_fieldAddr rfl (.no rfl) rfl (.tmp rfl fun _ => rfl) fl37_0)) rfl ?_
  refine AWl.put ((by exact R_load rfl (.no rfl) rfl (.tmp rfl fun _ => rfl) ty3 rfl rfl)) rfl ?_
  refine AWl.put (R_shlN rfl (.no rfl) rfl (.const rfl) (.tmp rfl fun _ => rfl) (fun _ => by omega)) rfl ?_
  refine AWl.put (R_build (ps := [(0, .tmp 17), (1, .tmp 20), (2, .const (.int .i64 (-1)))]) rfl rfl rfl in142 rfl rfl st142 (.cons (.tmp rfl fun _ => rfl) rfl rfl fp142_0 (.cons (.tmp rfl fun _ => rfl) rfl rfl fp142_1 (.cons (.const rfl) rfl rfl fp142_2 .nil))) rfl) rfl ?_
  refine AWl.absadd (R_list (xs := [.tmp 21]) 22 rfl rfl rfl (.cons (.tmp rfl fun _ => rfl) rfl rfl .nil) Try.underlying139 in142 rfl rfl rfl rfl) rfl ?_
  refine AWl.put (R_assign rfl (.no rfl) rfl (.tmp rfl fun _ => rfl)) rfl ?_
  refine AWl.nil ?_
  refine AW.seq ?_
  refine AW.seq ?_
  refine AW.le (σ' := ⟨_, [(0, _), (1, _), (2, _), (3, _), (4, _), (5, _), (8, _), (9, _)], [(20001, _), (22, _)]⟩) (Le.sub0 rfl ⟨rfl, rfl, rfl, rfl, rfl, rfl, rfl, rfl, trivial⟩ ⟨rfl, rfl, trivial⟩) ?_
  refine AW.region ?_
  refine AWl.put (R_assign rfl (.no rfl) rfl (.const rfl)) rfl ?_
  refine AWl.nil ?_
  refine AW.block ?_
  refine AW.loop1 (fun (k : Nat) => (k ≤ (expAt g a c x k).length ∧ k ≤ 20480) ∧ True) (fun (k : Nat) => ⟨_, [(10, (true, .a (.one (.t (.v (.int .i64 (k : Nat))))))), (9, (true, .a (.one (.rf 22)))), (2, _), (4, _), (5, _), (8, _)], [(22, .row 5 ((expAt g a c x k).map cNd))]⟩) (fun (k : Nat) => 20480 - k) (0) ⟨⟨Nat.zero_le _, Nat.zero_le _⟩, trivial⟩ (Le.sub0 rfl ⟨rfl, rfl, rfl, rfl, rfl, rfl, trivial⟩ ⟨(by refine congrArg (fun r => some (R.row 5 r)) ?_; first | rfl | (simp [expN]; done) | (simp [expAt, startN, cNd]; done)), trivial⟩) ?_
  rintro k ⟨hk, he⟩
  refine AW.seq ?_
  refine AW.seq ?_
  refine AW.region ?_
  refine AWl.put (R_move rfl (.no rfl) rfl (.tmp rfl fun _ => rfl)) rfl ?_
  refine AWl.put (R_move rfl (.no rfl) rfl (.tmp rfl fun _ => rfl)) rfl ?_
  refine AWl.put ((by exact R_lenm rfl (.no rfl) rfl (.tmp rfl fun _ => rfl) (by exact .rf rfl) Try.underlying139)) rfl ?_
  refine AWl.put (R_lt rfl (.no rfl) rfl (.tmp rfl fun _ => rfl) (.tmp rfl fun _ => rfl)) rfl ?_
  refine AWl.nil ?_
  refine AW.cond (.tmp rfl fun _ => rfl) (fun h26 => ?_) (fun h26 => ?_)
  · skip
    try simp at h26
    obtain ⟨d, hd⟩ : ∃ ξ, (expAt g a c x k)[k]? = some ξ := ⟨_, List.getElem?_eq_getElem (by omega)⟩
    have hI := ExI.at g a c x k
    have hr := hI.rch d (List.mem_of_getElem? hd)
    have hrr := hr.rng ha hg hx
    have hll := hI.len ha hg hx
    have hkl := (List.getElem?_eq_some_iff.1 hd).1
    have hvd := valAt_ok hg hrr.1
    have hexp : expAt g a c x (k + 1) = expN g a c k d (arcsAt g d.node).length (expAt g a c x k) := by rw [expAt, hd]
    have hmo : ∀ j, (expAt g a c x k).length ≤ (expN g a c k d j (expAt g a c x k)).length := fun j => by (obtain ⟨r, h⟩ := expN_pre g a c k d (expAt g a c x k) ((arcsAt g d.node).take j); unfold expN; rw [h, List.length_append]; omega)
    have hal : (arcsAt g d.node).length ≤ 24 := Nat.le_trans (arcsL_len _ _) (by omega)
    refine AW.skip ?_
    refine AW.seq ?_
    refine AW.block ?_
    refine AW.seq ?_
    refine AW.drawn 8 (nthB [[], [], [], [1, 2], [1, 2, 3], [1, 2, 3, 4], [0, 1, 2, 3, 4, 5], [0, 1, 2, 3, 4, 5, 6]]) (by kernel_rfl) (by kernel_rfl) (by kernel_rfl) ?_
    refine DrawC.step rfl rfl rfl (Loc.of rfl fun σ' hs => (by exact R_load rfl (.no rfl) (hd_sup hs rfl) (.tmp (hs.slots _ _ rfl) fun _ => rfl) ty35 rfl rfl)) ?_
    refine DrawC.step rfl rfl rfl (Loc.of rfl fun σ' hs => R_move rfl (.no rfl) (hd_sup hs rfl) (.tmp (hs.slots _ _ rfl) fun _ => rfl)) ?_
    refine DrawC.step rfl rfl rfl (Loc.of rfl fun σ' hs => R_move rfl (.no rfl) (hd_sup hs rfl) (.tmp (hs.slots _ _ rfl) fun _ => rfl)) ?_
    refine DrawC.step rfl rfl rfl (Loc.of rfl fun σ' hs => (by exact R_indexAddr_rf rfl (.no rfl) (hd_sup hs rfl) (.tmp (hs.slots _ _ rfl) fun _ => rfl) (hs.res _ _ rfl) (.tmp (hs.slots _ _ rfl) fun _ => rfl) Try.underlying139 ty142 (fun _ => ⟨by omega, (by exact map_get hd)⟩))) ?_
    refine DrawC.step rfl rfl rfl (Loc.of rfl fun σ' hs => (by exact R_fieldAddr_pr rfl (.no rfl) (hd_sup hs rfl) (.tmp (hs.slots _ _ rfl) fun _ => rfl) fl142_0)) ?_
    refine DrawC.step rfl rfl rfl (Loc.of rfl fun σ' hs => (by exact R_load_pr rfl (.no rfl) (hd_sup hs rfl) (.tmp (hs.slots _ _ rfl) fun _ => rfl) (hs.res _ _ rfl) (by exact map_get hd) ty3 rfl rfl)) ?_
    refine DrawC.step rfl rfl rfl (Loc.of rfl fun σ' hs => R_callz (FnT.fr (specl4From g d.node (by omega))) rfl (.no rfl) (hd_sup hs rfl) (.cons (.tmp (hs.slots _ _ rfl) fun _ => rfl) (readA_sup hs rfl) (.cons (.tmp (hs.slots _ _ rfl) fun _ => rfl) (readA_sup hs rfl) .nil))) ?_
    refine DrawC.step rfl rfl rfl (Loc.of rfl fun σ' hs => R_assign rfl (.no rfl) (hd_sup hs rfl) (.tmp (hs.slots _ _ rfl) fun _ => rfl)) ?_
    refine DrawC.fin rfl rfl ?_
    refine AWl.nil ?_
    refine AW.seq ?_
    refine AW.le (σ' := ⟨_, [(2, _), (4, _), (5, _), (8, _), (9, _), (10, _), (11, _)], [(22, _)]⟩) (Le.sub0 rfl ⟨rfl, rfl, rfl, rfl, rfl, rfl, rfl, trivial⟩ ⟨rfl, trivial⟩) ?_
    refine AW.region ?_
    refine AWl.put (R_assign rfl (.no rfl) rfl (.const rfl)) rfl ?_
    refine AWl.nil ?_
    refine AW.block ?_
    refine AW.loop1 (fun (i : Nat) => (i ≤ (arcsAt g d.node).length) ∧ True) (fun (i : Nat) => ⟨_, [(12, (true, .a (.one (.t (.v (.int .i64 (i : Nat))))))), (9, (true, .a (.one (.rf 22)))), (2, _), (4, _), (5, _), (8, _), (10, _), (11, _)], [(22, .row 5 ((expN g a c k d i (expAt g a c x k)).map cNd))]⟩) (fun (i : Nat) => (arcsAt g d.node).length - i) (0) ⟨Nat.zero_le _, trivial⟩ (Le.sub0 rfl ⟨rfl, rfl, rfl, rfl, rfl, rfl, rfl, rfl, trivial⟩ ⟨(by refine congrArg (fun r => some (R.row 5 r)) ?_; first | rfl | (simp [expN]; done) | (simp [expAt, startN, cNd]; done)), trivial⟩) ?_
    rintro i ⟨hk1, he1⟩
    refine AW.seq ?_
    refine AW.seq ?_
    refine AW.region ?_
    refine AWl.put (R_move rfl (.no rfl) rfl (.tmp rfl fun _ => rfl)) rfl ?_
    refine AWl.put (R_move rfl (.no rfl) rfl (.tmp rfl fun _ => rfl)) rfl ?_
    refine AWl.put ((by exact R_lenm rfl (.no rfl) rfl (.tmp rfl fun _ => rfl) (by exact .t) Try.underlying66)) rfl ?_
    refine AWl.put (R_lt rfl (.no rfl) rfl (.tmp rfl fun _ => rfl) (.tmp rfl fun _ => rfl)) rfl ?_
    refine AWl.nil ?_
    refine AW.cond (.tmp rfl fun _ => rfl) (fun h39 => ?_) (fun h39 => ?_)
    · skip
      try simp at h39
      obtain ⟨y, hy⟩ : ∃ ξ, (arcsAt g d.node)[i]? = some ξ := ⟨_, List.getElem?_eq_getElem (by omega)⟩
      have hym := List.mem_of_getElem? hy
      have hsy : ((arcsAt g d.node).map (·.step))[i]? = some y.step := by (rw [List.getElem?_map, hy]; rfl)
      have hI2 := hI.expN (k := k) hr i
      have hl2 := hI2.len ha hg hx
      have hdk : (expN g a c k d i (expAt g a c x k))[k]? = some d := by (rw [expN_get (by omega)]; exact hd)
      have hto := arc_mem hg hym
      have hvt := valAt_ok hg hto.2.2
      refine AW.skip ?_
      refine AW.seq ?_
      refine AW.block ?_
      refine AW.seq ?_
      refine AW.drawn 22 (nthB [[], [], [], [], [2, 3], [2, 3, 4], [2, 3, 4, 5], [], [], [7, 8], [7, 8, 9], [7, 8, 9, 10], [], [], [12, 13], [12, 13, 14], [0, 1, 2, 3, 4, 5, 6, 7, 8, 9, 10, 11, 12, 13, 14, 15], [0, 1, 2, 3, 4, 5, 6, 7, 8, 9, 10, 11, 12, 13, 14, 15, 16], [0, 1, 2, 3, 4, 5, 6, 7, 8, 9, 10, 11, 12, 13, 14, 15, 16, 17], [0, 1, 2, 3, 4, 5, 6, 7, 8, 9, 10, 11, 12, 13, 14, 15, 16, 17], [0, 1, 2, 3, 4, 5, 6, 7, 8, 9, 10, 11, 12, 13, 14, 15, 16, 17, 18], [0, 1, 2, 3, 4, 5, 6, 7, 8, 9, 10, 11, 12, 13, 14, 15, 16, 17, 18, 19, 20]]) (by kernel_rfl) (by kernel_rfl) (by kernel_rfl) ?_
      refine DrawC.step rfl rfl rfl (Loc.of rfl fun σ' hs => (by exact R_load rfl (.no rfl) (hd_sup hs rfl) (.tmp (hs.slots _ _ rfl) fun _ => rfl) ty35 rfl rfl)) ?_
      refine DrawC.step rfl rfl rfl (Loc.of rfl fun σ' hs => (by exact R_load rfl (.no rfl) (hd_sup hs rfl) (.tmp (hs.slots _ _ rfl) fun _ => rfl) ty37 rfl rfl)) ?_
      refine DrawC.step rfl rfl rfl (Loc.of rfl fun σ' hs => R_move rfl (.no rfl) (hd_sup hs rfl) (.tmp (hs.slots _ _ rfl) fun _ => rfl)) ?_
      refine DrawC.step rfl rfl rfl (Loc.of rfl fun σ' hs => R_move rfl (.no rfl) (hd_sup hs rfl) (.tmp (hs.slots _ _ rfl) fun _ => rfl)) ?_
      refine DrawC.step rfl rfl rfl (Loc.of rfl fun σ' hs => (by exact R_indexAddr_rf rfl (.no rfl) (hd_sup hs rfl) (.tmp (hs.slots _ _ rfl) fun _ => rfl) (hs.res _ _ rfl) (.tmp (hs.slots _ _ rfl) fun _ => rfl) Try.underlying139 ty142 (fun _ => ⟨by omega, (by exact map_get hdk)⟩))) ?_
      refine DrawC.step rfl rfl rfl (Loc.of rfl fun σ' hs => (by exact R_fieldAddr_pr rfl (.no rfl) (hd_sup hs rfl) (.tmp (hs.slots _ _ rfl) fun _ => rfl) fl142_0)) ?_
      refine DrawC.step rfl rfl rfl (Loc.of rfl fun σ' hs => (by exact R_load_pr rfl (.no rfl) (hd_sup hs rfl) (.tmp (hs.slots _ _ rfl) fun _ => rfl) (hs.res _ _ rfl) (by exact map_get hdk) ty3 rfl rfl)) ?_
      refine DrawC.step rfl rfl rfl (Loc.of rfl fun σ' hs => R_move rfl (.no rfl) (hd_sup hs rfl) (.tmp (hs.slots _ _ rfl) fun _ => rfl)) ?_
      refine DrawC.step rfl rfl rfl (Loc.of rfl fun σ' hs => R_move rfl (.no rfl) (hd_sup hs rfl) (.tmp (hs.slots _ _ rfl) fun _ => rfl)) ?_
      refine DrawC.step rfl rfl rfl (Loc.of rfl fun σ' hs => (by exact R_indexAddr_rf rfl (.no rfl) (hd_sup hs rfl) (.tmp (hs.slots _ _ rfl) fun _ => rfl) (hs.res _ _ rfl) (.tmp (hs.slots _ _ rfl) fun _ => rfl) Try.underlying139 ty142 (fun _ => ⟨by omega, (by exact map_get hdk)⟩))) ?_
      refine DrawC.step rfl rfl rfl (Loc.of rfl fun σ' hs => (by exact R_fieldAddr_pr rfl (.no rfl) (hd_sup hs rfl) (.tmp (hs.slots _ _ rfl) fun _ => rfl) fl142_1)) ?_
      refine DrawC.step rfl rfl rfl (Loc.of rfl fun σ' hs => (by exact R_load_pr rfl (.no rfl) (hd_sup hs rfl) (.tmp (hs.slots _ _ rfl) fun _ => rfl) (hs.res _ _ rfl) (by exact map_get hdk) ty3 rfl rfl)) ?_
      refine DrawC.step rfl rfl rfl (Loc.of rfl fun σ' hs => R_move rfl (.no rfl) (hd_sup hs rfl) (.tmp (hs.slots _ _ rfl) fun _ => rfl)) ?_
      refine DrawC.step rfl rfl rfl (Loc.of rfl fun σ' hs => R_move rfl (.no rfl) (hd_sup hs rfl) (.tmp (hs.slots _ _ rfl) fun _ => rfl)) ?_
      refine DrawC.step rfl rfl rfl (Loc.of rfl fun σ' hs => (by exact R_indexAddr rfl (.no rfl) (hd_sup hs rfl) (.tmp (hs.slots _ _ rfl) fun _ => rfl) (.tmp (hs.slots _ _ rfl) fun _ => rfl) Try.underlying66 ty122 (fun _ => ⟨by omega, (by exact map_get hsy)⟩))) ?_
      refine DrawC.step rfl rfl rfl (Loc.of rfl fun σ' hs => (by exact R_load rfl (.no rfl) (hd_sup hs rfl) (.tmp (hs.slots _ _ rfl) fun _ => rfl) ty122 rfl rfl)) ?_
      refine DrawC.step rfl rfl rfl (Loc.of rfl fun σ' hs => R_callz (FnT.fr (specl18Next g a ha hg d.node hrr.1 d.set hrr.2 y hym)) rfl (.no rfl) (hd_sup hs rfl) (.cons (.tmp (hs.slots _ _ rfl) fun _ => rfl) (readA_sup hs rfl) (.cons (.tmp (hs.slots _ _ rfl) fun _ => rfl) (readA_sup hs rfl) (.cons (.tmp (hs.slots _ _ rfl) fun _ => rfl) (readA_sup hs rfl) (.cons (.tmp (hs.slots _ _ rfl) fun _ => rfl) (readA_sup hs rfl) (.cons (.tmp (hs.slots _ _ rfl) fun _ => rfl) (readA_sup hs rfl) .nil)))))) ?_
      refine DrawC.step rfl rfl rfl (Loc.of rfl fun σ' hs => R_movet rfl (.no rfl) (hd_sup hs rfl) (hs.slots _ _ rfl) fun _ => rfl) ?_
      refine DrawC.step rfl rfl rfl (Loc.of rfl fun σ' hs => R_extract rfl (.no rfl) (hd_sup hs rfl) (hs.slots _ _ rfl) (fun _ => rfl) rfl) ?_
      refine DrawC.step rfl rfl rfl (Loc.of rfl fun σ' hs => R_extract rfl (.no rfl) (hd_sup hs rfl) (hs.slots _ _ rfl) (fun _ => rfl) rfl) ?_
      refine DrawC.step rfl rfl rfl (Loc.of rfl fun σ' hs => R_assign rfl (.no rfl) (hd_sup hs rfl) (.tmp (hs.slots _ _ rfl) fun _ => rfl)) ?_
      refine DrawC.step rfl rfl rfl (Loc.of rfl fun σ' hs => R_assign rfl (.no rfl) (hd_sup hs rfl) (.tmp (hs.slots _ _ rfl) fun _ => rfl)) ?_
      refine DrawC.fin rfl rfl ?_
      refine AWl.nil ?_
      refine AW.seq ?_
      refine AW.seq ?_
      refine AW.le (σ' := ⟨_, [(2, _), (4, _), (5, _), (8, _), (9, _), (10, _), (11, _), (12, _), (13, _), (14, _)], [(22, _)]⟩) (Le.sub0 rfl ⟨rfl, rfl, rfl, rfl, rfl, rfl, rfl, rfl, rfl, rfl, trivial⟩ ⟨rfl, trivial⟩) ?_
      refine AW.drawn 21 (nthB [[], [0], [0, 1], [0, 1, 2], [0, 1, 2], [0, 1, 2, 4], [0, 1, 2], [0, 1, 2], [0, 1, 2, 6, 7], [0, 1, 2, 6, 7, 8], [0, 1, 2, 6, 7, 8, 9], [0, 1, 2, 4, 5, 6, 7, 8, 9, 10], [0, 1, 2, 4, 5, 6, 7, 8, 9, 10, 11], [0, 1, 2], [0, 1, 2, 13], [0, 1, 2], [0, 1, 2, 13, 14, 15], [0, 1, 2, 13, 14, 15, 16], [0, 1, 2, 3, 4, 5, 6, 7, 8, 9, 10, 11, 12, 13, 14, 15, 16, 17], [0, 1, 2, 3, 4, 5, 6, 7, 8, 9, 10, 11, 12, 13, 14, 15, 16, 17, 18], [0, 1, 2, 3, 4, 5, 6, 7, 8, 9, 10, 11, 12, 13, 14, 15, 16, 17, 18, 19]]) (by kernel_rfl) (by kernel_rfl) (by kernel_rfl) ?_
      refine DrawC.step rfl rfl rfl (Loc.of rfl fun σ' hs => R_move rfl (.no rfl) (hd_sup hs rfl) (.tmp (hs.slots _ _ rfl) fun _ => rfl)) ?_
      refine DrawC.step rfl rfl rfl (Loc.of rfl fun σ' hs => R_eq rfl (.no rfl) (hd_sup hs rfl) (.tmp (hs.slots _ _ rfl) fun _ => rfl) (.const rfl)) ?_
      refine DrawC.step rfl rfl rfl (Loc.of rfl fun σ' hs => R_move rfl (.no rfl) (hd_sup hs rfl) (.tmp (hs.slots _ _ rfl) fun _ => rfl)) ?_
      refine DrawC.step rfl rfl rfl (Loc.of rfl fun σ' hs => R_move rfl (by exact .not1 rfl rfl (hs.slots _ _ rfl) (by rw [hs.n]; rfl)) (hd_sup hs rfl) (.tmp (hs.slots _ _ rfl) (by exact fun _ => rfl))) ?_
      refine DrawC.step rfl rfl rfl (Loc.of rfl fun σ' hs => (by exact R_fieldAddr rfl (by exact .not1 rfl rfl (hs.slots _ _ rfl) (by rw [hs.n]; rfl)) (hd_sup hs rfl) (.tmp (hs.slots _ _ rfl) (by exact fun _ => rfl)) fl35_0)) ?_
      refine DrawC.step rfl rfl rfl (Loc.of rfl fun σ' hs => (by exact R_load rfl (by exact .not1 rfl rfl (hs.slots _ _ rfl) (by rw [hs.n]; rfl)) (hd_sup hs rfl) (.tmp (hs.slots _ _ rfl) (by exact id)) ty22 rfl rfl)) ?_
      refine DrawC.step rfl rfl rfl (Loc.of rfl fun σ' hs => R_move rfl (by exact .not1 rfl rfl (hs.slots _ _ rfl) (by rw [hs.n]; rfl)) (hd_sup hs rfl) (.tmp (hs.slots _ _ rfl) (by exact fun _ => rfl))) ?_
      refine DrawC.step rfl rfl rfl (Loc.of rfl fun σ' hs => R_move rfl (by exact .not1 rfl rfl (hs.slots _ _ rfl) (by rw [hs.n]; rfl)) (hd_sup hs rfl) (.tmp (hs.slots _ _ rfl) (by exact fun _ => rfl))) ?_
      refine DrawC.step rfl rfl rfl (Loc.of rfl fun σ' hs => (by exact R_indexAddr_rf rfl (by exact .not1 rfl rfl (hs.slots _ _ rfl) (by rw [hs.n]; rfl)) (hd_sup hs rfl) (.tmp (hs.slots _ _ rfl) (by exact id)) (hs.res _ _ rfl) (.tmp (hs.slots _ _ rfl) (by exact id)) Try.underlying139 ty142 (fun hq => by (try simp at hq); exact ⟨by omega, (by exact map_get hdk)⟩))) ?_
      refine DrawC.step rfl rfl rfl (Loc.of rfl fun σ' hs => (by exact R_fieldAddr_pr rfl (by exact .not1 rfl rfl (hs.slots _ _ rfl) (by rw [hs.n]; rfl)) (hd_sup hs rfl) (.tmp (hs.slots _ _ rfl) (by exact id)) fl142_0)) ?_
      refine DrawC.step rfl rfl rfl (Loc.of rfl fun σ' hs => (by exact R_load_pr rfl (by exact .not1 rfl rfl (hs.slots _ _ rfl) (by rw [hs.n]; rfl)) (hd_sup hs rfl) (.tmp (hs.slots _ _ rfl) (by exact id)) (hs.res _ _ rfl) (by exact map_get hdk) ty3 rfl rfl)) ?_
      refine DrawC.step rfl rfl rfl (Loc.of rfl fun σ' hs => (by exact R_indexAddr rfl (by exact .not1 rfl rfl (hs.slots _ _ rfl) (by rw [hs.n]; rfl)) (hd_sup hs rfl) (.tmp (hs.slots _ _ rfl) (by exact id)) (.tmp (hs.slots _ _ rfl) (by exact id)) Try.underlying22 ty3 (fun hq => by (try simp at hq); exact ⟨by omega, (by exact map_get hvd.1)⟩))) ?_
      refine DrawC.step rfl rfl rfl (Loc.of rfl fun σ' hs => (by exact R_load rfl (by exact .not1 rfl rfl (hs.slots _ _ rfl) (by rw [hs.n]; rfl)) (hd_sup hs rfl) (.tmp (hs.slots _ _ rfl) (by exact id)) ty3 rfl rfl)) ?_
      refine DrawC.step rfl rfl rfl (Loc.of rfl fun σ' hs => (by exact R_fieldAddr rfl (by exact .not1 rfl rfl (hs.slots _ _ rfl) (by rw [hs.n]; rfl)) (hd_sup hs rfl) (.tmp (hs.slots _ _ rfl) (by exact fun _ => rfl)) fl35_0)) ?_
      refine DrawC.step rfl rfl rfl (Loc.of rfl fun σ' hs => (by exact R_load rfl (by exact .not1 rfl rfl (hs.slots _ _ rfl) (by rw [hs.n]; rfl)) (hd_sup hs rfl) (.tmp (hs.slots _ _ rfl) (by exact id)) ty22 rfl rfl)) ?_
      refine DrawC.step rfl rfl rfl (Loc.of rfl fun σ' hs => R_move rfl (by exact .not1 rfl rfl (hs.slots _ _ rfl) (by rw [hs.n]; rfl)) (hd_sup hs rfl) (.tmp (hs.slots _ _ rfl) (by exact fun _ => rfl))) ?_
      refine DrawC.step rfl rfl rfl (Loc.of rfl fun σ' hs => (by exact R_indexAddr rfl (by exact .not1 rfl rfl (hs.slots _ _ rfl) (by rw [hs.n]; rfl)) (hd_sup hs rfl) (.tmp (hs.slots _ _ rfl) (by exact id)) (.tmp (hs.slots _ _ rfl) (by exact id)) Try.underlying22 ty3 (fun hq => by (try simp at hq); exact ⟨by omega, (by exact map_get hvt.1)⟩))) ?_
      refine DrawC.step rfl rfl rfl (Loc.of rfl fun σ' hs => (by exact R_load rfl (by exact .not1 rfl rfl (hs.slots _ _ rfl) (by rw [hs.n]; rfl)) (hd_sup hs rfl) (.tmp (hs.slots _ _ rfl) (by exact id)) ty3 rfl rfl)) ?_
      refine DrawC.step rfl rfl rfl (Loc.of rfl fun σ' hs => R_callz (FnT.fr (specConditionHolds _ _ _)) rfl (by exact .not1 rfl rfl (hs.slots _ _ rfl) (by rw [hs.n]; rfl)) (hd_sup hs rfl) (.cons (.tmp (hs.slots _ _ rfl) (by exact id)) (readA_sup hs rfl) (.cons (.tmp (hs.slots _ _ rfl) (by exact id)) (readA_sup hs rfl) (.cons (.tmp (hs.slots _ _ rfl) (by exact id)) (readA_sup hs rfl) .nil)))) ?_
      refine DrawC.step rfl rfl rfl (Loc.of rfl fun σ' hs => R_not rfl (by exact .not1 rfl rfl (hs.slots _ _ rfl) (by rw [hs.n]; rfl)) (hd_sup hs rfl) (.tmp (hs.slots _ _ rfl) (by exact id))) ?_
      refine DrawC.step rfl rfl rfl (Loc.of rfl fun σ' hs => R_or rfl (.no rfl) (hd_sup hs rfl) (.tmp (hs.slots _ _ rfl) fun _ => rfl) (.tmp (hs.slots _ _ rfl) (by exact id))) ?_
      refine DrawC.fin rfl rfl ?_
      refine AWl.nil ?_
      refine AW.cond (.tmp rfl fun _ => rfl) (fun h82 => ?_) (fun h82 => ?_)
      · skip
        try simp at h82
        have hsk : skipN g a c d y = true := by (unfold skipN setOf; simp only [Bool.or_eq_true, decide_eq_true_eq]; rcases h82 with h | h; (exact .inl (by omega)); (exact .inr (by simpa using h)))
        refine AW.exit ?_
        refine AW.le (σ' := ⟨_, [(2, _), (4, _), (5, _), (8, _), (9, _), (10, _), (11, _), (12, _), (13, _), (14, _)], [(22, _)]⟩) (Le.sub0 rfl ⟨rfl, rfl, rfl, rfl, rfl, rfl, rfl, rfl, rfl, rfl, trivial⟩ ⟨rfl, trivial⟩) ?_
        refine AW.region ?_
        refine AWl.put (R_move rfl (.no rfl) rfl (.tmp rfl fun _ => rfl)) rfl ?_
        refine AWl.put (R_add rfl (.no rfl) rfl (.tmp rfl fun _ => rfl) (.const rfl) (fun _ => by omega)) rfl ?_
        refine AWl.put (R_assign rfl (.no rfl) rfl (.tmp rfl fun _ => rfl)) rfl ?_
        refine AWl.nil ?_
        repeat (with_reducible refine BlockQ.nor ?_)
        refine Round1.next (i + 1) ⟨by omega, trivial⟩ (by omega) (Le.sub0 rfl ⟨rfl, rfl, rfl, rfl, rfl, rfl, rfl, rfl, trivial⟩ ⟨(by refine congrArg (fun r => some (R.row 5 r)) ?_; first | rfl | (rw [expN_at hy]; unfold addN; rw [hsk]; rfl) | (rw [expN_at hy]; unfold addN; rw [if_neg (by rw [hsk, hany]; simpa using h110)]; simp [chunk, cNd, setOf]; done) | (rw [expN_at hy]; unfold addN; rw [if_pos (by rw [hany]; simp_all)]; done) | (rw [hexp, show i = (arcsAt g d.node).length by first | omega | (simp at h39; omega)]; done)), trivial⟩)
      · skip
        try simp at h82
        have hsk : skipN g a c d y = false := by (unfold skipN setOf; simp only [Bool.or_eq_false_iff, decide_eq_false_iff_not]; exact ⟨by have := h82.1; omega, by simpa using h82.2⟩)
        refine AW.skip ?_
        refine AW.seq ?_
        refine AW.le (σ' := ⟨_, [(2, _), (4, _), (5, _), (8, _), (9, _), (10, _), (11, _), (12, _), (13, _), (14, _)], [(22, _)]⟩) (Le.sub0 rfl ⟨rfl, rfl, rfl, rfl, rfl, rfl, rfl, rfl, rfl, rfl, trivial⟩ ⟨rfl, trivial⟩) ?_
        refine AW.region ?_
        refine AWl.put (R_assign rfl (.no rfl) rfl (.const rfl)) rfl ?_
        refine AWl.nil ?_
        refine AW.seq ?_
        refine AW.seq ?_
        refine AW.region ?_
        refine AWl.put (R_assign rfl (.no rfl) rfl (.const rfl)) rfl ?_
        refine AWl.nil ?_
        refine AW.block ?_
        refine AW.loop2 (fun (j : Nat) (b : Bool) => (j ≤ (expN g a c k d i (expAt g a c x k)).length) ∧ b = ((expN g a c k d i (expAt g a c x k)).take j).any (sameN y.to (setOf g a d y))) (fun (j : Nat) (b : Bool) => ⟨_, [(16, (true, .a (.one (.t (.v (.int .i64 (j : Nat))))))), (15, (true, .a (.one (.t (.v (.bool b)))))), (9, (true, .a (.one (.rf 22)))), (2, _), (4, _), (5, _), (8, _), (10, _), (11, _), (12, _), (13, _), (14, _)], [(22, .row 5 ((expN g a c k d i (expAt g a c x k)).map cNd))]⟩) (fun (j : Nat) (b : Bool) => (expN g a c k d i (expAt g a c x k)).length - j) (0) (false) ⟨Nat.zero_le _, rfl⟩ (Le.sub0 rfl ⟨rfl, rfl, rfl, rfl, rfl, rfl, rfl, rfl, rfl, rfl, rfl, rfl, trivial⟩ ⟨(by refine congrArg (fun r => some (R.row 5 r)) ?_; first | rfl | (simp [expN]; done) | (simp [expAt, startN, cNd]; done)), trivial⟩) ?_
        rintro j b ⟨hk2, he2⟩
        refine AW.seq ?_
        refine AW.seq ?_
        refine AW.region ?_
        refine AWl.put (R_move rfl (.no rfl) rfl (.tmp rfl fun _ => rfl)) rfl ?_
        refine AWl.put (R_move rfl (.no rfl) rfl (.tmp rfl fun _ => rfl)) rfl ?_
        refine AWl.put ((by exact R_lenm rfl (.no rfl) rfl (.tmp rfl fun _ => rfl) (by exact .rf rfl) Try.underlying139)) rfl ?_
        refine AWl.put (R_lt rfl (.no rfl) rfl (.tmp rfl fun _ => rfl) (.tmp rfl fun _ => rfl)) rfl ?_
        refine AWl.put (R_move rfl (.no rfl) rfl (.tmp rfl fun _ => rfl)) rfl ?_
        refine AWl.put (R_move rfl (by exact .yes1 rfl rfl rfl rfl) rfl (.tmp rfl (by exact fun _ => rfl))) rfl ?_
        refine AWl.put (R_not rfl (by exact .yes1 rfl rfl rfl rfl) rfl (.tmp rfl (by exact id))) rfl ?_
        refine AWl.put (R_and rfl (.no rfl) rfl (.tmp rfl fun _ => rfl) (.tmp rfl (by exact id))) rfl ?_
        refine AWl.nil ?_
        refine AW.cond (.tmp rfl fun _ => rfl) (fun h90 => ?_) (fun h90 => ?_)
        · skip
          try simp at h90
          have hjl : j < (expN g a c k d i (expAt g a c x k)).length := by (first | omega | (simp at h90; omega))
          obtain ⟨e, hej⟩ : ∃ ξ, (expN g a c k d i (expAt g a c x k))[j]? = some ξ := ⟨_, List.getElem?_eq_getElem hjl⟩
          have hbf : b = false := by (first | exact h90.2 | simp_all)
          refine AW.skip ?_
          refine AW.seq ?_
          refine AW.block ?_
          refine AW.le (σ' := ⟨_, [(2, _), (4, _), (5, _), (8, _), (9, _), (10, _), (11, _), (12, _), (13, _), (14, _), (15, _), (16, _)], [(22, _)]⟩) (Le.sub0 rfl ⟨rfl, rfl, rfl, rfl, rfl, rfl, rfl, rfl, rfl, rfl, rfl, rfl, trivial⟩ ⟨rfl, trivial⟩) ?_
          refine AW.region ?_
          refine AWl.put (R_move rfl (.no rfl) rfl (.tmp rfl fun _ => rfl)) rfl ?_
          refine AWl.put (R_move rfl (.no rfl) rfl (.tmp rfl fun _ => rfl)) rfl ?_
          refine AWl.put ((by exact R_indexAddr_rf rfl (.no rfl) rfl (.tmp rfl fun _ => rfl) rfl (.tmp rfl fun _ => rfl) Try.underlying139 ty142 (fun _ => ⟨by omega, (by exact map_get hej)⟩))) rfl ?_
          refine AWl.put ((by exact R_fieldAddr_pr rfl (.no rfl) rfl (.tmp rfl fun _ => rfl) fl142_0)) rfl ?_
          refine AWl.put ((by exact R_load_pr rfl (.no rfl) rfl (.tmp rfl fun _ => rfl) rfl (by exact map_get hej) ty3 rfl rfl)) rfl ?_
          refine AWl.put (R_move rfl (.no rfl) rfl (.tmp rfl fun _ => rfl)) rfl ?_
          refine AWl.put (R_eq rfl (.no rfl) rfl (.tmp rfl fun _ => rfl) (.tmp rfl fun _ => rfl)) rfl ?_
          refine AWl.put (R_move rfl (.no rfl) rfl (.tmp rfl fun _ => rfl)) rfl ?_
          refine AWl.put (R_move rfl (by exact .yes1 rfl rfl rfl rfl) rfl (.tmp rfl (by exact fun _ => rfl))) rfl ?_
          refine AWl.put (R_move rfl (by exact .yes1 rfl rfl rfl rfl) rfl (.tmp rfl (by exact fun _ => rfl))) rfl ?_
          refine AWl.put ((by exact R_indexAddr_rf rfl (by exact .yes1 rfl rfl rfl rfl) rfl (.tmp rfl (by exact id)) rfl (.tmp rfl (by exact id)) Try.underlying139 ty142 (fun hq => by (try simp at hq); exact ⟨by omega, (by exact map_get hej)⟩))) rfl ?_
          refine AWl.put ((by exact R_fieldAddr_pr rfl (by exact .yes1 rfl rfl rfl rfl) rfl (.tmp rfl (by exact id)) fl142_1)) rfl ?_
          refine AWl.put ((by exact R_load_pr rfl (by exact .yes1 rfl rfl rfl rfl) rfl (.tmp rfl (by exact id)) rfl (by exact map_get hej) ty3 rfl rfl)) rfl ?_
          refine AWl.put (R_move rfl (by exact .yes1 rfl rfl rfl rfl) rfl (.tmp rfl (by exact fun _ => rfl))) rfl ?_
          refine AWl.put (R_eq rfl (by exact .yes1 rfl rfl rfl rfl) rfl (.tmp rfl (by exact id)) (.tmp rfl (by exact id))) rfl ?_
          refine AWl.put (R_and rfl (.no rfl) rfl (.tmp rfl fun _ => rfl) (.tmp rfl (by exact id))) rfl ?_
          refine AWl.put (R_assign rfl (.no rfl) rfl (.tmp rfl fun _ => rfl)) rfl ?_
          refine AWl.nil ?_
          refine AW.le (σ' := ⟨_, [(2, _), (4, _), (5, _), (8, _), (9, _), (10, _), (11, _), (12, _), (13, _), (14, _), (15, _), (16, _)], [(22, _)]⟩) (Le.sub0 rfl ⟨rfl, rfl, rfl, rfl, rfl, rfl, rfl, rfl, rfl, rfl, rfl, rfl, trivial⟩ ⟨rfl, trivial⟩) ?_
          refine AW.region ?_
          refine AWl.put (R_move rfl (.no rfl) rfl (.tmp rfl fun _ => rfl)) rfl ?_
          refine AWl.put (R_add rfl (.no rfl) rfl (.tmp rfl fun _ => rfl) (.const rfl) (fun _ => by omega)) rfl ?_
          refine AWl.put (R_assign rfl (.no rfl) rfl (.tmp rfl fun _ => rfl)) rfl ?_
          refine AWl.nil ?_
          repeat (with_reducible refine BlockQ.nor ?_)
          refine Round2.next (j + 1) ((decide (e.node = y.to) && decide ((e.set : Int) = ((aftS a d.set (valAt g d.node) y.letter : Nat) : Int)))) ⟨by omega, (by rw [any_take_at hej, ← he2, hbf, Bool.false_or, same_eq]; rfl)⟩ (by omega) (Le.sub0 rfl ⟨rfl, rfl, rfl, rfl, rfl, rfl, rfl, rfl, rfl, rfl, rfl, rfl, trivial⟩ ⟨(by refine congrArg (fun r => some (R.row 5 r)) ?_; first | rfl | (rw [expN_at hy]; unfold addN; rw [hsk]; rfl) | (rw [expN_at hy]; unfold addN; rw [if_neg (by rw [hsk, hany]; simpa using h110)]; simp [chunk, cNd, setOf]; done) | (rw [expN_at hy]; unfold addN; rw [if_pos (by rw [hany]; simp_all)]; done) | (rw [hexp, show i = (arcsAt g d.node).length by first | omega | (simp at h39; omega)]; done)), trivial⟩)
        · skip
          try simp at h90
          have hany : (expN g a c k d i (expAt g a c x k)).any (sameN y.to (setOf g a d y)) = b := by (by_cases hjl : j < (expN g a c k d i (expAt g a c x k)).length; (have hbt : b = true := by (first | (simp at h90; exact h90 hjl) | simp_all)); (rw [hbt]; rw [hbt] at he2; obtain ⟨z, hz1, hz2⟩ := List.any_eq_true.1 he2.symm; exact List.any_eq_true.2 ⟨z, List.mem_of_mem_take hz1, hz2⟩); (rw [List.take_of_length_le (by omega)] at he2; exact he2.symm))
          refine AW.exit ?_
          refine AW.seq ?_
          refine AW.le (σ' := ⟨_, [(2, _), (4, _), (5, _), (8, _), (9, _), (10, _), (11, _), (12, _), (13, _), (14, _), (15, _), (16, _)], [(22, _)]⟩) (Le.sub0 rfl ⟨rfl, rfl, rfl, rfl, rfl, rfl, rfl, rfl, rfl, rfl, rfl, rfl, trivial⟩ ⟨rfl, trivial⟩) ?_
          refine AW.region ?_
          refine AWl.put (R_move rfl (.no rfl) rfl (.tmp rfl fun _ => rfl)) rfl ?_
          refine AWl.put (R_not rfl (.no rfl) rfl (.tmp rfl fun _ => rfl)) rfl ?_
          refine AWl.nil ?_
          refine AW.cond (.tmp rfl fun _ => rfl) (fun h110 => ?_) (fun h110 => ?_)
          · skip
            try simp at h110
            refine AW.region ?_
            refine AWl.put (R_move rfl (.no rfl) rfl (.tmp rfl fun _ => rfl)) rfl ?_
            refine AWl.put (R_move rfl (.no rfl) rfl (.tmp rfl fun _ => rfl)) rfl ?_
            refine AWl.put (R_move rfl (.no rfl) rfl (.tmp rfl fun _ => rfl)) rfl ?_
            refine AWl.put (R_move rfl (.no rfl) rfl (.tmp rfl fun _ => rfl)) rfl ?_
            refine AWl.put (R_move rfl (.no rfl) rfl (.tmp rfl fun _ => rfl)) rfl ?_
            refine AWl.put (R_move rfl (.no rfl) rfl (.tmp rfl fun _ => rfl)) rfl ?_
            refine AWl.put ((by exact R_indexAddr rfl (.no rfl) rfl (.tmp rfl fun _ => rfl) (.tmp rfl fun _ => rfl) Try.underlying66 ty122 (fun _ => ⟨by omega, (by exact map_get hsy)⟩))) rfl ?_
            refine AWl.put ((by exact R_load rfl (.no rfl) rfl (.tmp rfl fun _ => rfl) ty122 rfl rfl)) rfl ?_
            refine AWl.put (R_build (ps := [(0, .tmp 112), (1, .tmp 113), (2, .tmp 114), (3, .tmp 118)]) rfl rfl rfl in142 rfl rfl st142 (.cons (.tmp rfl fun _ => rfl) rfl rfl fp142_0 (.cons (.tmp rfl fun _ => rfl) rfl rfl fp142_1 (.cons (.tmp rfl fun _ => rfl) rfl rfl fp142_2 (.cons (.tmp rfl fun _ => rfl) rfl rfl fp142_3 .nil)))) rfl) rfl ?_
            refine AWl.put (R_listz (xs := [.tmp 119]) (rows := [cNd ⟨y.to, setOf g a d y, (k : Int), y.step⟩]) rfl rfl rfl (.cons (.tmp rfl fun _ => rfl) rfl rfl .nil) Try.underlying139 in142 rfl rfl (rfl)) rfl ?_
            refine AWl.chgput (R_append rfl rfl rfl (.tmp rfl fun _ => rfl) rfl (.tmp rfl fun _ => rfl) (by exact .t) (by rfl) Try.underlying139 in142 rfl (by (simp [chunk]; omega)) (by (unfold maxLen; simp [chunk]; omega))) rfl ?_
            refine AWl.le (σ' := ⟨_, [(2, _), (4, _), (5, _), (8, _), (9, _), (10, _), (11, _), (12, _), (13, _), (14, _), (15, _), (16, _), (110, _), (121, _)], [(22, _)]⟩) (Le.sub0 rfl ⟨rfl, rfl, rfl, rfl, rfl, rfl, rfl, rfl, rfl, rfl, rfl, rfl, rfl, rfl, trivial⟩ ⟨rfl, trivial⟩) ?_
            refine AWl.put (R_assign rfl (.no rfl) rfl (.tmp rfl fun _ => rfl)) rfl ?_
            refine AWl.nil ?_
            refine AW.region ?_
            refine AWl.put (R_move rfl (.no rfl) rfl (.tmp rfl fun _ => rfl)) rfl ?_
            refine AWl.put (R_add rfl (.no rfl) rfl (.tmp rfl fun _ => rfl) (.const rfl) (fun _ => by omega)) rfl ?_
            refine AWl.put (R_assign rfl (.no rfl) rfl (.tmp rfl fun _ => rfl)) rfl ?_
            refine AWl.nil ?_
            repeat (with_reducible refine BlockQ.nor ?_)
            refine Round1.next (i + 1) ⟨by omega, trivial⟩ (by omega) (Le.sub0 rfl ⟨rfl, rfl, rfl, rfl, rfl, rfl, rfl, rfl, trivial⟩ ⟨(by refine congrArg (fun r => some (R.row 5 r)) ?_; first | rfl | (rw [expN_at hy]; unfold addN; rw [hsk]; rfl) | (rw [expN_at hy]; unfold addN; rw [if_neg (by rw [hsk, hany]; simpa using h110)]; simp [chunk, cNd, setOf]; done) | (rw [expN_at hy]; unfold addN; rw [if_pos (by rw [hany]; simp_all)]; done) | (rw [hexp, show i = (arcsAt g d.node).length by first | omega | (simp at h39; omega)]; done)), trivial⟩)
          · skip
            try simp at h110
            refine AW.skip ?_
            refine AW.region ?_
            refine AWl.put (R_move rfl (.no rfl) rfl (.tmp rfl fun _ => rfl)) rfl ?_
            refine AWl.put (R_add rfl (.no rfl) rfl (.tmp rfl fun _ => rfl) (.const rfl) (fun _ => by omega)) rfl ?_
            refine AWl.put (R_assign rfl (.no rfl) rfl (.tmp rfl fun _ => rfl)) rfl ?_
            refine AWl.nil ?_
            repeat (with_reducible refine BlockQ.nor ?_)
            refine Round1.next (i + 1) ⟨by omega, trivial⟩ (by omega) (Le.sub0 rfl ⟨rfl, rfl, rfl, rfl, rfl, rfl, rfl, rfl, trivial⟩ ⟨(by refine congrArg (fun r => some (R.row 5 r)) ?_; first | rfl | (rw [expN_at hy]; unfold addN; rw [hsk]; rfl) | (rw [expN_at hy]; unfold addN; rw [if_neg (by rw [hsk, hany]; simpa using h110)]; simp [chunk, cNd, setOf]; done) | (rw [expN_at hy]; unfold addN; rw [if_pos (by rw [hany]; simp_all)]; done) | (rw [hexp, show i = (arcsAt g d.node).length by first | omega | (simp at h39; omega)]; done)), trivial⟩)
    · skip
      try simp at h39
      refine AW.exit ?_
      refine AW.region ?_
      refine AWl.put (R_move rfl (.no rfl) rfl (.tmp rfl fun _ => rfl)) rfl ?_
      refine AWl.put (R_add rfl (.no rfl) rfl (.tmp rfl fun _ => rfl) (.const rfl) (fun _ => by omega)) rfl ?_
      refine AWl.put (R_assign rfl (.no rfl) rfl (.tmp rfl fun _ => rfl)) rfl ?_
      refine AWl.nil ?_
      repeat (with_reducible refine BlockQ.nor ?_)
      refine Round1.next (k + 1) ⟨⟨by rw [hexp]; have := hmo (arcsAt g d.node).length; omega, by omega⟩, trivial⟩ (by omega) (Le.sub0 rfl ⟨rfl, rfl, rfl, rfl, rfl, rfl, trivial⟩ ⟨(by refine congrArg (fun r => some (R.row 5 r)) ?_; first | rfl | (rw [expN_at hy]; unfold addN; rw [hsk]; rfl) | (rw [expN_at hy]; unfold addN; rw [if_neg (by rw [hsk, hany]; simpa using h110)]; simp [chunk, cNd, setOf]; done) | (rw [expN_at hy]; unfold addN; rw [if_pos (by rw [hany]; simp_all)]; done) | (rw [hexp, show i = (arcsAt g d.node).length by first | omega | (simp at h39; omega)]; done)), trivial⟩)
  · skip
    try simp at h26
    refine AW.exit ?_
    refine AW.seq ?_
    refine AW.region ?_
    refine AWl.put (R_move rfl (.no rfl) rfl (.tmp rfl fun _ => rfl)) rfl ?_
    refine AWl.put (R_assign rfl (.no rfl) rfl (.tmp rfl fun _ => rfl)) rfl ?_
    refine AWl.nil ?_
    refine AW.ret ?_
    refine Res.one rfl (.tmp rfl .nil) rfl ?_
    rw [expL_eq (k := k) hk.2 (by omega)]; rfl
theorem specConditionedAnswers (g : TGraph) (a : TAutomaton) (c : Int) : FnT Try.prog 47 [.agg (cGraph g), .agg (cAutomaton a), .one (.v (.int .i64 c))] (.a (.one (.sl 2 ((condAns g a c).map cPair)))) := by
  refine FnT.walk Try.func47 rfl (by kernel_rfl) Try.ntmps47 rfl fun hlen w0 => ?_
  try simp [cPair, cToken, cExpr, cEdge, cGraph, cStep, cWalk, cChange, cBatch, cHistory, cPositions, cAutomaton, cProductStep, cPathAtom, cConjunction, cView, cDelta, cRegistered, cRegistry] at hlen
  skip
  refine AW.seq ?_
  refine AW.region ?_
  refine AWl.put (R_boxz rfl rfl rfl (.tmp rfl fun _ => rfl) (ts := _) (by rfl)) rfl ?_
  refine AWl.put (R_boxz rfl rfl rfl (.tmp rfl fun _ => rfl) (ts := _) (by rfl)) rfl ?_
  refine AWl.put (R_assign rfl (.no rfl) rfl (.const rfl)) rfl ?_
  refine AWl.nilS (i := 6) 20001 2 rfl rfl ?_
  refine AWl.nil ?_
  refine AW.seq ?_
  refine AW.region ?_
  refine AWl.add (R_empty 11 rfl rfl rfl Try.underlying46 ty93 rfl) rfl ?_
  refine AWl.put (R_assign rfl (.no rfl) rfl (.tmp rfl fun _ => rfl)) rfl ?_
  refine AWl.nil ?_
  refine AW.seq ?_
  refine AW.seq ?_
  refine AW.region ?_
  refine AWl.put ((by exact R_load rfl (.no rfl) rfl (.tmp rfl fun _ => rfl) ty35 rfl rfl)) rfl ?_
  refine AWl.put ((by exact R_load rfl (.no rfl) rfl (.tmp rfl fun _ => rfl) ty37 rfl rfl)) rfl ?_
  refine AWl.put (R_callz (FnT.fr (specl14Good g a 0 0)) rfl (.no rfl) rfl (.cons (.tmp rfl fun _ => rfl) rfl (.cons (.tmp rfl fun _ => rfl) rfl (.cons (.const rfl) rfl (.cons (.const rfl) rfl .nil))))) rfl ?_
  refine AWl.put (R_not rfl (.no rfl) rfl (.tmp rfl fun _ => rfl)) rfl ?_
  refine AWl.put (R_move rfl (.no rfl) rfl (.tmp rfl fun _ => rfl)) rfl ?_
  refine AWl.put (R_move rfl (by exact .not1 rfl rfl rfl rfl) rfl (.tmp rfl (by exact fun _ => rfl))) rfl ?_
  refine AWl.put (R_callz (FnT.fr (specl1In c 0 4)) rfl (by exact .not1 rfl rfl rfl rfl) rfl (.cons (.tmp rfl (by exact id)) rfl (.cons (.const rfl) rfl (.cons (.const rfl) rfl .nil)))) rfl ?_
  refine AWl.put (R_not rfl (by exact .not1 rfl rfl rfl rfl) rfl (.tmp rfl (by exact id))) rfl ?_
  refine AWl.put (R_or rfl (.no rfl) rfl (.tmp rfl fun _ => rfl) (.tmp rfl (by exact id))) rfl ?_
  refine AWl.nil ?_
  refine AW.cond (.tmp rfl fun _ => rfl) (fun h20 => ?_) (fun h20 => ?_)
  · skip
    try simp at h20
    have hcn : (goodC g a && inB c 0 4) = false := by (rw [good_c] at h20; cases hq1 : goodC g a <;> cases hq2 : inB c 0 4 <;> simp_all)
    refine AW.seq ?_
    refine AW.le (σ' := ⟨_, [(0, _), (1, _), (2, _), (3, _), (4, _), (6, _), (7, _)], [(20001, _), (11, _)]⟩) (Le.sub0 rfl ⟨rfl, rfl, rfl, rfl, rfl, rfl, rfl, trivial⟩ ⟨rfl, rfl, trivial⟩) ?_
    refine AW.region ?_
    refine AWl.put (R_move rfl (.no rfl) rfl (.tmp rfl fun _ => rfl)) rfl ?_
    refine AWl.put (R_assign rfl (.no rfl) rfl (.tmp rfl fun _ => rfl)) rfl ?_
    refine AWl.nil ?_
    refine AW.ret ?_
    refine Res.one rfl (.tmp rfl .nil) rfl ?_
    unfold condAns; rw [if_neg (by rw [hcn]; simp)]; rfl
  · skip
    try simp at h20
    have hcc : (goodC g a && inB c 0 4) = true := by (rw [good_c] at h20; cases hq1 : goodC g a <;> cases hq2 : inB c 0 4 <;> simp_all)
    have hgc : goodC g a = true := by (simp only [Bool.and_eq_true] at hcc; exact hcc.1)
    obtain ⟨hg, ha⟩ := good_c2 hgc
    have hG := validG_len hg
    refine AW.skip ?_
    refine AW.seq ?_
    refine AW.seq ?_
    refine AW.le (σ' := ⟨_, [(0, _), (1, _), (2, _), (3, _), (4, _), (6, _), (7, _)], [(20001, _), (11, _)]⟩) (Le.sub0 rfl ⟨rfl, rfl, rfl, rfl, rfl, rfl, rfl, trivial⟩ ⟨rfl, rfl, trivial⟩) ?_
    refine AW.region ?_
    refine AWl.put (R_assign rfl (.no rfl) rfl (.const rfl)) rfl ?_
    refine AWl.nil ?_
    refine AW.block ?_
    refine AW.loop1 (fun (x : Nat) => (x ≤ g.Values.length) ∧ True) (fun (x : Nat) => ⟨_, [(8, (true, .a (.one (.t (.v (.int .i64 (x : Nat))))))), (7, (true, .a (.one (.rf 11)))), (2, _), (3, _), (4, _), (6, _)], [(11, .row 2 ((setG pless (cxTo g a c x)).map cPair))]⟩) (fun (x : Nat) => g.Values.length - x) (0) ⟨Nat.zero_le _, trivial⟩ (Le.sub0 rfl ⟨rfl, rfl, rfl, rfl, rfl, rfl, trivial⟩ ⟨(by refine congrArg (fun r => some (R.row 2 r)) ?_; first | rfl | (simp [cxRow]; done) | (simp [cxTo, setG]; done)), trivial⟩) ?_
    rintro x ⟨hk, he⟩
    refine AW.seq ?_
    refine AW.seq ?_
    refine AW.region ?_
    refine AWl.put (R_move rfl (.no rfl) rfl (.tmp rfl fun _ => rfl)) rfl ?_
    refine AWl.put ((by exact R_fieldAddr rfl (.no rfl) rfl (.tmp rfl fun _ => rfl) fl35_0)) rfl ?_
    refine AWl.put ((by exact R_load rfl (.no rfl) rfl (.tmp rfl fun _ => rfl) ty22 rfl rfl)) rfl ?_
    refine AWl.put ((by exact R_lenm rfl (.no rfl) rfl (.tmp rfl fun _ => rfl) (by exact .t) Try.underlying22)) rfl ?_
    refine AWl.put (R_lt rfl (.no rfl) rfl (.tmp rfl fun _ => rfl) (.tmp rfl fun _ => rfl)) rfl ?_
    refine AWl.nil ?_
    refine AW.cond (.tmp rfl fun _ => rfl) (fun h26 => ?_) (fun h26 => ?_)
    · skip
      try simp at h26
      have hxV : x < g.Values.length := by omega
      have hxr : 0 ≤ (x : Int) ∧ (x : Int) < g.Values.length := by omega
      have htl := cxTo_len ha hg c x (by omega)
      have hel := expL_len ha hg (c := c) hxr
      refine AW.skip ?_
      refine AW.seq ?_
      refine AW.block ?_
      refine AW.seq ?_
      refine AW.region ?_
      refine AWl.put ((by exact R_load rfl (.no rfl) rfl (.tmp rfl fun _ => rfl) ty35 rfl rfl)) rfl ?_
      refine AWl.put ((by exact R_load rfl (.no rfl) rfl (.tmp rfl fun _ => rfl) ty37 rfl rfl)) rfl ?_
      refine AWl.put (R_move rfl (.no rfl) rfl (.tmp rfl fun _ => rfl)) rfl ?_
      refine AWl.put (R_move rfl (.no rfl) rfl (.tmp rfl fun _ => rfl)) rfl ?_
      refine AWl.put (R_callz (FnT.fr (specl23Explore g a ha hg c (x : Int) hxr)) rfl (.no rfl) rfl (.cons (.tmp rfl fun _ => rfl) rfl (.cons (.tmp rfl fun _ => rfl) rfl (.cons (.tmp rfl fun _ => rfl) rfl (.cons (.tmp rfl fun _ => rfl) rfl .nil))))) rfl ?_
      refine AWl.put (R_assign rfl (.no rfl) rfl (.tmp rfl fun _ => rfl)) rfl ?_
      refine AWl.nil ?_
      refine AW.seq ?_
      refine AW.le (σ' := ⟨_, [(2, _), (3, _), (4, _), (6, _), (7, _), (8, _), (9, _)], [(11, _)]⟩) (Le.sub0 rfl ⟨rfl, rfl, rfl, rfl, rfl, rfl, rfl, trivial⟩ ⟨rfl, trivial⟩) ?_
      refine AW.region ?_
      refine AWl.put (R_assign rfl (.no rfl) rfl (.const rfl)) rfl ?_
      refine AWl.nil ?_
      refine AW.block ?_
      refine AW.loop1 (fun (k : Nat) => (k ≤ (expL g a c x).length) ∧ True) (fun (k : Nat) => ⟨_, [(10, (true, .a (.one (.t (.v (.int .i64 (k : Nat))))))), (7, (true, .a (.one (.rf 11)))), (2, _), (3, _), (4, _), (6, _), (8, _), (9, _)], [(11, .row 2 ((setG pless (cxTo g a c x ++ cxRow g a c x k)).map cPair))]⟩) (fun (k : Nat) => (expL g a c x).length - k) (0) ⟨Nat.zero_le _, trivial⟩ (Le.sub0 rfl ⟨rfl, rfl, rfl, rfl, rfl, rfl, rfl, rfl, trivial⟩ ⟨(by refine congrArg (fun r => some (R.row 2 r)) ?_; first | rfl | (simp [cxRow]; done) | (simp [cxTo, setG]; done)), trivial⟩) ?_
      rintro k ⟨hk1, he1⟩
      refine AW.seq ?_
      refine AW.seq ?_
      refine AW.region ?_
      refine AWl.put (R_move rfl (.no rfl) rfl (.tmp rfl fun _ => rfl)) rfl ?_
      refine AWl.put (R_move rfl (.no rfl) rfl (.tmp rfl fun _ => rfl)) rfl ?_
      refine AWl.put ((by exact R_lenm rfl (.no rfl) rfl (.tmp rfl fun _ => rfl) (by exact .t) Try.underlying139)) rfl ?_
      refine AWl.put (R_lt rfl (.no rfl) rfl (.tmp rfl fun _ => rfl) (.tmp rfl fun _ => rfl)) rfl ?_
      refine AWl.nil ?_
      refine AW.cond (.tmp rfl fun _ => rfl) (fun h37 => ?_) (fun h37 => ?_)
      · skip
        try simp at h37
        obtain ⟨d, hd⟩ : ∃ ξ, (expL g a c x)[k]? = some ξ := ⟨_, List.getElem?_eq_getElem (by omega)⟩
        have hr := (expL_mem ha hg (c := c) hxr).1 (List.mem_map.2 ⟨d, List.mem_of_getElem? hd, rfl⟩)
        have hrr := hr.rng ha hg hxr
        have hrl := cxRow_len g a c x k
        refine AW.skip ?_
        refine AW.seq ?_
        refine AW.block ?_
        refine AW.seq ?_
        refine AW.drawn 13 (nthB [[], [], [], [], [2, 3], [2, 3, 4], [2, 3, 4, 5], [], [], [7, 8], [7, 8, 9], [7, 8, 9, 10], [0, 1, 2, 3, 4, 5, 6, 7, 8, 9, 10, 11]]) (by kernel_rfl) (by kernel_rfl) (by kernel_rfl) ?_
        refine DrawC.step rfl rfl rfl (Loc.of rfl fun σ' hs => (by exact R_load rfl (.no rfl) (hd_sup hs rfl) (.tmp (hs.slots _ _ rfl) fun _ => rfl) ty35 rfl rfl)) ?_
        refine DrawC.step rfl rfl rfl (Loc.of rfl fun σ' hs => (by exact R_load rfl (.no rfl) (hd_sup hs rfl) (.tmp (hs.slots _ _ rfl) fun _ => rfl) ty37 rfl rfl)) ?_
        refine DrawC.step rfl rfl rfl (Loc.of rfl fun σ' hs => R_move rfl (.no rfl) (hd_sup hs rfl) (.tmp (hs.slots _ _ rfl) fun _ => rfl)) ?_
        refine DrawC.step rfl rfl rfl (Loc.of rfl fun σ' hs => R_move rfl (.no rfl) (hd_sup hs rfl) (.tmp (hs.slots _ _ rfl) fun _ => rfl)) ?_
        refine DrawC.step rfl rfl rfl (Loc.of rfl fun σ' hs => (by exact R_indexAddr rfl (.no rfl) (hd_sup hs rfl) (.tmp (hs.slots _ _ rfl) fun _ => rfl) (.tmp (hs.slots _ _ rfl) fun _ => rfl) Try.underlying139 ty142 (fun _ => ⟨by omega, (map_get hd)⟩))) ?_
        refine DrawC.step rfl rfl rfl (Loc.of rfl fun σ' hs => (by exact R_fieldAddr rfl (.no rfl) (hd_sup hs rfl) (.tmp (hs.slots _ _ rfl) fun _ => rfl) fl142_0)) ?_
        refine DrawC.step rfl rfl rfl (Loc.of rfl fun σ' hs => (by exact R_load rfl (.no rfl) (hd_sup hs rfl) (.tmp (hs.slots _ _ rfl) fun _ => rfl) ty3 rfl rfl)) ?_
        refine DrawC.step rfl rfl rfl (Loc.of rfl fun σ' hs => R_move rfl (.no rfl) (hd_sup hs rfl) (.tmp (hs.slots _ _ rfl) fun _ => rfl)) ?_
        refine DrawC.step rfl rfl rfl (Loc.of rfl fun σ' hs => R_move rfl (.no rfl) (hd_sup hs rfl) (.tmp (hs.slots _ _ rfl) fun _ => rfl)) ?_
        refine DrawC.step rfl rfl rfl (Loc.of rfl fun σ' hs => (by exact R_indexAddr rfl (.no rfl) (hd_sup hs rfl) (.tmp (hs.slots _ _ rfl) fun _ => rfl) (.tmp (hs.slots _ _ rfl) fun _ => rfl) Try.underlying139 ty142 (fun _ => ⟨by omega, (map_get hd)⟩))) ?_
        refine DrawC.step rfl rfl rfl (Loc.of rfl fun σ' hs => (by exact R_fieldAddr rfl (.no rfl) (hd_sup hs rfl) (.tmp (hs.slots _ _ rfl) fun _ => rfl) fl142_1)) ?_
        refine DrawC.step rfl rfl rfl (Loc.of rfl fun σ' hs => (by exact R_load rfl (.no rfl) (hd_sup hs rfl) (.tmp (hs.slots _ _ rfl) fun _ => rfl) ty3 rfl rfl)) ?_
        refine DrawC.step rfl rfl rfl (Loc.of rfl fun σ' hs => R_callz (FnT.fr (specl18Ends g a ha hg d.node hrr.1 d.set hrr.2)) rfl (.no rfl) (hd_sup hs rfl) (.cons (.tmp (hs.slots _ _ rfl) fun _ => rfl) (readA_sup hs rfl) (.cons (.tmp (hs.slots _ _ rfl) fun _ => rfl) (readA_sup hs rfl) (.cons (.tmp (hs.slots _ _ rfl) fun _ => rfl) (readA_sup hs rfl) (.cons (.tmp (hs.slots _ _ rfl) fun _ => rfl) (readA_sup hs rfl) .nil))))) ?_
        refine DrawC.fin rfl rfl ?_
        refine AWl.nil ?_
        refine AW.cond (.tmp rfl fun _ => rfl) (fun h52 => ?_) (fun h52 => ?_)
        · skip
          try simp at h52
          have hb : endN g a d = true := h52
          refine AW.le (σ' := ⟨_, [(2, _), (3, _), (4, _), (6, _), (7, _), (8, _), (9, _), (10, _)], [(11, _)]⟩) (Le.sub0 rfl ⟨rfl, rfl, rfl, rfl, rfl, rfl, rfl, rfl, trivial⟩ ⟨rfl, trivial⟩) ?_
          refine AW.region ?_
          refine AWl.put (R_move rfl (.no rfl) rfl (.tmp rfl fun _ => rfl)) rfl ?_
          refine AWl.put (R_move rfl (.no rfl) rfl (.tmp rfl fun _ => rfl)) rfl ?_
          refine AWl.put (R_move rfl (.no rfl) rfl (.tmp rfl fun _ => rfl)) rfl ?_
          refine AWl.put (R_move rfl (.no rfl) rfl (.tmp rfl fun _ => rfl)) rfl ?_
          refine AWl.put ((by exact R_indexAddr rfl (.no rfl) rfl (.tmp rfl fun _ => rfl) (.tmp rfl fun _ => rfl) Try.underlying139 ty142 (fun _ => ⟨by omega, (map_get hd)⟩))) rfl ?_
          refine AWl.put ((by exact R_fieldAddr rfl (.no rfl) rfl (.tmp rfl fun _ => rfl) fl142_0)) rfl ?_
          refine AWl.put ((by exact R_load rfl (.no rfl) rfl (.tmp rfl fun _ => rfl) ty3 rfl rfl)) rfl ?_
          refine AWl.put (R_build (ps := [(0, .tmp 54), (1, .tmp 59)]) rfl rfl rfl in93 rfl rfl st93 (.cons (.tmp rfl fun _ => rfl) rfl rfl fp93_0 (.cons (.tmp rfl fun _ => rfl) rfl rfl fp93_1 .nil)) rfl) rfl ?_
          apply AWl.consume
          case ho =>
            apply R_consume (xo := .tmp 53) 11 (specl15Put (setG pless (cxTo g a c x ++ cxRow g a c x k)) ⟨(x : Int), d.node⟩ (Nat.le_trans (setG_len _) (by rw [List.length_append]; omega))) rfl rfl rfl (.tmp rfl fun _ => rfl)
            case ha => rfl
            case hargs => exact (ArgC.own (ArgRd.agg (.tmp rfl fun _ => rfl) .nil))
            all_goals rfl
          case hd => rfl
          refine AWl.put (R_assign rfl (.no rfl) rfl (.tmp rfl fun _ => rfl)) rfl ?_
          refine AWl.nil ?_
          refine AW.le (σ' := ⟨_, [(2, _), (3, _), (4, _), (6, _), (7, _), (8, _), (9, _), (10, _)], [(11, _)]⟩) (Le.sub0 rfl ⟨rfl, rfl, rfl, rfl, rfl, rfl, rfl, rfl, trivial⟩ ⟨rfl, trivial⟩) ?_
          refine AW.region ?_
          refine AWl.put (R_move rfl (.no rfl) rfl (.tmp rfl fun _ => rfl)) rfl ?_
          refine AWl.put (R_add rfl (.no rfl) rfl (.tmp rfl fun _ => rfl) (.const rfl) (fun _ => by omega)) rfl ?_
          refine AWl.put (R_assign rfl (.no rfl) rfl (.tmp rfl fun _ => rfl)) rfl ?_
          refine AWl.nil ?_
          repeat (with_reducible refine BlockQ.nor ?_)
          refine Round1.next (k + 1) ⟨by omega, trivial⟩ (by omega) (Le.sub0 rfl ⟨rfl, rfl, rfl, rfl, rfl, rfl, rfl, rfl, trivial⟩ ⟨(by refine congrArg (fun r => some (R.row 2 r)) ?_; first | (rw [cxRow_at hd, hb, if_pos rfl, ← List.append_assoc, ← setG_snoc]; done) | (rw [cxRow_at hd, hb]; simp; done) | (rw [cxTo_succ, show k = (expL g a c x).length by first | omega | (simp at h37; omega)]; done) | (simp [cxRow]; done)), trivial⟩)
        · skip
          try simp at h52
          have hb : endN g a d = false := by simpa [endN] using h52
          refine AW.skip ?_
          refine AW.le (σ' := ⟨_, [(2, _), (3, _), (4, _), (6, _), (7, _), (8, _), (9, _), (10, _)], [(11, _)]⟩) (Le.sub0 rfl ⟨rfl, rfl, rfl, rfl, rfl, rfl, rfl, rfl, trivial⟩ ⟨rfl, trivial⟩) ?_
          refine AW.region ?_
          refine AWl.put (R_move rfl (.no rfl) rfl (.tmp rfl fun _ => rfl)) rfl ?_
          refine AWl.put (R_add rfl (.no rfl) rfl (.tmp rfl fun _ => rfl) (.const rfl) (fun _ => by omega)) rfl ?_
          refine AWl.put (R_assign rfl (.no rfl) rfl (.tmp rfl fun _ => rfl)) rfl ?_
          refine AWl.nil ?_
          repeat (with_reducible refine BlockQ.nor ?_)
          refine Round1.next (k + 1) ⟨by omega, trivial⟩ (by omega) (Le.sub0 rfl ⟨rfl, rfl, rfl, rfl, rfl, rfl, rfl, rfl, trivial⟩ ⟨(by refine congrArg (fun r => some (R.row 2 r)) ?_; first | (rw [cxRow_at hd, hb, if_pos rfl, ← List.append_assoc, ← setG_snoc]; done) | (rw [cxRow_at hd, hb]; simp; done) | (rw [cxTo_succ, show k = (expL g a c x).length by first | omega | (simp at h37; omega)]; done) | (simp [cxRow]; done)), trivial⟩)
      · skip
        try simp at h37
        refine AW.exit ?_
        refine AW.region ?_
        refine AWl.put (R_move rfl (.no rfl) rfl (.tmp rfl fun _ => rfl)) rfl ?_
        refine AWl.put (R_add rfl (.no rfl) rfl (.tmp rfl fun _ => rfl) (.const rfl) (fun _ => by omega)) rfl ?_
        refine AWl.put (R_assign rfl (.no rfl) rfl (.tmp rfl fun _ => rfl)) rfl ?_
        refine AWl.nil ?_
        repeat (with_reducible refine BlockQ.nor ?_)
        refine Round1.next (x + 1) ⟨by omega, trivial⟩ (by omega) (Le.sub0 rfl ⟨rfl, rfl, rfl, rfl, rfl, rfl, trivial⟩ ⟨(by refine congrArg (fun r => some (R.row 2 r)) ?_; first | (rw [cxRow_at hd, hb, if_pos rfl, ← List.append_assoc, ← setG_snoc]; done) | (rw [cxRow_at hd, hb]; simp; done) | (rw [cxTo_succ, show k = (expL g a c x).length by first | omega | (simp at h37; omega)]; done) | (simp [cxRow]; done)), trivial⟩)
    · skip
      try simp at h26
      refine AW.exit ?_
      refine AW.seq ?_
      refine AW.region ?_
      refine AWl.put (R_move rfl (.no rfl) rfl (.tmp rfl fun _ => rfl)) rfl ?_
      refine AWl.put (R_assign rfl (.no rfl) rfl (.tmp rfl fun _ => rfl)) rfl ?_
      refine AWl.nil ?_
      refine AW.ret ?_
      refine Res.one rfl (.tmp rfl .nil) rfl ?_
      unfold condAns; rw [if_pos hcc, show x = g.Values.length by omega, cx_all ha hg c]; rfl
end Go.Proofs.Ytbfejakbaijmhaa
