import Derived.Test.YtamnfkfjfelbbaaB70xw
set_option linter.unusedVariables false
set_option linter.unusedSimpArgs false
set_option maxHeartbeats 1000000
set_option maxRecDepth 100000
namespace Go.Q
open Go.D
theorem same_eq (e : TNd) (u : Int) (m : Nat) : (decide (e.node = u) && decide ((e.set : Int) = (m : Int))) = sameN u m e := by
 unfold sameN
 congr 1
 exact decide_eq_decide.2 (by omega)
theorem any_take_at {α : Type} {p : α → Bool} {l : List α} {j : Nat} {x : α} (h : l[j]? = some x) : (l.take (j + 1)).any p = ((l.take j).any p || p x) := by
 rw [take_at h, List.any_append]; simp
end Go.Q
namespace Go.Proofs.Ytamnfkfjfelbbaa
open Go.RowKit Go.Q Go.D
theorem specl18Next (g : TGraph) (a : TAutomaton) (ha : validA a = true) (hg : validG g = true) (nd : Int) (hnd : 0 ≤ nd ∧ nd < g.Values.length) (S0 : Nat) (hS : S0 < 2 ^ a.Accept.length) (y : TArc) (hya : y ∈ arcsAt g nd) : FnT Try.prog 51 [.agg (cGraph g), .agg (cAutomaton a), .one (.v (.int .i64 nd)), .one (.v (.int .i64 (S0 : Int))), .agg (cStep y.step)] (.tup [.one (.v (.int .i64 y.to)), .one (.v (.int .i64 ((aftS a S0 (valAt g nd) y.letter : Nat) : Int)))]) := by
 obtain ⟨j0, hy⟩ := List.getElem?_of_mem hya
 refine FnT.walk Try.func51 U (by kernel_rfl) Try.ntmps51 U fun hlen w0 => ?_
 try simp [cPair, cToken, cExpr, cEdge, cGraph, cStep, cWalk, cChange, cBatch, cHistory, cPositions, cAutomaton, cProductStep, cPathAtom, cConjunction, cView, cDelta, cRegistered, cRegistry] at hlen
 have hA := validA_len ha
 have hG := validG_len hg
 have hP := pow_le_12 ha
 have hvx := valAt_ok hg hnd
 have hyo := arcsAt_ok hg hy
 obtain ⟨k1, e, hed, hy1, hy2, hy3⟩ := arcsAt_edge hg hy
 have hE := validG_edge hg hed
 have hix : edgeIndex g y.step.Edge = (k1 : Int) := by rw [hy1]; exact edgeIndex_at hg hed
 have hlet : FnT Try.prog 74 [.agg (cEdge e), .one (.v (.bool y.step.Inverse))] (.a (.one (.v (.int .i64 y.letter)))) := by (rw [hy2]; exact specl14Letter e _ (by omega))
 have hto : FnT Try.prog 75 [.agg (cEdge e), .one (.v (.bool y.step.Inverse))] (.a (.one (.v (.int .i64 y.to)))) := by (rw [hy3]; exact specl14To e _)
 refine AW.sr ?_
 refine AWl.p (R_boxz U U U (.tm U) (ts := _) (by rfl)) U ?_
 refine AWl.p (R_boxz U U U (.tm U) (ts := _) (by rfl)) U ?_
 refine AWl.p (R_boxz U U U (.tm U) (ts := _) (by rfl)) U ?_
 refine AWl.ac ?_
 refine AWl.ac ?_
 refine AWl.nil (AW.seq ?_)
 refine AW.drawn 9 (nthB [[], [0], [], [], [3], [2, 3, 4], [0, 1, 2, 3, 4, 5], [0, 1, 2, 3, 4, 5, 6], []]) (by kernel_rfl) (by kernel_rfl) (by kernel_rfl) ?_
 refine DrawC.step U U U (Loc.of U fun σ' hs => (by exact R_fieldAddr U (.no U) (hd_sup hs U) (.tm (hs.slots _ _ U)) fl39_1)) ?_
 refine DrawC.step U U U (Loc.of U fun σ' hs => (by exact R_load U (.no U) (hd_sup hs U) (.tm (hs.slots _ _ U)) ty37 U U)) ?_
 refine DrawC.step U U U (Loc.of U fun σ' hs => (by exact R_load U (.no U) (hd_sup hs U) (.tm (hs.slots _ _ U)) ty39 U U)) ?_
 refine DrawC.step U U U (Loc.of U fun σ' hs => (by exact R_fieldAddr U (.no U) (hd_sup hs U) (.tm (hs.slots _ _ U)) fl59_0)) ?_
 refine DrawC.step U U U (Loc.of U fun σ' hs => (by exact R_load U (.no U) (hd_sup hs U) (.tm (hs.slots _ _ U)) ty3 U U)) ?_
 refine DrawC.step U U U (Loc.of U fun σ' hs => R_callz (FnT.fr (specEdgeIndex _ _)) U (.no U) (hd_sup hs U) (.cons (.tm (hs.slots _ _ U)) (readA_sup hs U) (.cons (.tm (hs.slots _ _ U)) (readA_sup hs U) .nil))) ?_
 refine DrawC.step U U U (Loc.of U fun σ' hs => (by exact R_indexAddr U (.no U) (hd_sup hs U) (.tm (hs.slots _ _ U)) (.tm (hs.slots _ _ U)) Try.underlying37 ty93 (fun _ => ⟨by omega, map_get (l := g.Edges) (x := e) (by rw [hix]; exact hed)⟩))) ?_
 refine DrawC.step U U U (Loc.of U fun σ' hs => (by exact R_load U (.no U) (hd_sup hs U) (.tm (hs.slots _ _ U)) ty93 U U)) ?_
 refine DrawC.step U U U (Loc.of1 U fun σ' hs hf => R_alloc 12 U U (hd_sup hs U) in93 U U hf) ?_
 refine DrawC.fin U U ?_
 refine AWl.chgb (R_store_pb U U U (.tm U) (.tm U) U ty93 U U U (by kernel_rfl) U) ?_
 refine AWl.nil (AW.seq ?_)
 refine AW.le (σ' := ⟨_, [(0, _), (1, _), (2, _), (3, _), (4, _), (5, _), (6, _), (9, _), (10, _), (11, _), (12, _)], [(12, _)]⟩) (Le.sub0 U ⟨U, U, U, U, U, U, U, U, U, U, U, Y⟩ ⟨U, Y⟩) ?_
 refine AW.region ?_
 refine AWl.ac ?_
 refine AWl.nil (AW.seq ?_)
 refine AW.sr ?_
 refine AWl.ac ?_
 refine AWl.nil (AW.block ?_)
 refine AW.loop2 (fun (q : Nat) (o : Nat) => (q ≤ a.Accept.length ∧ o < 2 ^ a.Accept.length) ∧ o = ((List.range q).filter S0.testBit).foldl (fun out (s : Nat) => aftF a y.letter (bitsN (closure a s (valAt g nd))) out) 0) (fun (q : Nat) (o : Nat) => ⟨_, [(14, (true, .a (.one (.t (.v (.int .i64 (q : Nat))))))), (13, (true, .a (.one (.t (.v (.int .i64 (o : Nat))))))), (2, _), (3, _), (5, _), (6, _), (9, _), (10, _), (11, _), (12, _)], [(12, .box [.t (.v (.int .i64 e.ID)), .t (.v (.int .i64 e.From)), .t (.v (.int .i64 e.To)), .t (.v (.int .i64 e.Label))])]⟩) (fun (q : Nat) (o : Nat) => a.Accept.length - q) (0) (0) ⟨⟨Nat.zero_le _, Nat.two_pow_pos _⟩, U⟩ (Le.sub0 U ⟨U, U, U, U, U, U, U, U, U, U, Y⟩ ⟨U, Y⟩) ?_
 rintro q o ⟨hk, he⟩
 refine AW.seq ?_
 refine AW.sr ?_
 refine AWl.mv ?_
 refine AWl.p (by exact R_fieldAddr U (.no U) U (.tm U) fl41_1) U ?_
 refine AWl.p (by exact R_load U (.no U) U (.tm U) ty26 U U) U ?_
 refine AWl.p (by exact R_lenm U (.no U) U (.tm U) (by exact .t) Try.underlying26) U ?_
 refine AWl.p (R_lt U (.no U) U (.tm U) (.tm U)) U ?_
 refine AWl.nil ?_
 refine AW.cond (.tm U) (fun h30 => ?_) (fun h30 => ?_)
 · skip
   try simp only [bit_at, bit_zero, shr_zero] at h30
   try simp only [Int.toNat_natCast] at h30
   try simp at h30
   have hqn : q < a.Accept.length := by omega
   have hcl := closure_lt ha (s := (q : Int)) hvx.2 (by omega)
   refine AW.skip ?_
   refine AW.seq ?_
   refine AW.block ?_
   refine AW.seq ?_
   refine AW.sr ?_
   refine AWl.mv ?_
   refine AWl.mv ?_
   refine AWl.p (R_shr U (.no U) U (.tm U) (.tm U) (fun _ => by omega)) U ?_
   refine AWl.p (R_and1 U (.no U) U (.tm U) (.const U) (fun _ => by first | exact Int.natCast_nonneg _ | omega)) U ?_
   refine AWl.p (R_eq U (.no U) U (.tm U) (.const U)) U ?_
   refine AWl.nil ?_
   refine AW.cond (.tm U) (fun h37 => ?_) (fun h37 => ?_)
   · skip
     try simp only [bit_at, bit_zero, shr_zero] at h37
     try simp only [Int.toNat_natCast] at h37
     try simp at h37
     have hb0 : S0.testBit q = false := by simpa using h37
     refine AW.exit ?_
     refine AW.le (σ' := ⟨_, [(2, _), (3, _), (5, _), (6, _), (9, _), (10, _), (11, _), (12, _), (13, _), (14, _)], [(12, _)]⟩) (Le.sub0 U ⟨U, U, U, U, U, U, U, U, U, U, Y⟩ ⟨U, Y⟩) ?_
     refine AW.region ?_
     refine AWl.mv ?_
     refine AWl.p (R_add U (.no U) U (.tm U) (.const U) (fun _ => by omega)) U ?_
     refine AWl.av ?_
     refine AWl.nil ?_
     repeat (with_reducible refine BlockQ.nor ?_)
     refine Round2.next (q + 1) (o) ⟨⟨by omega, hk.2⟩, (by rw [range_filter_succ, hb0]; simpa using he)⟩ (by omega) (Le.sub0 rfl ⟨rfl, rfl, rfl, rfl, rfl, rfl, rfl, rfl, rfl, rfl, Y⟩ ⟨(by rfl), Y⟩)
   · skip
     try simp only [bit_at, bit_zero, shr_zero] at h37
     try simp only [Int.toNat_natCast] at h37
     try simp at h37
     have hb1 : S0.testBit q = true := by simpa using h37
     refine AW.skip ?_
     refine AW.seq ?_
     refine AW.le (σ' := ⟨_, [(2, _), (3, _), (5, _), (6, _), (9, _), (10, _), (11, _), (12, _), (13, _), (14, _)], [(12, _)]⟩) (Le.sub0 U ⟨U, U, U, U, U, U, U, U, U, U, Y⟩ ⟨U, Y⟩) ?_
     refine AW.drawn 9 (nthB [[], [], [], [2], [], [2, 3, 4], [2, 3, 4, 5], [0, 1, 2, 3, 4, 5, 6], [0, 1, 2, 3, 4, 5, 6, 7]]) (by kernel_rfl) (by kernel_rfl) (by kernel_rfl) ?_
     refine DrawC.step U U U (Loc.of U fun σ' hs => (by exact R_load U (.no U) (hd_sup hs U) (.tm (hs.slots _ _ U)) ty41 U U)) ?_
     refine DrawC.step U U U (Loc.of U fun σ' hs => R_move U (.no U) (hd_sup hs U) (.tm (hs.slots _ _ U))) ?_
     refine DrawC.step U U U (Loc.of U fun σ' hs => (by exact R_fieldAddr U (.no U) (hd_sup hs U) (.tm (hs.slots _ _ U)) fl39_0)) ?_
     refine DrawC.step U U U (Loc.of U fun σ' hs => (by exact R_load U (.no U) (hd_sup hs U) (.tm (hs.slots _ _ U)) ty22 U U)) ?_
     refine DrawC.step U U U (Loc.of U fun σ' hs => R_move U (.no U) (hd_sup hs U) (.tm (hs.slots _ _ U))) ?_
     refine DrawC.step U U U (Loc.of U fun σ' hs => (by exact R_indexAddr U (.no U) (hd_sup hs U) (.tm (hs.slots _ _ U)) (.tm (hs.slots _ _ U)) Try.underlying22 ty3 (fun _ => ⟨by omega, (by exact map_get hvx.1)⟩))) ?_
     refine DrawC.step U U U (Loc.of U fun σ' hs => (by exact R_load U (.no U) (hd_sup hs U) (.tm (hs.slots _ _ U)) ty3 U U)) ?_
     refine DrawC.step U U U (Loc.of U fun σ' hs => R_callz (FnT.fr (specl14Closure a ha (q : Int) (valAt g nd) ⟨by omega, by omega⟩ hvx.2)) U (.no U) (hd_sup hs U) (.cons (.tm (hs.slots _ _ U)) (readA_sup hs U) (.cons (.tm (hs.slots _ _ U)) (readA_sup hs U) (.cons (.tm (hs.slots _ _ U)) (readA_sup hs U) .nil)))) ?_
     refine DrawC.step U U U (Loc.of U fun σ' hs => R_assign U (.no U) (hd_sup hs U) (.tm (hs.slots _ _ U))) ?_
     refine DrawC.fin U U ?_
     refine AWl.nil (AW.seq ?_)
     refine AW.le (σ' := ⟨_, [(2, _), (3, _), (5, _), (6, _), (9, _), (10, _), (11, _), (12, _), (13, _), (14, _), (15, _)], [(12, _)]⟩) (Le.sub0 U ⟨U, U, U, U, U, U, U, U, U, U, U, Y⟩ ⟨U, Y⟩) ?_
     refine AW.region ?_
     refine AWl.ac ?_
     refine AWl.nil (AW.block ?_)
     refine AW.loop2 (fun (r : Nat) (p : Nat) => (r ≤ a.Accept.length ∧ p < 2 ^ a.Accept.length) ∧ p = aftF a y.letter ((List.range r).filter (closure a q (valAt g nd)).testBit) o) (fun (r : Nat) (p : Nat) => ⟨_, [(16, (true, .a (.one (.t (.v (.int .i64 (r : Nat))))))), (13, (true, .a (.one (.t (.v (.int .i64 (p : Nat))))))), (2, _), (3, _), (5, _), (6, _), (9, _), (10, _), (11, _), (12, _), (14, _), (15, _)], [(12, .box [.t (.v (.int .i64 e.ID)), .t (.v (.int .i64 e.From)), .t (.v (.int .i64 e.To)), .t (.v (.int .i64 e.Label))])]⟩) (fun (r : Nat) (p : Nat) => a.Accept.length - r) (0) (o) ⟨⟨Nat.zero_le _, hk.2⟩, (by simp [aftF])⟩ (Le.sub0 U ⟨U, U, U, U, U, U, U, U, U, U, U, U, Y⟩ ⟨U, Y⟩) ?_
     rintro r p ⟨hk1, he1⟩
     refine AW.seq ?_
     refine AW.sr ?_
     refine AWl.mv ?_
     refine AWl.p (by exact R_fieldAddr U (.no U) U (.tm U) fl41_1) U ?_
     refine AWl.p (by exact R_load U (.no U) U (.tm U) ty26 U U) U ?_
     refine AWl.p (by exact R_lenm U (.no U) U (.tm U) (by exact .t) Try.underlying26) U ?_
     refine AWl.p (R_lt U (.no U) U (.tm U) (.tm U)) U ?_
     refine AWl.nil ?_
     refine AW.cond (.tm U) (fun h50 => ?_) (fun h50 => ?_)
     · skip
       try simp only [bit_at, bit_zero, shr_zero] at h50
       try simp only [Int.toNat_natCast] at h50
       try simp at h50
       obtain ⟨row, hr1, hr2, hr3, hn1, hn2⟩ := validA_next ha (s := (r : Int)) (k := y.letter) (by omega) (by omega) (by omega) (by omega)
       refine AW.skip ?_
       refine AW.seq ?_
       refine AW.block ?_
       refine AW.seq ?_
       refine AW.drawn 12 (nthB [[], [0], [], [0, 1, 2], [0, 1, 2, 3], [], [], [6], [5, 6, 7], [0, 1, 2, 3, 4, 5, 6, 7, 8], [0, 1, 2, 3, 4, 5, 6, 7, 8, 9], [0, 1, 2, 3, 4, 5, 6, 7, 8, 9, 10]]) (by kernel_rfl) (by kernel_rfl) (by kernel_rfl) ?_
       refine DrawC.step U U U (Loc.of U fun σ' hs => (by exact R_fieldAddr U (.no U) (hd_sup hs U) (.tm (hs.slots _ _ U)) fl41_2)) ?_
       refine DrawC.step U U U (Loc.of U fun σ' hs => (by exact R_load U (.no U) (hd_sup hs U) (.tm (hs.slots _ _ U)) ty27 U U)) ?_
       refine DrawC.step U U U (Loc.of U fun σ' hs => R_move U (.no U) (hd_sup hs U) (.tm (hs.slots _ _ U))) ?_
       refine DrawC.step U U U (Loc.of U fun σ' hs => (by exact R_indexAddr U (.no U) (hd_sup hs U) (.tm (hs.slots _ _ U)) (.tm (hs.slots _ _ U)) Try.underlying27 ty22 (fun _ => ⟨by omega, (by exact map_get hr1)⟩))) ?_
       refine DrawC.step U U U (Loc.of U fun σ' hs => (by exact R_load U (.no U) (hd_sup hs U) (.tm (hs.slots _ _ U)) ty22 U U)) ?_
       refine DrawC.step U U U (Loc.of U fun σ' hs => (by exact R_load_pp U (.no U) (hd_sup hs U) (.tm (hs.slots _ _ U)) (hs.res _ _ U) ty93 U U)) ?_
       refine DrawC.step U U U (Loc.of U fun σ' hs => (by exact R_fieldAddr U (.no U) (hd_sup hs U) (.tm (hs.slots _ _ U)) fl59_1)) ?_
       refine DrawC.step U U U (Loc.of U fun σ' hs => (by exact R_load U (.no U) (hd_sup hs U) (.tm (hs.slots _ _ U)) ty4 U U)) ?_
       refine DrawC.step U U U (Loc.of U fun σ' hs => R_callz (FnT.fr (hlet)) U (.no U) (hd_sup hs U) (.cons (.tm (hs.slots _ _ U)) (readA_sup hs U) (.cons (.tm (hs.slots _ _ U)) (readA_sup hs U) .nil))) ?_
       refine DrawC.step U U U (Loc.of U fun σ' hs => (by exact R_indexAddr U (.no U) (hd_sup hs U) (.tm (hs.slots _ _ U)) (.tm (hs.slots _ _ U)) Try.underlying22 ty3 (fun _ => ⟨by omega, (by exact map_get hr3)⟩))) ?_
       refine DrawC.step U U U (Loc.of U fun σ' hs => (by exact R_load U (.no U) (hd_sup hs U) (.tm (hs.slots _ _ U)) ty3 U U)) ?_
       refine DrawC.step U U U (Loc.of U fun σ' hs => R_assign U (.no U) (hd_sup hs U) (.tm (hs.slots _ _ U))) ?_
       refine DrawC.fin U U ?_
       refine AWl.nil (AW.seq ?_)
       refine AW.le (σ' := ⟨_, [(2, _), (3, _), (5, _), (6, _), (9, _), (10, _), (11, _), (12, _), (13, _), (14, _), (15, _), (16, _), (17, _)], [(12, _)]⟩) (Le.sub0 U ⟨U, U, U, U, U, U, U, U, U, U, U, U, U, Y⟩ ⟨U, Y⟩) ?_
       refine AW.region ?_
       refine AWl.mv ?_
       refine AWl.mv ?_
       refine AWl.p (R_shr U (.no U) U (.tm U) (.tm U) (fun _ => by omega)) U ?_
       refine AWl.p (R_and1 U (.no U) U (.tm U) (.const U) (fun _ => by first | exact Int.natCast_nonneg _ | omega)) U ?_
       refine AWl.p (R_eq U (.no U) U (.tm U) (.const U)) U ?_
       refine AWl.mv ?_
       refine AWl.p (R_move U (by exact .yes1 U U U U) U (.tmp U (by exact fun _ => rfl))) U ?_
       refine AWl.p (R_ge U (by exact .yes1 U U U U) U (.tmp U (by exact id)) (.const U)) U ?_
       refine AWl.p (R_and U (.no U) U (.tm U) (.tmp U (by exact id))) U ?_
       refine AWl.nil ?_
       refine AW.cond (.tm U) (fun h72 => ?_) (fun h72 => ?_)
       · skip
         try simp only [bit_at, bit_zero, shr_zero] at h72
         try simp only [Int.toNat_natCast] at h72
         try simp at h72
         have h2x := pow_12 ha (x := (nextOf a r y.letter).toNat) (by omega)
         have h2p := Nat.two_pow_pos (nextOf a r y.letter).toNat
         refine AW.le (σ' := ⟨_, [(2, _), (3, _), (5, _), (6, _), (9, _), (10, _), (11, _), (12, _), (13, _), (14, _), (15, _), (16, _), (17, _)], [(12, _)]⟩) (Le.sub0 U ⟨U, U, U, U, U, U, U, U, U, U, U, U, U, Y⟩ ⟨U, Y⟩) ?_
         refine AW.region ?_
         refine AWl.mv ?_
         refine AWl.mv ?_
         refine AWl.p (R_shlN U (.no U) U (.const U) (.tm U) (fun _ => by omega)) U ?_
         refine AWl.p (R_or_int U (.no U) U (.tm U) (.tm U) (fun _ => by omega)) U ?_
         refine AWl.av ?_
         refine AWl.nil (AW.region ?_)
         refine AWl.mv ?_
         refine AWl.p (R_add U (.no U) U (.tm U) (.const U) (fun _ => by omega)) U ?_
         refine AWl.av ?_
         refine AWl.nil ?_
         repeat (with_reducible refine BlockQ.nor ?_)
         refine Round2.next (r + 1) (p ||| 2 ^ (nextOf a r y.letter).toNat) ⟨⟨by omega, or_pow_lt hk1.2 (by omega)⟩, (by rw [range_filter_succ, h72.1, if_pos rfl, aftF_snoc, if_pos h72.2, he1])⟩ (by omega) (Le.sub0 rfl ⟨rfl, rfl, rfl, rfl, rfl, rfl, rfl, rfl, rfl, rfl, rfl, rfl, Y⟩ ⟨(by rfl), Y⟩)
       · skip
         try simp only [bit_at, bit_zero, shr_zero] at h72
         try simp only [Int.toNat_natCast] at h72
         try simp at h72
         refine AW.skip ?_
         refine AW.le (σ' := ⟨_, [(2, _), (3, _), (5, _), (6, _), (9, _), (10, _), (11, _), (12, _), (13, _), (14, _), (15, _), (16, _), (17, _)], [(12, _)]⟩) (Le.sub0 U ⟨U, U, U, U, U, U, U, U, U, U, U, U, U, Y⟩ ⟨U, Y⟩) ?_
         refine AW.region ?_
         refine AWl.mv ?_
         refine AWl.p (R_add U (.no U) U (.tm U) (.const U) (fun _ => by omega)) U ?_
         refine AWl.av ?_
         refine AWl.nil ?_
         repeat (with_reducible refine BlockQ.nor ?_)
         refine Round2.next (r + 1) (p) ⟨⟨by omega, hk1.2⟩, (by rw [range_filter_succ]; cases hb : (closure a q (valAt g nd)).testBit r with | false => (rw [if_neg (by simp), List.append_nil]; exact he1) | true => (rw [if_pos rfl, aftF_snoc, if_neg (by have := h72 hb; omega)]; exact he1))⟩ (by omega) (Le.sub0 rfl ⟨rfl, rfl, rfl, rfl, rfl, rfl, rfl, rfl, rfl, rfl, rfl, rfl, Y⟩ ⟨(by rfl), Y⟩)
     · skip
       try simp only [bit_at, bit_zero, shr_zero] at h50
       try simp only [Int.toNat_natCast] at h50
       try simp at h50
       refine AW.exit ?_
       refine AW.region ?_
       refine AWl.mv ?_
       refine AWl.p (R_add U (.no U) U (.tm U) (.const U) (fun _ => by omega)) U ?_
       refine AWl.av ?_
       refine AWl.nil ?_
       repeat (with_reducible refine BlockQ.nor ?_)
       refine Round2.next (q + 1) (p) ⟨⟨by omega, hk1.2⟩, (by rw [range_filter_succ, hb1, if_pos rfl, List.foldl_append, ← he, he1, show r = a.Accept.length by omega, ← bits_eq hcl (by omega)]; rfl)⟩ (by omega) (Le.sub0 rfl ⟨rfl, rfl, rfl, rfl, rfl, rfl, rfl, rfl, rfl, rfl, Y⟩ ⟨(by rfl), Y⟩)
 · skip
   try simp only [bit_at, bit_zero, shr_zero] at h30
   try simp only [Int.toNat_natCast] at h30
   try simp at h30
   refine AW.exit ?_
   refine AW.sr ?_
   refine AWl.p (by exact R_load_pp U (.no U) U (.tm U) U ty93 U U) U ?_
   refine AWl.p (by exact R_fieldAddr U (.no U) U (.tm U) fl59_1) U ?_
   refine AWl.p (by exact R_load U (.no U) U (.tm U) ty4 U U) U ?_
   refine AWl.p (R_callz (FnT.fr (hto)) U (.no U) U (.cons (.tm U) U (.cons (.tm U) U .nil))) U ?_
   refine AWl.mv ?_
   refine AWl.av ?_
   refine AWl.av ?_
   refine AWl.nil (AW.ret ?_)
   refine Res.many U (.tmp U (.tmp U .nil)) U ?_ (by simp)
   unfold aftS; rw [bits_eq hS (by omega), he, show q = a.Accept.length by omega]; rfl
theorem specl18Ends (g : TGraph) (a : TAutomaton) (ha : validA a = true) (hg : validG g = true) (nd : Int) (hnd : 0 ≤ nd ∧ nd < g.Values.length) (S0 : Nat) (hS : S0 < 2 ^ a.Accept.length) : FnT Try.prog 24 [.agg (cGraph g), .agg (cAutomaton a), .one (.v (.int .i64 nd)), .one (.v (.int .i64 (S0 : Int)))] (.a (.one (.v (.bool (accS a S0 (valAt g nd)))))) := by
 refine FnT.walk Try.func24 U (by kernel_rfl) Try.ntmps24 U fun hlen w0 => ?_
 try simp [cPair, cToken, cExpr, cEdge, cGraph, cStep, cWalk, cChange, cBatch, cHistory, cPositions, cAutomaton, cProductStep, cPathAtom, cConjunction, cView, cDelta, cRegistered, cRegistry] at hlen
 have hA := validA_len ha
 have hP := pow_le_12 ha
 have hvx := valAt_ok hg hnd
 refine AW.sr ?_
 refine AWl.p (R_boxz U U U (.tm U) (ts := _) (by rfl)) U ?_
 refine AWl.p (R_boxz U U U (.tm U) (ts := _) (by rfl)) U ?_
 refine AWl.ac ?_
 refine AWl.nil (AW.seq ?_)
 refine AW.sr ?_
 refine AWl.ac ?_
 refine AWl.nil (AW.block ?_)
 refine AW.loop1 (fun (k : Nat) => (k ≤ a.Accept.length ∧ ∀ j, j < k → (S0.testBit j && acc a (j : Nat) (valAt g nd)) = false) ∧ True) (fun (k : Nat) => ⟨_, [(9, (true, .a (.one (.t (.v (.int .i64 (k : Nat))))))), (2, _), (3, _), (4, _), (5, _)], []⟩) (fun (k : Nat) => a.Accept.length - k) (0) ⟨⟨Nat.zero_le _, fun j hj => absurd hj (Nat.not_lt_zero j)⟩, Y⟩ (Le.sub0 U ⟨U, U, U, U, U, Y⟩ trivial) ?_
 rintro k ⟨hk, he⟩
 refine AW.seq ?_
 refine AW.sr ?_
 refine AWl.mv ?_
 refine AWl.p (by exact R_fieldAddr U (.no U) U (.tm U) fl41_1) U ?_
 refine AWl.p (by exact R_load U (.no U) U (.tm U) ty26 U U) U ?_
 refine AWl.p (by exact R_lenm U (.no U) U (.tm U) (by exact .t) Try.underlying26) U ?_
 refine AWl.p (R_lt U (.no U) U (.tm U) (.tm U)) U ?_
 refine AWl.nil ?_
 refine AW.cond (.tm U) (fun h14 => ?_) (fun h14 => ?_)
 · skip
   try simp only [bit_at, bit_zero, shr_zero] at h14
   try simp only [Int.toNat_natCast] at h14
   try simp at h14
   refine AW.skip ?_
   refine AW.seq ?_
   refine AW.block ?_
   refine AW.sr ?_
   refine AWl.mv ?_
   refine AWl.mv ?_
   refine AWl.p (R_shr U (.no U) U (.tm U) (.tm U) (fun _ => by omega)) U ?_
   refine AWl.p (R_and1 U (.no U) U (.tm U) (.const U) (fun _ => by first | exact Int.natCast_nonneg _ | omega)) U ?_
   refine AWl.p (R_eq U (.no U) U (.tm U) (.const U)) U ?_
   refine AWl.mv ?_
   refine AWl.p (by exact R_load U (by exact .yes1 U U U U) U (.tmp U (by exact fun _ => rfl)) ty39 U U) U ?_
   refine AWl.p (by exact R_load U (by exact .yes1 U U U U) U (.tmp U (by exact fun _ => rfl)) ty41 U U) U ?_
   refine AWl.p (R_move U (by exact .yes1 U U U U) U (.tmp U (by exact fun _ => rfl))) U ?_
   refine AWl.p (R_move U (by exact .yes1 U U U U) U (.tmp U (by exact fun _ => rfl))) U ?_
   refine AWl.p (R_callq U (by exact .yes1 U U U U) U (.cons (.tmp U (by exact id)) U (.cons (.tmp U (by exact id)) U (.cons (.tmp U (by exact id)) U (.cons (.tmp U (by exact id)) U .nil)))) fun hq => FnT.fr (specl14Accepts g a ha hg nd (k : Int) (valAt g nd) hnd.1 hvx.1 (by omega))) U ?_
   refine AWl.p (R_and U (.no U) U (.tm U) (.tmp U (by exact id))) U ?_
   refine AWl.nil ?_
   refine AW.cond (.tm U) (fun h28 => ?_) (fun h28 => ?_)
   · skip
     simp only [bit_at] at h28; simp only [Int.toNat_natCast] at h28
     refine AW.seq ?_
     refine AW.le (σ' := ⟨_, [(2, _), (3, _), (4, _), (5, _), (9, _)], []⟩) (Le.sub0 U ⟨U, U, U, U, U, Y⟩ trivial) ?_
     refine AW.region ?_
     refine AWl.ac ?_
     refine AWl.nil (AW.ret ?_)
     refine Res.v U U ?_
     unfold accS; rw [bits_eq hS (by omega), any_filter_range, range_any (by omega) h28]
   · skip
     simp only [bit_at] at h28; simp only [Int.toNat_natCast] at h28
     refine AW.skip ?_
     refine AW.le (σ' := ⟨_, [(2, _), (3, _), (4, _), (5, _), (9, _)], []⟩) (Le.sub0 U ⟨U, U, U, U, U, Y⟩ trivial) ?_
     refine AW.region ?_
     refine AWl.mv ?_
     refine AWl.p (R_add U (.no U) U (.tm U) (.const U) (fun _ => by omega)) U ?_
     refine AWl.av ?_
     refine AWl.nil ?_
     repeat (with_reducible refine BlockQ.nor ?_)
     refine Round1.next (k + 1) ⟨⟨by omega, lt_succ_cases hk.2 h28⟩, Y⟩ (by omega) (Le.sub0 rfl ⟨rfl, rfl, rfl, rfl, rfl, Y⟩ trivial)
 · skip
   try simp only [bit_at, bit_zero, shr_zero] at h14
   try simp only [Int.toNat_natCast] at h14
   try simp at h14
   refine AW.exit ?_
   refine AW.sr ?_
   refine AWl.ac ?_
   refine AWl.nil (AW.ret ?_)
   refine Res.v U U ?_
   unfold accS; rw [bits_eq hS (by omega), any_filter_range, range_none (by omega) hk.2]
theorem specl23Explore (g : TGraph) (a : TAutomaton) (ha : validA a = true) (hg : validG g = true) (c x : Int) (hx : 0 ≤ x ∧ x < g.Values.length) : FnT Try.prog 23 [.agg (cGraph g), .agg (cAutomaton a), .one (.v (.int .i64 c)), .one (.v (.int .i64 x))] (.a (.one (.sl 5 ((expL g a c x).map cNd)))) := by
 refine FnT.walk Try.func23 U (by kernel_rfl) Try.ntmps23 U fun hlen w0 => ?_
 try simp [cPair, cToken, cExpr, cEdge, cGraph, cStep, cWalk, cChange, cBatch, cHistory, cPositions, cAutomaton, cProductStep, cPathAtom, cConjunction, cView, cDelta, cRegistered, cRegistry] at hlen
 have hA := validA_len ha
 have hG := validG_len hg
 have hP := pow_le_12 ha
 refine AW.sr ?_
 refine AWl.p (R_boxz U U U (.tm U) (ts := _) (by rfl)) U ?_
 refine AWl.p (R_boxz U U U (.tm U) (ts := _) (by rfl)) U ?_
 refine AWl.ac ?_
 refine AWl.nilS (i := 8) 20001 5 U U ?_
 refine AWl.nil (AW.sr ?_)
 refine AWl.mv ?_
 refine AWl.p (by exact R_fieldAddr U (.no U) U (.tm U) fl41_0) U ?_
 refine AWl.p (by exact R_load U (.no U) U (.tm U) ty3 U U) U ?_
 refine AWl.p (R_shlN U (.no U) U (.const U) (.tm U) (fun _ => by omega)) U ?_
 refine AWl.p (R_build (ps := [(0, .tmp 17), (1, .tmp 20), (2, .const (.int .i64 (-1)))]) U U U in61 U U st61 (.cons (.tm U) U U fp61_0 (.cons (.tm U) U U fp61_1 (.cons (.const U) U U fp61_2 .nil))) U) U ?_
 refine AWl.absadd (R_list (xs := [.tmp 21]) 22 U U U (.cons (.tm U) U U .nil) Try.underlying56 in61 U U U U) U ?_
 refine AWl.av ?_
 refine AWl.nil (AW.seq ?_)
 refine AW.seq ?_
 refine AW.le (σ' := ⟨_, [(0, _), (1, _), (2, _), (3, _), (4, _), (5, _), (8, _), (9, _)], [(20001, _), (22, _)]⟩) (Le.sub0 U ⟨U, U, U, U, U, U, U, U, Y⟩ ⟨U, U, Y⟩) ?_
 refine AW.region ?_
 refine AWl.ac ?_
 refine AWl.nil (AW.block ?_)
 refine AW.loop1 (fun (k : Nat) => (k ≤ (expAt g a c x k).length ∧ k ≤ 20480) ∧ True) (fun (k : Nat) => ⟨_, [(10, (true, .a (.one (.t (.v (.int .i64 (k : Nat))))))), (9, (true, .a (.one (.rf 22)))), (2, _), (4, _), (5, _), (8, _)], [(22, .row 5 ((expAt g a c x k).map cNd))]⟩) (fun (k : Nat) => 20480 - k) (0) ⟨⟨Nat.zero_le _, Nat.zero_le _⟩, Y⟩ (Le.sub0 U ⟨U, U, U, U, U, U, Y⟩ ⟨(by refine congrArg (fun r => some (R.row 5 r)) ?_; first | rfl | (simp [expN]; done) | (simp [expAt, startN, cNd]; done)), Y⟩) ?_
 rintro k ⟨hk, he⟩
 refine AW.seq ?_
 refine AW.sr ?_
 refine AWl.mv ?_
 refine AWl.mv ?_
 refine AWl.p (by exact R_lenm U (.no U) U (.tm U) (by exact .rf U) Try.underlying56) U ?_
 refine AWl.p (R_lt U (.no U) U (.tm U) (.tm U)) U ?_
 refine AWl.nil ?_
 refine AW.cond (.tm U) (fun h26 => ?_) (fun h26 => ?_)
 · skip
   try simp at h26
   obtain ⟨d, hd⟩ : ∃ ξ, (expAt g a c x k)[k]? = some ξ := ⟨_, List.getElem?_eq_getElem (by omega)⟩
   have hI := ExI.at g a c x k
   have hr := hI.rch d (List.mem_of_getElem? hd)
   have hrr := hr.rng ha hg hx
   have hll := hI.len ha hg hx
   have hkl := (List.getElem?_eq_some_iff.1 hd).1
   have hvd := valAt_ok hg hrr.1
   have hexp : expAt g a c x (k + 1) = expN g a c k d (arcsAt g d.node).length (expAt g a c x k) := by rw [expAt, hd]
   have hmo : ∀ j, (expAt g a c x k).length ≤ (expN g a c k d j (expAt g a c x k)).length := fun j => by (obtain ⟨r, h⟩ := expN_pre g a c k d (expAt g a c x k) ((arcsAt g d.node).take j); unfold expN; rw [h, List.length_append]; omega)
   have hal : (arcsAt g d.node).length ≤ 24 := Nat.le_trans (arcsL_len _ _) (by omega)
   refine AW.skip ?_
   refine AW.seq ?_
   refine AW.block ?_
   refine AW.seq ?_
   refine AW.drawn 8 (nthB [[], [], [], [1, 2], [1, 2, 3], [1, 2, 3, 4], [0, 1, 2, 3, 4, 5], [0, 1, 2, 3, 4, 5, 6]]) (by kernel_rfl) (by kernel_rfl) (by kernel_rfl) ?_
   refine DrawC.step U U U (Loc.of U fun σ' hs => (by exact R_load U (.no U) (hd_sup hs U) (.tm (hs.slots _ _ U)) ty39 U U)) ?_
   refine DrawC.step U U U (Loc.of U fun σ' hs => R_move U (.no U) (hd_sup hs U) (.tm (hs.slots _ _ U))) ?_
   refine DrawC.step U U U (Loc.of U fun σ' hs => R_move U (.no U) (hd_sup hs U) (.tm (hs.slots _ _ U))) ?_
   refine DrawC.step U U U (Loc.of U fun σ' hs => (by exact R_indexAddr_rf U (.no U) (hd_sup hs U) (.tm (hs.slots _ _ U)) (hs.res _ _ U) (.tm (hs.slots _ _ U)) Try.underlying56 ty61 (fun _ => ⟨by omega, (by exact map_get hd)⟩))) ?_
   refine DrawC.step U U U (Loc.of U fun σ' hs => (by exact R_fieldAddr_pr U (.no U) (hd_sup hs U) (.tm (hs.slots _ _ U)) fl61_0)) ?_
   refine DrawC.step U U U (Loc.of U fun σ' hs => (by exact R_load_pr U (.no U) (hd_sup hs U) (.tm (hs.slots _ _ U)) (hs.res _ _ U) (by exact map_get hd) ty3 U U)) ?_
   refine DrawC.step U U U (Loc.of U fun σ' hs => R_callz (FnT.fr (specl4From g d.node (by omega))) U (.no U) (hd_sup hs U) (.cons (.tm (hs.slots _ _ U)) (readA_sup hs U) (.cons (.tm (hs.slots _ _ U)) (readA_sup hs U) .nil))) ?_
   refine DrawC.step U U U (Loc.of U fun σ' hs => R_assign U (.no U) (hd_sup hs U) (.tm (hs.slots _ _ U))) ?_
   refine DrawC.fin U U ?_
   refine AWl.nil (AW.seq ?_)
   refine AW.le (σ' := ⟨_, [(2, _), (4, _), (5, _), (8, _), (9, _), (10, _), (11, _)], [(22, _)]⟩) (Le.sub0 U ⟨U, U, U, U, U, U, U, Y⟩ ⟨U, Y⟩) ?_
   refine AW.region ?_
   refine AWl.ac ?_
   refine AWl.nil (AW.block ?_)
   refine AW.loop1 (fun (i : Nat) => (i ≤ (arcsAt g d.node).length) ∧ True) (fun (i : Nat) => ⟨_, [(12, (true, .a (.one (.t (.v (.int .i64 (i : Nat))))))), (9, (true, .a (.one (.rf 22)))), (2, _), (4, _), (5, _), (8, _), (10, _), (11, _)], [(22, .row 5 ((expN g a c k d i (expAt g a c x k)).map cNd))]⟩) (fun (i : Nat) => (arcsAt g d.node).length - i) (0) ⟨Nat.zero_le _, Y⟩ (Le.sub0 U ⟨U, U, U, U, U, U, U, U, Y⟩ ⟨(by refine congrArg (fun r => some (R.row 5 r)) ?_; first | rfl | (simp [expN]; done) | (simp [expAt, startN, cNd]; done)), Y⟩) ?_
   rintro i ⟨hk1, he1⟩
   refine AW.seq ?_
   refine AW.sr ?_
   refine AWl.mv ?_
   refine AWl.mv ?_
   refine AWl.p (by exact R_lenm U (.no U) U (.tm U) (by exact .t) Try.underlying32) U ?_
   refine AWl.p (R_lt U (.no U) U (.tm U) (.tm U)) U ?_
   refine AWl.nil ?_
   refine AW.cond (.tm U) (fun h39 => ?_) (fun h39 => ?_)
   · skip
     try simp at h39
     obtain ⟨y, hy⟩ : ∃ ξ, (arcsAt g d.node)[i]? = some ξ := ⟨_, List.getElem?_eq_getElem (by omega)⟩
     have hym := List.mem_of_getElem? hy
     have hsy : ((arcsAt g d.node).map (·.step))[i]? = some y.step := by (rw [List.getElem?_map, hy]; rfl)
     have hI2 := hI.expN (k := k) hr i
     have hl2 := hI2.len ha hg hx
     have hdk : (expN g a c k d i (expAt g a c x k))[k]? = some d := by (rw [expN_get (by omega)]; exact hd)
     have hto := arc_mem hg hym
     have hvt := valAt_ok hg hto.2.2
     refine AW.skip ?_
     refine AW.seq ?_
     refine AW.block ?_
     refine AW.seq ?_
     refine AW.drawn 22 (nthB [[], [], [], [], [2, 3], [2, 3, 4], [2, 3, 4, 5], [], [], [7, 8], [7, 8, 9], [7, 8, 9, 10], [], [], [12, 13], [12, 13, 14], [0, 1, 2, 3, 4, 5, 6, 7, 8, 9, 10, 11, 12, 13, 14, 15], [0, 1, 2, 3, 4, 5, 6, 7, 8, 9, 10, 11, 12, 13, 14, 15, 16], [0, 1, 2, 3, 4, 5, 6, 7, 8, 9, 10, 11, 12, 13, 14, 15, 16, 17], [0, 1, 2, 3, 4, 5, 6, 7, 8, 9, 10, 11, 12, 13, 14, 15, 16, 17], [0, 1, 2, 3, 4, 5, 6, 7, 8, 9, 10, 11, 12, 13, 14, 15, 16, 17, 18], [0, 1, 2, 3, 4, 5, 6, 7, 8, 9, 10, 11, 12, 13, 14, 15, 16, 17, 18, 19, 20]]) (by kernel_rfl) (by kernel_rfl) (by kernel_rfl) ?_
     refine DrawC.step U U U (Loc.of U fun σ' hs => (by exact R_load U (.no U) (hd_sup hs U) (.tm (hs.slots _ _ U)) ty39 U U)) ?_
     refine DrawC.step U U U (Loc.of U fun σ' hs => (by exact R_load U (.no U) (hd_sup hs U) (.tm (hs.slots _ _ U)) ty41 U U)) ?_
     refine DrawC.step U U U (Loc.of U fun σ' hs => R_move U (.no U) (hd_sup hs U) (.tm (hs.slots _ _ U))) ?_
     refine DrawC.step U U U (Loc.of U fun σ' hs => R_move U (.no U) (hd_sup hs U) (.tm (hs.slots _ _ U))) ?_
     refine DrawC.step U U U (Loc.of U fun σ' hs => (by exact R_indexAddr_rf U (.no U) (hd_sup hs U) (.tm (hs.slots _ _ U)) (hs.res _ _ U) (.tm (hs.slots _ _ U)) Try.underlying56 ty61 (fun _ => ⟨by omega, (by exact map_get hdk)⟩))) ?_
     refine DrawC.step U U U (Loc.of U fun σ' hs => (by exact R_fieldAddr_pr U (.no U) (hd_sup hs U) (.tm (hs.slots _ _ U)) fl61_0)) ?_
     refine DrawC.step U U U (Loc.of U fun σ' hs => (by exact R_load_pr U (.no U) (hd_sup hs U) (.tm (hs.slots _ _ U)) (hs.res _ _ U) (by exact map_get hdk) ty3 U U)) ?_
     refine DrawC.step U U U (Loc.of U fun σ' hs => R_move U (.no U) (hd_sup hs U) (.tm (hs.slots _ _ U))) ?_
     refine DrawC.step U U U (Loc.of U fun σ' hs => R_move U (.no U) (hd_sup hs U) (.tm (hs.slots _ _ U))) ?_
     refine DrawC.step U U U (Loc.of U fun σ' hs => (by exact R_indexAddr_rf U (.no U) (hd_sup hs U) (.tm (hs.slots _ _ U)) (hs.res _ _ U) (.tm (hs.slots _ _ U)) Try.underlying56 ty61 (fun _ => ⟨by omega, (by exact map_get hdk)⟩))) ?_
     refine DrawC.step U U U (Loc.of U fun σ' hs => (by exact R_fieldAddr_pr U (.no U) (hd_sup hs U) (.tm (hs.slots _ _ U)) fl61_1)) ?_
     refine DrawC.step U U U (Loc.of U fun σ' hs => (by exact R_load_pr U (.no U) (hd_sup hs U) (.tm (hs.slots _ _ U)) (hs.res _ _ U) (by exact map_get hdk) ty3 U U)) ?_
     refine DrawC.step U U U (Loc.of U fun σ' hs => R_move U (.no U) (hd_sup hs U) (.tm (hs.slots _ _ U))) ?_
     refine DrawC.step U U U (Loc.of U fun σ' hs => R_move U (.no U) (hd_sup hs U) (.tm (hs.slots _ _ U))) ?_
     refine DrawC.step U U U (Loc.of U fun σ' hs => (by exact R_indexAddr U (.no U) (hd_sup hs U) (.tm (hs.slots _ _ U)) (.tm (hs.slots _ _ U)) Try.underlying32 ty59 (fun _ => ⟨by omega, (by exact map_get hsy)⟩))) ?_
     refine DrawC.step U U U (Loc.of U fun σ' hs => (by exact R_load U (.no U) (hd_sup hs U) (.tm (hs.slots _ _ U)) ty59 U U)) ?_
     refine DrawC.step U U U (Loc.of U fun σ' hs => R_callz (FnT.fr (specl18Next g a ha hg d.node hrr.1 d.set hrr.2 y hym)) U (.no U) (hd_sup hs U) (.cons (.tm (hs.slots _ _ U)) (readA_sup hs U) (.cons (.tm (hs.slots _ _ U)) (readA_sup hs U) (.cons (.tm (hs.slots _ _ U)) (readA_sup hs U) (.cons (.tm (hs.slots _ _ U)) (readA_sup hs U) (.cons (.tm (hs.slots _ _ U)) (readA_sup hs U) .nil)))))) ?_
     refine DrawC.step U U U (Loc.of U fun σ' hs => R_movet U (.no U) (hd_sup hs U) (hs.slots _ _ U) fun _ => rfl) ?_
     refine DrawC.step U U U (Loc.of U fun σ' hs => R_extract U (.no U) (hd_sup hs U) (hs.slots _ _ U) (fun _ => rfl) U) ?_
     refine DrawC.step U U U (Loc.of U fun σ' hs => R_extract U (.no U) (hd_sup hs U) (hs.slots _ _ U) (fun _ => rfl) U) ?_
     refine DrawC.step U U U (Loc.of U fun σ' hs => R_assign U (.no U) (hd_sup hs U) (.tm (hs.slots _ _ U))) ?_
     refine DrawC.step U U U (Loc.of U fun σ' hs => R_assign U (.no U) (hd_sup hs U) (.tm (hs.slots _ _ U))) ?_
     refine DrawC.fin U U ?_
     refine AWl.nil (AW.seq ?_)
     refine AW.seq ?_
     refine AW.le (σ' := ⟨_, [(2, _), (4, _), (5, _), (8, _), (9, _), (10, _), (11, _), (12, _), (13, _), (14, _)], [(22, _)]⟩) (Le.sub0 U ⟨U, U, U, U, U, U, U, U, U, U, Y⟩ ⟨U, Y⟩) ?_
     refine AW.drawn 21 (nthB [[], [0], [0, 1], [0, 1, 2], [0, 1, 2], [0, 1, 2, 4], [0, 1, 2], [0, 1, 2], [0, 1, 2, 6, 7], [0, 1, 2, 6, 7, 8], [0, 1, 2, 6, 7, 8, 9], [0, 1, 2, 4, 5, 6, 7, 8, 9, 10], [0, 1, 2, 4, 5, 6, 7, 8, 9, 10, 11], [0, 1, 2], [0, 1, 2, 13], [0, 1, 2], [0, 1, 2, 13, 14, 15], [0, 1, 2, 13, 14, 15, 16], [0, 1, 2, 3, 4, 5, 6, 7, 8, 9, 10, 11, 12, 13, 14, 15, 16, 17], [0, 1, 2, 3, 4, 5, 6, 7, 8, 9, 10, 11, 12, 13, 14, 15, 16, 17, 18], [0, 1, 2, 3, 4, 5, 6, 7, 8, 9, 10, 11, 12, 13, 14, 15, 16, 17, 18, 19]]) (by kernel_rfl) (by kernel_rfl) (by kernel_rfl) ?_
     refine DrawC.step U U U (Loc.of U fun σ' hs => R_move U (.no U) (hd_sup hs U) (.tm (hs.slots _ _ U))) ?_
     refine DrawC.step U U U (Loc.of U fun σ' hs => R_eq U (.no U) (hd_sup hs U) (.tm (hs.slots _ _ U)) (.const U)) ?_
     refine DrawC.step U U U (Loc.of U fun σ' hs => R_move U (.no U) (hd_sup hs U) (.tm (hs.slots _ _ U))) ?_
     refine DrawC.step U U U (Loc.of U fun σ' hs => R_move U (by exact .not1 U U (hs.slots _ _ U) (by rw [hs.n]; rfl)) (hd_sup hs U) (.tmp (hs.slots _ _ U) (by exact fun _ => rfl))) ?_
     refine DrawC.step U U U (Loc.of U fun σ' hs => (by exact R_fieldAddr U (by exact .not1 U U (hs.slots _ _ U) (by rw [hs.n]; rfl)) (hd_sup hs U) (.tmp (hs.slots _ _ U) (by exact fun _ => rfl)) fl39_0)) ?_
     refine DrawC.step U U U (Loc.of U fun σ' hs => (by exact R_load U (by exact .not1 U U (hs.slots _ _ U) (by rw [hs.n]; rfl)) (hd_sup hs U) (.tmp (hs.slots _ _ U) (by exact id)) ty22 U U)) ?_
     refine DrawC.step U U U (Loc.of U fun σ' hs => R_move U (by exact .not1 U U (hs.slots _ _ U) (by rw [hs.n]; rfl)) (hd_sup hs U) (.tmp (hs.slots _ _ U) (by exact fun _ => rfl))) ?_
     refine DrawC.step U U U (Loc.of U fun σ' hs => R_move U (by exact .not1 U U (hs.slots _ _ U) (by rw [hs.n]; rfl)) (hd_sup hs U) (.tmp (hs.slots _ _ U) (by exact fun _ => rfl))) ?_
     refine DrawC.step U U U (Loc.of U fun σ' hs => (by exact R_indexAddr_rf U (by exact .not1 U U (hs.slots _ _ U) (by rw [hs.n]; rfl)) (hd_sup hs U) (.tmp (hs.slots _ _ U) (by exact id)) (hs.res _ _ U) (.tmp (hs.slots _ _ U) (by exact id)) Try.underlying56 ty61 (fun hq => by (try simp at hq); exact ⟨by omega, (by exact map_get hdk)⟩))) ?_
     refine DrawC.step U U U (Loc.of U fun σ' hs => (by exact R_fieldAddr_pr U (by exact .not1 U U (hs.slots _ _ U) (by rw [hs.n]; rfl)) (hd_sup hs U) (.tmp (hs.slots _ _ U) (by exact id)) fl61_0)) ?_
     refine DrawC.step U U U (Loc.of U fun σ' hs => (by exact R_load_pr U (by exact .not1 U U (hs.slots _ _ U) (by rw [hs.n]; rfl)) (hd_sup hs U) (.tmp (hs.slots _ _ U) (by exact id)) (hs.res _ _ U) (by exact map_get hdk) ty3 U U)) ?_
     refine DrawC.step U U U (Loc.of U fun σ' hs => (by exact R_indexAddr U (by exact .not1 U U (hs.slots _ _ U) (by rw [hs.n]; rfl)) (hd_sup hs U) (.tmp (hs.slots _ _ U) (by exact id)) (.tmp (hs.slots _ _ U) (by exact id)) Try.underlying22 ty3 (fun hq => by (try simp at hq); exact ⟨by omega, (by exact map_get hvd.1)⟩))) ?_
     refine DrawC.step U U U (Loc.of U fun σ' hs => (by exact R_load U (by exact .not1 U U (hs.slots _ _ U) (by rw [hs.n]; rfl)) (hd_sup hs U) (.tmp (hs.slots _ _ U) (by exact id)) ty3 U U)) ?_
     refine DrawC.step U U U (Loc.of U fun σ' hs => (by exact R_fieldAddr U (by exact .not1 U U (hs.slots _ _ U) (by rw [hs.n]; rfl)) (hd_sup hs U) (.tmp (hs.slots _ _ U) (by exact fun _ => rfl)) fl39_0)) ?_
     refine DrawC.step U U U (Loc.of U fun σ' hs => (by exact R_load U (by exact .not1 U U (hs.slots _ _ U) (by rw [hs.n]; rfl)) (hd_sup hs U) (.tmp (hs.slots _ _ U) (by exact id)) ty22 U U)) ?_
     refine DrawC.step U U U (Loc.of U fun σ' hs => R_move U (by exact .not1 U U (hs.slots _ _ U) (by rw [hs.n]; rfl)) (hd_sup hs U) (.tmp (hs.slots _ _ U) (by exact fun _ => rfl))) ?_
     refine DrawC.step U U U (Loc.of U fun σ' hs => (by exact R_indexAddr U (by exact .not1 U U (hs.slots _ _ U) (by rw [hs.n]; rfl)) (hd_sup hs U) (.tmp (hs.slots _ _ U) (by exact id)) (.tmp (hs.slots _ _ U) (by exact id)) Try.underlying22 ty3 (fun hq => by (try simp at hq); exact ⟨by omega, (by exact map_get hvt.1)⟩))) ?_
     refine DrawC.step U U U (Loc.of U fun σ' hs => (by exact R_load U (by exact .not1 U U (hs.slots _ _ U) (by rw [hs.n]; rfl)) (hd_sup hs U) (.tmp (hs.slots _ _ U) (by exact id)) ty3 U U)) ?_
     refine DrawC.step U U U (Loc.of U fun σ' hs => R_callz (FnT.fr (specConditionHolds _ _ _)) U (by exact .not1 U U (hs.slots _ _ U) (by rw [hs.n]; rfl)) (hd_sup hs U) (.cons (.tmp (hs.slots _ _ U) (by exact id)) (readA_sup hs U) (.cons (.tmp (hs.slots _ _ U) (by exact id)) (readA_sup hs U) (.cons (.tmp (hs.slots _ _ U) (by exact id)) (readA_sup hs U) .nil)))) ?_
     refine DrawC.step U U U (Loc.of U fun σ' hs => R_not U (by exact .not1 U U (hs.slots _ _ U) (by rw [hs.n]; rfl)) (hd_sup hs U) (.tmp (hs.slots _ _ U) (by exact id))) ?_
     refine DrawC.step U U U (Loc.of U fun σ' hs => R_or U (.no U) (hd_sup hs U) (.tm (hs.slots _ _ U)) (.tmp (hs.slots _ _ U) (by exact id))) ?_
     refine DrawC.fin U U ?_
     refine AWl.nil ?_
     refine AW.cond (.tm U) (fun h82 => ?_) (fun h82 => ?_)
     · skip
       try simp at h82
       have hsk : skipN g a c d y = true := by (unfold skipN setOf; simp only [Bool.or_eq_true, decide_eq_true_eq]; rcases h82 with h | h; (exact .inl (by omega)); (exact .inr (by simpa using h)))
       refine AW.exit ?_
       refine AW.le (σ' := ⟨_, [(2, _), (4, _), (5, _), (8, _), (9, _), (10, _), (11, _), (12, _), (13, _), (14, _)], [(22, _)]⟩) (Le.sub0 U ⟨U, U, U, U, U, U, U, U, U, U, Y⟩ ⟨U, Y⟩) ?_
       refine AW.region ?_
       refine AWl.mv ?_
       refine AWl.p (R_add U (.no U) U (.tm U) (.const U) (fun _ => by omega)) U ?_
       refine AWl.av ?_
       refine AWl.nil ?_
       repeat (with_reducible refine BlockQ.nor ?_)
       refine Round1.next (i + 1) ⟨by omega, Y⟩ (by omega) (Le.sub0 rfl ⟨rfl, rfl, rfl, rfl, rfl, rfl, rfl, rfl, Y⟩ ⟨(by refine congrArg (fun r => some (R.row 5 r)) ?_; first | rfl | (rw [expN_at hy]; unfold addN; rw [hsk]; rfl) | (rw [expN_at hy]; unfold addN; rw [if_neg (by rw [hsk, hany]; simpa using h110)]; simp [chunk, cNd, setOf]; done) | (rw [expN_at hy]; unfold addN; rw [if_pos (by rw [hany]; simp_all)]; done) | (rw [hexp, show i = (arcsAt g d.node).length by first | omega | (simp at h39; omega)]; done)), Y⟩)
     · skip
       try simp at h82
       have hsk : skipN g a c d y = false := by (unfold skipN setOf; simp only [Bool.or_eq_false_iff, decide_eq_false_iff_not]; exact ⟨by have := h82.1; omega, by simpa using h82.2⟩)
       refine AW.skip ?_
       refine AW.seq ?_
       refine AW.le (σ' := ⟨_, [(2, _), (4, _), (5, _), (8, _), (9, _), (10, _), (11, _), (12, _), (13, _), (14, _)], [(22, _)]⟩) (Le.sub0 U ⟨U, U, U, U, U, U, U, U, U, U, Y⟩ ⟨U, Y⟩) ?_
       refine AW.region ?_
       refine AWl.ac ?_
       refine AWl.nil (AW.seq ?_)
       refine AW.sr ?_
       refine AWl.ac ?_
       refine AWl.nil (AW.block ?_)
       refine AW.loop2 (fun (j : Nat) (b : Bool) => (j ≤ (expN g a c k d i (expAt g a c x k)).length) ∧ b = ((expN g a c k d i (expAt g a c x k)).take j).any (sameN y.to (setOf g a d y))) (fun (j : Nat) (b : Bool) => ⟨_, [(16, (true, .a (.one (.t (.v (.int .i64 (j : Nat))))))), (15, (true, .a (.one (.t (.v (.bool b)))))), (9, (true, .a (.one (.rf 22)))), (2, _), (4, _), (5, _), (8, _), (10, _), (11, _), (12, _), (13, _), (14, _)], [(22, .row 5 ((expN g a c k d i (expAt g a c x k)).map cNd))]⟩) (fun (j : Nat) (b : Bool) => (expN g a c k d i (expAt g a c x k)).length - j) (0) (false) ⟨Nat.zero_le _, U⟩ (Le.sub0 U ⟨U, U, U, U, U, U, U, U, U, U, U, U, Y⟩ ⟨(by refine congrArg (fun r => some (R.row 5 r)) ?_; first | rfl | (simp [expN]; done) | (simp [expAt, startN, cNd]; done)), Y⟩) ?_
       rintro j b ⟨hk2, he2⟩
       refine AW.seq ?_
       refine AW.sr ?_
       refine AWl.mv ?_
       refine AWl.mv ?_
       refine AWl.p (by exact R_lenm U (.no U) U (.tm U) (by exact .rf U) Try.underlying56) U ?_
       refine AWl.p (R_lt U (.no U) U (.tm U) (.tm U)) U ?_
       refine AWl.mv ?_
       refine AWl.p (R_move U (by exact .yes1 U U U U) U (.tmp U (by exact fun _ => rfl))) U ?_
       refine AWl.p (R_not U (by exact .yes1 U U U U) U (.tmp U (by exact id))) U ?_
       refine AWl.p (R_and U (.no U) U (.tm U) (.tmp U (by exact id))) U ?_
       refine AWl.nil ?_
       refine AW.cond (.tm U) (fun h90 => ?_) (fun h90 => ?_)
       · skip
         try simp at h90
         have hjl : j < (expN g a c k d i (expAt g a c x k)).length := by (first | omega | (simp at h90; omega))
         obtain ⟨e, hej⟩ : ∃ ξ, (expN g a c k d i (expAt g a c x k))[j]? = some ξ := ⟨_, List.getElem?_eq_getElem hjl⟩
         have hbf : b = false := by (first | exact h90.2 | simp_all)
         refine AW.skip ?_
         refine AW.seq ?_
         refine AW.block ?_
         refine AW.le (σ' := ⟨_, [(2, _), (4, _), (5, _), (8, _), (9, _), (10, _), (11, _), (12, _), (13, _), (14, _), (15, _), (16, _)], [(22, _)]⟩) (Le.sub0 U ⟨U, U, U, U, U, U, U, U, U, U, U, U, Y⟩ ⟨U, Y⟩) ?_
         refine AW.region ?_
         refine AWl.mv ?_
         refine AWl.mv ?_
         refine AWl.p (by exact R_indexAddr_rf U (.no U) U (.tm U) U (.tm U) Try.underlying56 ty61 (fun _ => ⟨by omega, (by exact map_get hej)⟩)) U ?_
         refine AWl.p (by exact R_fieldAddr_pr U (.no U) U (.tm U) fl61_0) U ?_
         refine AWl.p (by exact R_load_pr U (.no U) U (.tm U) U (by exact map_get hej) ty3 U U) U ?_
         refine AWl.mv ?_
         refine AWl.p (R_eq U (.no U) U (.tm U) (.tm U)) U ?_
         refine AWl.mv ?_
         refine AWl.p (R_move U (by exact .yes1 U U U U) U (.tmp U (by exact fun _ => rfl))) U ?_
         refine AWl.p (R_move U (by exact .yes1 U U U U) U (.tmp U (by exact fun _ => rfl))) U ?_
         refine AWl.p (by exact R_indexAddr_rf U (by exact .yes1 U U U U) U (.tmp U (by exact id)) U (.tmp U (by exact id)) Try.underlying56 ty61 (fun hq => by (try simp at hq); exact ⟨by omega, (by exact map_get hej)⟩)) U ?_
         refine AWl.p (by exact R_fieldAddr_pr U (by exact .yes1 U U U U) U (.tmp U (by exact id)) fl61_1) U ?_
         refine AWl.p (by exact R_load_pr U (by exact .yes1 U U U U) U (.tmp U (by exact id)) U (by exact map_get hej) ty3 U U) U ?_
         refine AWl.p (R_move U (by exact .yes1 U U U U) U (.tmp U (by exact fun _ => rfl))) U ?_
         refine AWl.p (R_eq U (by exact .yes1 U U U U) U (.tmp U (by exact id)) (.tmp U (by exact id))) U ?_
         refine AWl.p (R_and U (.no U) U (.tm U) (.tmp U (by exact id))) U ?_
         refine AWl.av ?_
         refine AWl.nil ?_
         refine AW.le (σ' := ⟨_, [(2, _), (4, _), (5, _), (8, _), (9, _), (10, _), (11, _), (12, _), (13, _), (14, _), (15, _), (16, _)], [(22, _)]⟩) (Le.sub0 U ⟨U, U, U, U, U, U, U, U, U, U, U, U, Y⟩ ⟨U, Y⟩) ?_
         refine AW.region ?_
         refine AWl.mv ?_
         refine AWl.p (R_add U (.no U) U (.tm U) (.const U) (fun _ => by omega)) U ?_
         refine AWl.av ?_
         refine AWl.nil ?_
         repeat (with_reducible refine BlockQ.nor ?_)
         refine Round2.next (j + 1) ((decide (e.node = y.to) && decide ((e.set : Int) = ((aftS a d.set (valAt g d.node) y.letter : Nat) : Int)))) ⟨by omega, (by rw [any_take_at hej, ← he2, hbf, Bool.false_or, same_eq]; rfl)⟩ (by omega) (Le.sub0 rfl ⟨rfl, rfl, rfl, rfl, rfl, rfl, rfl, rfl, rfl, rfl, rfl, rfl, Y⟩ ⟨(by refine congrArg (fun r => some (R.row 5 r)) ?_; first | rfl | (rw [expN_at hy]; unfold addN; rw [hsk]; rfl) | (rw [expN_at hy]; unfold addN; rw [if_neg (by rw [hsk, hany]; simpa using h110)]; simp [chunk, cNd, setOf]; done) | (rw [expN_at hy]; unfold addN; rw [if_pos (by rw [hany]; simp_all)]; done) | (rw [hexp, show i = (arcsAt g d.node).length by first | omega | (simp at h39; omega)]; done)), Y⟩)
       · skip
         try simp at h90
         have hany : (expN g a c k d i (expAt g a c x k)).any (sameN y.to (setOf g a d y)) = b := by (by_cases hjl : j < (expN g a c k d i (expAt g a c x k)).length; (have hbt : b = true := by (first | (simp at h90; exact h90 hjl) | simp_all)); (rw [hbt]; rw [hbt] at he2; obtain ⟨z, hz1, hz2⟩ := List.any_eq_true.1 he2.symm; exact List.any_eq_true.2 ⟨z, List.mem_of_mem_take hz1, hz2⟩); (rw [List.take_of_length_le (by omega)] at he2; exact he2.symm))
         refine AW.exit ?_
         refine AW.seq ?_
         refine AW.le (σ' := ⟨_, [(2, _), (4, _), (5, _), (8, _), (9, _), (10, _), (11, _), (12, _), (13, _), (14, _), (15, _), (16, _)], [(22, _)]⟩) (Le.sub0 U ⟨U, U, U, U, U, U, U, U, U, U, U, U, Y⟩ ⟨U, Y⟩) ?_
         refine AW.region ?_
         refine AWl.mv ?_
         refine AWl.p (R_not U (.no U) U (.tm U)) U ?_
         refine AWl.nil ?_
         refine AW.cond (.tm U) (fun h110 => ?_) (fun h110 => ?_)
         · skip
           try simp at h110
           refine AW.region ?_
           refine AWl.mv ?_
           refine AWl.mv ?_
           refine AWl.mv ?_
           refine AWl.mv ?_
           refine AWl.mv ?_
           refine AWl.mv ?_
           refine AWl.p (by exact R_indexAddr U (.no U) U (.tm U) (.tm U) Try.underlying32 ty59 (fun _ => ⟨by omega, (by exact map_get hsy)⟩)) U ?_
           refine AWl.p (by exact R_load U (.no U) U (.tm U) ty59 U U) U ?_
           refine AWl.p (R_build (ps := [(0, .tmp 112), (1, .tmp 113), (2, .tmp 114), (3, .tmp 118)]) U U U in61 U U st61 (.cons (.tm U) U U fp61_0 (.cons (.tm U) U U fp61_1 (.cons (.tm U) U U fp61_2 (.cons (.tm U) U U fp61_3 .nil)))) U) U ?_
           refine AWl.p (R_listz (xs := [.tmp 119]) (rows := [cNd ⟨y.to, setOf g a d y, (k : Int), y.step⟩]) U U U (.cons (.tm U) U U .nil) Try.underlying56 in61 U U (U)) U ?_
           refine AWl.chgput (R_append U U U (.tm U) U (.tm U) (by exact .t) (by rfl) Try.underlying56 in61 U (by (simp [chunk]; omega)) (by (unfold maxLen; simp [chunk]; omega))) U ?_
           refine AWl.le (σ' := ⟨_, [(2, _), (4, _), (5, _), (8, _), (9, _), (10, _), (11, _), (12, _), (13, _), (14, _), (15, _), (16, _), (110, _), (121, _)], [(22, _)]⟩) (Le.sub0 U ⟨U, U, U, U, U, U, U, U, U, U, U, U, U, U, Y⟩ ⟨U, Y⟩) ?_
           refine AWl.av ?_
           refine AWl.nil (AW.region ?_)
           refine AWl.mv ?_
           refine AWl.p (R_add U (.no U) U (.tm U) (.const U) (fun _ => by omega)) U ?_
           refine AWl.av ?_
           refine AWl.nil ?_
           repeat (with_reducible refine BlockQ.nor ?_)
           refine Round1.next (i + 1) ⟨by omega, Y⟩ (by omega) (Le.sub0 rfl ⟨rfl, rfl, rfl, rfl, rfl, rfl, rfl, rfl, Y⟩ ⟨(by refine congrArg (fun r => some (R.row 5 r)) ?_; first | rfl | (rw [expN_at hy]; unfold addN; rw [hsk]; rfl) | (rw [expN_at hy]; unfold addN; rw [if_neg (by rw [hsk, hany]; simpa using h110)]; simp [chunk, cNd, setOf]; done) | (rw [expN_at hy]; unfold addN; rw [if_pos (by rw [hany]; simp_all)]; done) | (rw [hexp, show i = (arcsAt g d.node).length by first | omega | (simp at h39; omega)]; done)), Y⟩)
         · skip
           try simp at h110
           refine AW.skip ?_
           refine AW.region ?_
           refine AWl.mv ?_
           refine AWl.p (R_add U (.no U) U (.tm U) (.const U) (fun _ => by omega)) U ?_
           refine AWl.av ?_
           refine AWl.nil ?_
           repeat (with_reducible refine BlockQ.nor ?_)
           refine Round1.next (i + 1) ⟨by omega, Y⟩ (by omega) (Le.sub0 rfl ⟨rfl, rfl, rfl, rfl, rfl, rfl, rfl, rfl, Y⟩ ⟨(by refine congrArg (fun r => some (R.row 5 r)) ?_; first | rfl | (rw [expN_at hy]; unfold addN; rw [hsk]; rfl) | (rw [expN_at hy]; unfold addN; rw [if_neg (by rw [hsk, hany]; simpa using h110)]; simp [chunk, cNd, setOf]; done) | (rw [expN_at hy]; unfold addN; rw [if_pos (by rw [hany]; simp_all)]; done) | (rw [hexp, show i = (arcsAt g d.node).length by first | omega | (simp at h39; omega)]; done)), Y⟩)
   · skip
     try simp at h39
     refine AW.exit ?_
     refine AW.region ?_
     refine AWl.mv ?_
     refine AWl.p (R_add U (.no U) U (.tm U) (.const U) (fun _ => by omega)) U ?_
     refine AWl.av ?_
     refine AWl.nil ?_
     repeat (with_reducible refine BlockQ.nor ?_)
     refine Round1.next (k + 1) ⟨⟨by rw [hexp]; have := hmo (arcsAt g d.node).length; omega, by omega⟩, Y⟩ (by omega) (Le.sub0 rfl ⟨rfl, rfl, rfl, rfl, rfl, rfl, Y⟩ ⟨(by refine congrArg (fun r => some (R.row 5 r)) ?_; first | rfl | (rw [expN_at hy]; unfold addN; rw [hsk]; rfl) | (rw [expN_at hy]; unfold addN; rw [if_neg (by rw [hsk, hany]; simpa using h110)]; simp [chunk, cNd, setOf]; done) | (rw [expN_at hy]; unfold addN; rw [if_pos (by rw [hany]; simp_all)]; done) | (rw [hexp, show i = (arcsAt g d.node).length by first | omega | (simp at h39; omega)]; done)), Y⟩)
 · skip
   try simp at h26
   refine AW.exit ?_
   refine AW.sr ?_
   refine AWl.mv ?_
   refine AWl.av ?_
   refine AWl.nil (AW.ret ?_)
   refine Res.one U (.tmp U .nil) U ?_
   rw [expL_eq (k := k) hk.2 (by omega)]; rfl
end Go.Proofs.Ytamnfkfjfelbbaa
