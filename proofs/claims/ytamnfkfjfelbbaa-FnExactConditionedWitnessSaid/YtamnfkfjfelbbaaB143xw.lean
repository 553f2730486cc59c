import Derived.Test.YtamnfkfjfelbbaaB142xw
import Derived.Test.YtamnfkfjfelbbaaB71xw
import Derived.Test.YtamnfkfjfelbbaaKntxw
import Derived.Test.YtamnfkfjfelbbaaDraw2xw
set_option linter.unusedVariables false
set_option linter.unusedSimpArgs false
set_option maxHeartbeats 1000000
set_option maxRecDepth 100000
namespace Go.Q
open Go.D
def ctrT (g : TGraph) (a : TAutomaton) (y : Int) (l : List (List TArc)) (b : Nat) : List T := cGraph g ++ (cAutomaton a ++ [.v (.int .i64 y), .sl 1 (l.map cArcS), .v (.map (some b))])
def plcV (u : Int) (m : Nat) (r : Int) : V0 := .agg [.v (.int .i64 u), .v (.int .i64 (m : Int)), .v (.int .i64 r)]
def knF (g : TGraph) (a : TAutomaton) (c y u m r : Int) : Int := cwC g a c y r.toNat u m.toNat
theorem knF_at (g : TGraph) (a : TAutomaton) (c y u : Int) (m r : Nat) : knF g a c y u m r = cwC g a c y r u m := rfl
theorem arcsCV_at {g : TGraph} {c : Int} {x : Int} (hx : 0 ≤ x ∧ x < g.Values.length) : (arcsCV g c)[x.toNat]? = some (arcsC g c x) := by
 unfold arcsCV
 rw [range_get _ (by omega), Int.toNat_of_nonneg hx.1]
theorem pick_mem {g : TGraph} {a : TAutomaton} {c y : Int} {r : Nat} {u : Int} {m : Nat} {z : TArc} (h : pickC g a c y r u m = some z) : z ∈ arcsC g c u ∧ 0 < cwC g a c y r z.to (aftS a m (valAt g u) z.letter) := ⟨List.mem_of_find?_eq_some h, by simpa using List.find?_some h⟩
theorem wfI_of {x : Int} (h0 : 0 ≤ x) (h1 : x ≤ 1000000000) : wfI x := ⟨by omega, by omega⟩
end Go.Q
namespace Go.Proofs.Ytamnfkfjfelbbaa
open Go.RowKit Go.Q Go.D Go.WideMaps Go.ChangeMaps
theorem mapLaidOut : laidOutB Try.prog = true := by kernel_rfl
theorem mapLaw : KeyLaw Try.prog 78 := deep_law_laid mapLaidOut (m := 2) (by omega) (of_decide_eq_true (by kernel_rfl)) (by kernel_rfl) (by rw [Try.underlying78])
theorem mapKeyT : Try.prog.keyType 78 = true := by kernel_rfl
theorem mapKey3 (x y z : Int) (h : wfI x ∧ wfI y ∧ wfI z) : ∃ l, keyOf Try.prog 78 (.agg #[.int .i64 x, .int .i64 y, .int .i64 z]) = some l := by
 obtain ⟨hx, hy, hz⟩ := h
 have e1 : IntKind.i64.min = -9223372036854775808 := by decide
 have e2 : IntKind.i64.max = 9223372036854775807 := by decide
 have hw : ∀ q : Int, wfI q → (Lit.int .i64 q).wf = true := fun q hq => by
  unfold wfI at hq
  simp only [Lit.wf, e1, e2, Bool.and_eq_true, decide_eq_true_eq]
  exact hq
 have h0 : 0 < Try.prog.types.size := of_decide_eq_true (by kernel_rfl)
 obtain ⟨d, hd⟩ : ∃ d, Try.prog.types.size = d + 1 := ⟨Try.prog.types.size - 1, by omega⟩
 have hf : (Value.agg #[.int .i64 x, .int .i64 y, .int .i64 z]).formed Try.prog 78 = true := by
  simp only [Value.formed, Try.underlying78]
  kernel_rfl
 have hc : Try.prog.cellsOf 78 = 3 := by kernel_rfl
 have hc3 : Try.prog.cellsOf 3 = 1 := by kernel_rfl
 have hl : ∀ q : Int, wfI q → Try.prog.keyLits (d + 1) 3 [.int .i64 q] = some [.int .i64 q] := fun q hq => by
  unfold Program.keyLits
  rw [Try.underlying3]
  simp [hw q hq]
 refine Option.isSome_iff_exists.1 ?_
 unfold keyOf
 rw [Try.underlying78]
 simp only [mapKeyT, hf, hd, Value.cells, Bool.and_self, if_true, Option.isSome_map]
 unfold Program.keyLits
 rw [Try.underlying78]
 simp [hc, hc3, hl x hx, hl y hy, hl z hz]
theorem mapTy : MapTy Try.prog 73 78 3 where
 map := Try.underlying73
 law := mapLaw
 zero := fun w => by kernel_rfl
 key := mapKey3
theorem implcounternext (g : TGraph) (a : TAutomaton) (ha : validA a = true) (hg : validG g = true) (y : Int) (l : List (List TArc)) (b : Nat) (u : Int) (hu : 0 ≤ u ∧ u < g.Values.length) (m : Nat) (hm : m < 2 ^ a.Accept.length) (r : Nat) (hr : r ≤ 1000) (z : TArc) (hz : z ∈ arcsAt g u) : FnT Try.prog 66 [.one (.ad (ctrT g a y l b)), plcV u m (r + 1 : Nat), .agg (cArc z)] (.a (plcV z.to (aftS a m (valAt g u) z.letter) r)) := by
 refine FnT.walk Try.func66 U (by kernel_rfl) Try.ntmps66 U fun hlen w0 => ?_
 try simp [cPair, cToken, cExpr, cEdge, cGraph, cStep, cWalk, cChange, cBatch, cHistory, cPositions, cAutomaton, cProductStep, cPathAtom, cConjunction, cView, cDelta, cRegistered, cRegistry] at hlen
 have hv := valAt_ok hg hu
 have hzo := arc_mem hg hz
 have hP := pow_le_12 ha
 refine AW.sr ?_
 refine AWl.p (R_boxz U U U (.tm U) (ts := _) (by rfl)) U ?_
 refine AWl.p (R_boxz U U U (.tm U) (ts := _) (by rfl)) U ?_
 refine AWl.add (R_alloc 6 U U U in78 U U U) U ?_
 refine AWl.nil (AW.seq ?_)
 refine AW.drawn 24 (nthB [[], [0], [], [2], [2, 3], [2, 3, 4], [], [6], [], [8], [8, 9], [8, 9, 10], [8, 9, 10, 11], [], [13], [8, 9, 10, 11, 12, 13, 14], [8, 9, 10, 11, 12, 13, 14, 15], [], [17], [2, 3, 4, 5, 6, 7, 8, 9, 10, 11, 12, 13, 14, 15, 16, 17, 18], [], [20], [20, 21], [0, 1, 2, 3, 4, 5, 6, 7, 8, 9, 10, 11, 12, 13, 14, 15, 16, 17, 18, 19, 20, 21, 22]]) (by kernel_rfl) (by kernel_rfl) (by kernel_rfl) ?_
 refine DrawC.step U U U (Loc.of U fun σ' hs => (by exact R_fieldAddr U (.no U) (hd_sup hs U) (.tm (hs.slots _ _ U)) fl100_2)) ?_
 refine DrawC.step U U U (Loc.of U fun σ' hs => (by exact R_load U (.no U) (hd_sup hs U) (.tm (hs.slots _ _ U)) ty3 U U)) ?_
 refine DrawC.step U U U (Loc.of U fun σ' hs => R_move U (.no U) (hd_sup hs U) (.tm (hs.slots _ _ U))) ?_
 refine DrawC.step U U U (Loc.of U fun σ' hs => (by exact R_nilCheck U (.no U) (hd_sup hs U) (.tm (hs.slots _ _ U)))) ?_
 refine DrawC.step U U U (Loc.of U fun σ' hs => (by exact R_fieldAddr U (.no U) (hd_sup hs U) (.tm (hs.slots _ _ U)) fl75_1)) ?_
 refine DrawC.step U U U (Loc.of U fun σ' hs => (by exact R_load U (.no U) (hd_sup hs U) (.tm (hs.slots _ _ U)) ty41 U U)) ?_
 refine DrawC.step U U U (Loc.of U fun σ' hs => (by exact R_fieldAddr U (.no U) (hd_sup hs U) (.tm (hs.slots _ _ U)) fl78_1)) ?_
 refine DrawC.step U U U (Loc.of U fun σ' hs => (by exact R_load U (.no U) (hd_sup hs U) (.tm (hs.slots _ _ U)) ty3 U U)) ?_
 refine DrawC.step U U U (Loc.of U fun σ' hs => R_move U (.no U) (hd_sup hs U) (.tm (hs.slots _ _ U))) ?_
 refine DrawC.step U U U (Loc.of U fun σ' hs => (by exact R_nilCheck U (.no U) (hd_sup hs U) (.tm (hs.slots _ _ U)))) ?_
 refine DrawC.step U U U (Loc.of U fun σ' hs => (by exact R_fieldAddr U (.no U) (hd_sup hs U) (.tm (hs.slots _ _ U)) fl75_0)) ?_
 refine DrawC.step U U U (Loc.of U fun σ' hs => (by exact R_fieldAddr U (.no U) (hd_sup hs U) (.tm (hs.slots _ _ U)) fl39_0)) ?_
 refine DrawC.step U U U (Loc.of U fun σ' hs => (by exact R_load U (.no U) (hd_sup hs U) (.tm (hs.slots _ _ U)) ty22 U U)) ?_
 refine DrawC.step U U U (Loc.of U fun σ' hs => (by exact R_fieldAddr U (.no U) (hd_sup hs U) (.tm (hs.slots _ _ U)) fl78_0)) ?_
 refine DrawC.step U U U (Loc.of U fun σ' hs => (by exact R_load U (.no U) (hd_sup hs U) (.tm (hs.slots _ _ U)) ty3 U U)) ?_
 refine DrawC.step U U U (Loc.of U fun σ' hs => (by exact R_indexAddr U (.no U) (hd_sup hs U) (.tm (hs.slots _ _ U)) (.tm (hs.slots _ _ U)) Try.underlying22 ty3 (fun _ => ⟨by omega, (by exact map_get hv.1)⟩))) ?_
 refine DrawC.step U U U (Loc.of U fun σ' hs => (by exact R_load U (.no U) (hd_sup hs U) (.tm (hs.slots _ _ U)) ty3 U U)) ?_
 refine DrawC.step U U U (Loc.of U fun σ' hs => (by exact R_fieldAddr U (.no U) (hd_sup hs U) (.tm (hs.slots _ _ U)) fl100_1)) ?_
 refine DrawC.step U U U (Loc.of U fun σ' hs => (by exact R_load U (.no U) (hd_sup hs U) (.tm (hs.slots _ _ U)) ty3 U U)) ?_
 refine DrawC.step U U U (Loc.of U fun σ' hs => R_callz (FnT.fr (implafter a ha m hm (valAt g u) z.letter hv.2 ⟨hzo.1, by omega⟩)) U (.no U) (hd_sup hs U) (.cons (.tm (hs.slots _ _ U)) (readA_sup hs U) (.cons (.tm (hs.slots _ _ U)) (readA_sup hs U) (.cons (.tm (hs.slots _ _ U)) (readA_sup hs U) (.cons (.tm (hs.slots _ _ U)) (readA_sup hs U) .nil))))) ?_
 refine DrawC.step U U U (Loc.of U fun σ' hs => (by exact R_fieldAddr U (.no U) (hd_sup hs U) (.tm (hs.slots _ _ U)) fl78_2)) ?_
 refine DrawC.step U U U (Loc.of U fun σ' hs => (by exact R_load U (.no U) (hd_sup hs U) (.tm (hs.slots _ _ U)) ty3 U U)) ?_
 refine DrawC.step U U U (Loc.of U fun σ' hs => R_sub U (.no U) (hd_sup hs U) (.tm (hs.slots _ _ U)) (.const U) (fun _ => by omega)) ?_
 refine DrawC.step U U U (Loc.of U fun σ' hs => R_build (ps := [(0, .tmp 8), (1, .tmp 26), (2, .tmp 29)]) U U (hd_sup hs U) in78 U U st78 (.cons (.tm (hs.slots _ _ U)) U U fp78_0 (.cons (.tm (hs.slots _ _ U)) U U fp78_1 (.cons (.tm (hs.slots _ _ U)) U U fp78_2 .nil))) U) ?_
 refine DrawC.fin U U ?_
 refine AWl.chgb (R_store_pb U U U (.tm U) (.tm U) U ty78 U U U (by kernel_rfl) U) ?_
 refine AWl.nil (AW.ret ?_)
 refine Res.one U (.cell U U ty78 U U .nil) U ?_
 refine congrArg (fun x : Int => [V0.agg [.v (.int .i64 z.to), .v (.int .i64 ((aftS a m (valAt g u) z.letter : Nat) : Int)), .v (.int .i64 x)]]) (by omega)
theorem implcounterstart (g : TGraph) (a : TAutomaton) (ha : validA a = true) (y : Int) (l : List (List TArc)) (b : Nat) (x n : Int) : FnT Try.prog 36 [.one (.ad (ctrT g a y l b)), .one (.v (.int .i64 x)), .one (.v (.int .i64 n))] (.a (plcV x (2 ^ a.Start.toNat) n)) := by
 refine FnT.walk Try.func36 U (by kernel_rfl) Try.ntmps36 U fun hlen w0 => ?_
 try simp [cPair, cToken, cExpr, cEdge, cGraph, cStep, cWalk, cChange, cBatch, cHistory, cPositions, cAutomaton, cProductStep, cPathAtom, cConjunction, cView, cDelta, cRegistered, cRegistry] at hlen
 have hA := validA_len ha
 refine AW.sr ?_
 refine AWl.add (R_alloc 6 U U U in78 U U U) U ?_
 refine AWl.nil (AW.sr ?_)
 refine AWl.mv ?_
 refine AWl.mv ?_
 refine AWl.p (by exact R_nilCheck U (.no U) U (.tm U)) U ?_
 refine AWl.p (by exact R_fieldAddr U (.no U) U (.tm U) fl75_1) U ?_
 refine AWl.p (by exact R_fieldAddr U (.no U) U (.tm U) fl41_0) U ?_
 refine AWl.p (by exact R_load U (.no U) U (.tm U) ty3 U U) U ?_
 refine AWl.p (R_shlN U (.no U) U (.const U) (.tm U) (fun _ => by omega)) U ?_
 refine AWl.mv ?_
 refine AWl.p (R_build (ps := [(0, .tmp 7), (1, .tmp 13), (2, .tmp 14)]) U U U in78 U U st78 (.cons (.tm U) U U fp78_0 (.cons (.tm U) U U fp78_1 (.cons (.tm U) U U fp78_2 .nil))) U) U ?_
 refine AWl.chgb (R_store_pb U U U (.tm U) (.tm U) U ty78 U U U (by kernel_rfl) U) ?_
 refine AWl.nil (AW.ret ?_)
 refine Res.one U (.cell U U ty78 U U .nil) U ?_
 refine congrArg (fun q : Int => [V0.agg [.v (.int .i64 x), .v (.int .i64 q), .v (.int .i64 n)]]) (by simp)
theorem implcountercount (g : TGraph) (a : TAutomaton) (ha : validA a = true) (hg : validG g = true) (c y : Int) (b : Nat) : ∀ (r : Nat), r ≤ 1000 → ∀ (u : Int), 0 ≤ u ∧ u < g.Values.length → ∀ (m : Nat), m < 2 ^ a.Accept.length → FnK Try.prog 67 b (knF g a c y) [.one (.ad (ctrT g a y (arcsCV g c) b)), plcV u m r] (.a (.one (.v (.int .i64 (cwC g a c y r u m))))) := by
 intro r
 induction r using Nat.strongRecOn with
 | ind r ih =>
 intro hr u hu m hm
 refine FnK.walk Try.func67 rfl (by kernel_rfl) Try.ntmps67 rfl rfl fun w0 => ?_
 have hv := valAt_ok hg hu
 have hP := pow_le_12 ha
 have hG := validG_len hg
 have hwf : wfI u ∧ wfI (m : Int) ∧ wfI (r : Int) := ⟨wfI_of hu.1 (by omega), wfI_of (by omega) (by omega), wfI_of (by omega) (by omega)⟩
 have hal := arcsC_len hg c u
 refine AW.sr ?_
 refine AWl.p (R_boxz U U U (.tm U) (ts := _) (by rfl)) U ?_
 refine AWl.ac ?_
 refine AWl.nil (AW.seq ?_)
 refine AW.sr ?_
 refine AWl.p (by exact R_fieldAddr U (.no U) U (.tm U) fl78_1) U ?_
 refine AWl.p (by exact R_load U (.no U) U (.tm U) ty3 U U) U ?_
 refine AWl.p (R_eq U (.no U) U (.tm U) (.const U)) U ?_
 refine AWl.nil ?_
 refine AW.cond (.tm U) (fun h12 => ?_) (fun h12 => ?_)
 · skip
   try simp at h12
   refine AW.sr ?_
   refine AWl.ac ?_
   refine AWl.nil (AW.ret ?_)
   refine KRes.mk rfl ?_
   refine Res.v U U ?_
   (have hm0 : m = 0 := by (first | omega | (simp at h12; omega))); subst hm0; cases r <;> simp [cwC]
 · skip
   try simp at h12
   have hm0 : m ≠ 0 := by (first | omega | (simp at h12; omega))
   refine AW.skip ?_
   refine AW.seq ?_
   refine AW.sr ?_
   refine AWl.p (by exact R_fieldAddr U (.no U) U (.tm U) fl78_2) U ?_
   refine AWl.p (by exact R_load U (.no U) U (.tm U) ty3 U U) U ?_
   refine AWl.p (R_eq U (.no U) U (.tm U) (.const U)) U ?_
   refine AWl.nil ?_
   refine AW.cond (.tm U) (fun h15 => ?_) (fun h15 => ?_)
   · skip
     try simp at h15
     refine AW.seq ?_
     refine AW.seq ?_
     refine AW.le (σ' := ⟨_, [(0, _), (1, _), (3, _), (4, _)], [(888888, _)]⟩) (Le.sub0 U ⟨U, U, U, U, Y⟩ ⟨U, Y⟩) ?_
     refine AW.drawn 25 (nthB [[], [0], [], [2], [2, 3], [2, 3, 4], [0, 1, 2, 3, 4, 5], [0, 1, 2, 3, 4, 5, 6], [0, 1, 2, 3, 4, 5, 6, 7], [0, 1, 2, 3, 4, 5, 6, 7, 8], [0, 1, 2, 3, 4, 5, 6, 7, 8, 9], [0, 1, 2, 3, 4, 5, 6, 7, 8, 9, 10], [0, 1, 2, 3, 4, 5, 6, 7], [0, 1, 2, 3, 4, 5, 6, 7, 12], [0, 1, 2, 3, 4, 5, 6, 7], [0, 1, 2, 3, 4, 5, 6, 7, 14], [0, 1, 2, 3, 4, 5, 6, 7, 14, 15], [0, 1, 2, 3, 4, 5, 6, 7, 14, 15, 16], [0, 1, 2, 3, 4, 5, 6, 7, 14, 15, 16, 17], [0, 1, 2, 3, 4, 5, 6, 7], [0, 1, 2, 3, 4, 5, 6, 7, 19], [0, 1, 2, 3, 4, 5, 6, 7, 14, 15, 16, 17, 18, 19, 20], [0, 1, 2, 3, 4, 5, 6, 7, 14, 15, 16, 17, 18, 19, 20, 21], [0, 1, 2, 3, 4, 5, 6, 7, 8, 9, 10, 11, 12, 13, 14, 15, 16, 17, 18, 19, 20, 21, 22], [0, 1, 2, 3, 4, 5, 6, 7, 8, 9, 10, 11, 12, 13, 14, 15, 16, 17, 18, 19, 20, 21, 22, 23]]) (by kernel_rfl) (by kernel_rfl) (by kernel_rfl) ?_
     refine DrawC.step U U U (Loc.of U fun σ' hs => (by exact R_fieldAddr U (.no U) (hd_sup hs U) (.tm (hs.slots _ _ U)) fl78_0)) ?_
     refine DrawC.step U U U (Loc.of U fun σ' hs => (by exact R_load U (.no U) (hd_sup hs U) (.tm (hs.slots _ _ U)) ty3 U U)) ?_
     refine DrawC.step U U U (Loc.of U fun σ' hs => R_move U (.no U) (hd_sup hs U) (.tm (hs.slots _ _ U))) ?_
     refine DrawC.step U U U (Loc.of U fun σ' hs => (by exact R_nilCheck U (.no U) (hd_sup hs U) (.tm (hs.slots _ _ U)))) ?_
     refine DrawC.step U U U (Loc.of U fun σ' hs => (by exact R_fieldAddr U (.no U) (hd_sup hs U) (.tm (hs.slots _ _ U)) fl75_2)) ?_
     refine DrawC.step U U U (Loc.of U fun σ' hs => (by exact R_load U (.no U) (hd_sup hs U) (.tm (hs.slots _ _ U)) ty3 U U)) ?_
     refine DrawC.step U U U (Loc.of U fun σ' hs => R_eq U (.no U) (hd_sup hs U) (.tm (hs.slots _ _ U)) (.tm (hs.slots _ _ U))) ?_
     refine DrawC.step U U U (Loc.of U fun σ' hs => R_move U (.no U) (hd_sup hs U) (.tm (hs.slots _ _ U))) ?_
     refine DrawC.step U U U (Loc.of U fun σ' hs => R_move U (by exact .yes1 U U (hs.slots _ _ U) (by rw [hs.n]; rfl)) (hd_sup hs U) (.tmp (hs.slots _ _ U) (by exact fun _ => rfl))) ?_
     refine DrawC.step U U U (Loc.of U fun σ' hs => (by exact R_nilCheck U (by exact .yes1 U U (hs.slots _ _ U) (by rw [hs.n]; rfl)) (hd_sup hs U) (.tmp (hs.slots _ _ U) (by exact id)))) ?_
     refine DrawC.step U U U (Loc.of U fun σ' hs => (by exact R_fieldAddr U (by exact .yes1 U U (hs.slots _ _ U) (by rw [hs.n]; rfl)) (hd_sup hs U) (.tmp (hs.slots _ _ U) (by exact id)) fl75_1)) ?_
     refine DrawC.step U U U (Loc.of U fun σ' hs => (by exact R_load U (by exact .yes1 U U (hs.slots _ _ U) (by rw [hs.n]; rfl)) (hd_sup hs U) (.tmp (hs.slots _ _ U) (by exact id)) ty41 U U)) ?_
     refine DrawC.step U U U (Loc.of U fun σ' hs => (by exact R_fieldAddr U (by exact .yes1 U U (hs.slots _ _ U) (by rw [hs.n]; rfl)) (hd_sup hs U) (.tmp (hs.slots _ _ U) (by exact fun _ => rfl)) fl78_1)) ?_
     refine DrawC.step U U U (Loc.of U fun σ' hs => (by exact R_load U (by exact .yes1 U U (hs.slots _ _ U) (by rw [hs.n]; rfl)) (hd_sup hs U) (.tmp (hs.slots _ _ U) (by exact id)) ty3 U U)) ?_
     refine DrawC.step U U U (Loc.of U fun σ' hs => R_move U (by exact .yes1 U U (hs.slots _ _ U) (by rw [hs.n]; rfl)) (hd_sup hs U) (.tmp (hs.slots _ _ U) (by exact fun _ => rfl))) ?_
     refine DrawC.step U U U (Loc.of U fun σ' hs => (by exact R_nilCheck U (by exact .yes1 U U (hs.slots _ _ U) (by rw [hs.n]; rfl)) (hd_sup hs U) (.tmp (hs.slots _ _ U) (by exact id)))) ?_
     refine DrawC.step U U U (Loc.of U fun σ' hs => (by exact R_fieldAddr U (by exact .yes1 U U (hs.slots _ _ U) (by rw [hs.n]; rfl)) (hd_sup hs U) (.tmp (hs.slots _ _ U) (by exact id)) fl75_0)) ?_
     refine DrawC.step U U U (Loc.of U fun σ' hs => (by exact R_fieldAddr U (by exact .yes1 U U (hs.slots _ _ U) (by rw [hs.n]; rfl)) (hd_sup hs U) (.tmp (hs.slots _ _ U) (by exact id)) fl39_0)) ?_
     refine DrawC.step U U U (Loc.of U fun σ' hs => (by exact R_load U (by exact .yes1 U U (hs.slots _ _ U) (by rw [hs.n]; rfl)) (hd_sup hs U) (.tmp (hs.slots _ _ U) (by exact id)) ty22 U U)) ?_
     refine DrawC.step U U U (Loc.of U fun σ' hs => (by exact R_fieldAddr U (by exact .yes1 U U (hs.slots _ _ U) (by rw [hs.n]; rfl)) (hd_sup hs U) (.tmp (hs.slots _ _ U) (by exact fun _ => rfl)) fl78_0)) ?_
     refine DrawC.step U U U (Loc.of U fun σ' hs => (by exact R_load U (by exact .yes1 U U (hs.slots _ _ U) (by rw [hs.n]; rfl)) (hd_sup hs U) (.tmp (hs.slots _ _ U) (by exact id)) ty3 U U)) ?_
     refine DrawC.step U U U (Loc.of U fun σ' hs => (by exact R_indexAddr U (by exact .yes1 U U (hs.slots _ _ U) (by rw [hs.n]; rfl)) (hd_sup hs U) (.tmp (hs.slots _ _ U) (by exact id)) (.tmp (hs.slots _ _ U) (by exact id)) Try.underlying22 ty3 (fun hq => by (try simp at hq); exact ⟨by omega, (by exact map_get hv.1)⟩))) ?_
     refine DrawC.step U U U (Loc.of U fun σ' hs => (by exact R_load U (by exact .yes1 U U (hs.slots _ _ U) (by rw [hs.n]; rfl)) (hd_sup hs U) (.tmp (hs.slots _ _ U) (by exact id)) ty3 U U)) ?_
     refine DrawC.step U U U (Loc.of U fun σ' hs => R_callq U (by exact .yes1 U U (hs.slots _ _ U) (by rw [hs.n]; rfl)) (hd_sup hs U) (.cons (.tmp (hs.slots _ _ U) (by exact id)) (readA_sup hs U) (.cons (.tmp (hs.slots _ _ U) (by exact id)) (readA_sup hs U) (.cons (.tmp (hs.slots _ _ U) (by exact id)) (readA_sup hs U) .nil))) fun hq => FnT.fr (implacceptsAt a ha m hm (valAt g u) hv.2)) ?_
     refine DrawC.step U U U (Loc.of U fun σ' hs => R_and U (.no U) (hd_sup hs U) (.tm (hs.slots _ _ U)) (.tmp (hs.slots _ _ U) (by exact id))) ?_
     refine DrawC.fin U U ?_
     refine AWl.nil ?_
     refine AW.cond (.tm U) (fun h40 => ?_) (fun h40 => ?_)
     · skip
       try simp at h40
       refine AW.seq ?_
       refine AW.le (σ' := ⟨_, [(0, _), (1, _), (3, _), (4, _)], [(888888, _)]⟩) (Le.sub0 U ⟨U, U, U, U, Y⟩ ⟨U, Y⟩) ?_
       refine AW.region ?_
       refine AWl.ac ?_
       refine AWl.nil (AW.ret ?_)
       refine KRes.mk rfl ?_
       refine Res.v U U ?_
       (have hr0 : r = 0 := by (first | omega | (simp at h15; omega))); subst hr0; rw [cwC, if_neg hm0, if_pos (by simpa using h40)]
     · skip
       try simp at h40
       refine AW.skip ?_
       refine AW.seq ?_
       refine AW.le (σ' := ⟨_, [(0, _), (1, _), (3, _), (4, _)], [(888888, _)]⟩) (Le.sub0 U ⟨U, U, U, U, Y⟩ ⟨U, Y⟩) ?_
       refine AW.region ?_
       refine AWl.ac ?_
       refine AWl.nil (AW.ret ?_)
       refine KRes.mk rfl ?_
       refine Res.v U U ?_
       (have hr0 : r = 0 := by (first | omega | (simp at h15; omega))); subst hr0; rw [cwC, if_neg hm0, if_neg (by simpa using h40)]
   · skip
     try simp at h15
     obtain ⟨r', rfl⟩ : ∃ r', r = r' + 1 := ⟨r - 1, by (first | omega | (simp at h15; omega))⟩
     refine AW.skip ?_
     refine AW.seq ?_
     refine AW.seq ?_
     refine AW.le (σ' := ⟨_, [(0, _), (1, _), (3, _), (4, _)], [(888888, _)]⟩) (Le.sub0 U ⟨U, U, U, U, Y⟩ ⟨U, Y⟩) ?_
     refine AW.dg0 11 17 [[], [0], [4], [0, 1], [0, 4], [0, 1, 2], [0, 1, 4], [0, 1, 2, 3], [0, 1, 2, 4], [0, 1, 2, 3, 4], [0, 1, 2, 3, 4, 5], [0, 1, 2, 3, 4, 5, 6], [0, 1, 2, 3, 4, 5, 6, 7], [0, 1, 2, 3, 4, 5, 6, 8], [0, 1, 2, 3, 4, 5, 6, 7, 8], [0, 1, 2, 3, 4, 5, 6, 7, 9], [0, 1, 2, 3, 4, 5, 6, 7, 8, 9], [0, 1, 2, 3, 4, 5, 6, 7, 8, 9, 10]] [(0, 0, 1), (0, 4, 2), (1, 1, 3), (1, 4, 4), (2, 0, 4), (3, 2, 5), (3, 4, 6), (4, 1, 6), (5, 3, 7), (5, 4, 8), (6, 2, 8), (7, 4, 9), (8, 3, 9), (9, 5, 10), (10, 6, 11), (11, 7, 12), (11, 8, 13), (12, 8, 14), (13, 7, 14), (12, 9, 15), (14, 9, 16), (15, 8, 16), (16, 10, 17)] (by kernel_rfl) (by kernel_rfl) (by kernel_rfl) ?_
     apply Dg.new0 (i := 0)
     case ha | ho | hb => rfl
     case hE =>
      intro w9  hp
      obtain _ := hp
      refine AWl.mv ?_
      refine AWl.nil ?_
      exact EndQ.eq (Le.sub0 (σ' := ⟨_, [(0, _), (1, _), (3, _), (4, _), (42, _)], [(888888, _)]⟩) U ⟨U, U, U, U, U, Y⟩ ⟨U, Y⟩) U
     apply Dg.new0 (i := 4)
     case ha | ho | hb => rfl
     case hE =>
      intro w9  hp
      obtain _ := hp
      refine AWl.p (by exact R_load U (.no U) U (.tm U) ty78 U U) U ?_
      refine AWl.nil ?_
      exact EndQ.eq (Le.sub0 (σ' := ⟨_, [(0, _), (1, _), (3, _), (4, _), (46, _)], [(888888, _)]⟩) U ⟨U, U, U, U, U, Y⟩ ⟨U, Y⟩) U
     apply Dg.new0 (i := 1)
     case ha | ho | hb => rfl
     case hE =>
      intro w9  hp
      obtain _ := hp
      refine AWl.p (by exact R_nilCheck U (.no U) U (.tm U)) U ?_
      refine AWl.nil ?_
      exact EndQ.eq (Le.sub0 (σ' := ⟨_, [(0, _), (1, _), (3, _), (4, _), (43, _)], [(888888, _)]⟩) U ⟨U, U, U, U, U, Y⟩ ⟨U, Y⟩) U
     apply Dg.new0 (i := 4)
     case ha | ho | hb => rfl
     case hE =>
      intro w9  hp
      obtain _ := hp
      refine AWl.p (by exact R_load U (.no U) U (.tm U) ty78 U U) U ?_
      refine AWl.nil ?_
      exact EndQ.eq (Le.sub0 (σ' := ⟨_, [(0, _), (1, _), (3, _), (4, _), (42, _), (46, _)], [(888888, _)]⟩) U ⟨U, U, U, U, U, U, Y⟩ ⟨U, Y⟩) U
     apply Dg.old0 (i := 0)
     case ha | ho | hb => rfl
     case hE =>
      intro w9  hp
      obtain _ := hp
      refine AWl.mv ?_
      exact AWl.nil (Le.sub0 U ⟨U, U, U, U, U, U, Y⟩ ⟨U, Y⟩)
     apply Dg.new0 (i := 2)
     case ha | ho | hb => rfl
     case hE =>
      intro w9  hp
      obtain _ := hp
      refine AWl.p (by exact R_fieldAddr U (.no U) U (.tm U) fl75_4) U ?_
      refine AWl.nil ?_
      exact EndQ.eq (Le.sub0 (σ' := ⟨_, [(0, _), (1, _), (3, _), (4, _), (44, _)], [(888888, _)]⟩) U ⟨U, U, U, U, U, Y⟩ ⟨U, Y⟩) U
     apply Dg.new0 (i := 4)
     case ha | ho | hb => rfl
     case hE =>
      intro w9  hp
      obtain _ := hp
      refine AWl.p (by exact R_load U (.no U) U (.tm U) ty78 U U) U ?_
      refine AWl.nil ?_
      exact EndQ.eq (Le.sub0 (σ' := ⟨_, [(0, _), (1, _), (3, _), (4, _), (43, _), (46, _)], [(888888, _)]⟩) U ⟨U, U, U, U, U, U, Y⟩ ⟨U, Y⟩) U
     apply Dg.old0 (i := 1)
     case ha | ho | hb => rfl
     case hE =>
      intro w9  hp
      obtain _ := hp
      refine AWl.p (by exact R_nilCheck U (.no U) U (.tm U)) U ?_
      exact AWl.nil (Le.sub0 U ⟨U, U, U, U, U, U, Y⟩ ⟨U, Y⟩)
     apply Dg.new0 (i := 3)
     case ha | ho | hb => rfl
     case hE =>
      intro w9  hp
      obtain _ := hp
      refine AWl.p (by exact R_load U (.no U) U (.tm U) ty73 U U) U ?_
      refine AWl.nil ?_
      exact EndQ.eq (Le.sub0 (σ' := ⟨_, [(0, _), (1, _), (3, _), (4, _), (45, _)], [(888888, _)]⟩) U ⟨U, U, U, U, U, Y⟩ ⟨U, Y⟩) U
     apply Dg.new0 (i := 4)
     case ha | ho | hb => rfl
     case hE =>
      intro w9  hp
      obtain _ := hp
      refine AWl.p (by exact R_load U (.no U) U (.tm U) ty78 U U) U ?_
      refine AWl.nil ?_
      exact EndQ.eq (Le.sub0 (σ' := ⟨_, [(0, _), (1, _), (3, _), (4, _), (44, _), (46, _)], [(888888, _)]⟩) U ⟨U, U, U, U, U, U, Y⟩ ⟨U, Y⟩) U
     apply Dg.old0 (i := 2)
     case ha | ho | hb => rfl
     case hE =>
      intro w9  hp
      obtain _ := hp
      refine AWl.p (by exact R_fieldAddr U (.no U) U (.tm U) fl75_4) U ?_
      exact AWl.nil (Le.sub0 U ⟨U, U, U, U, U, U, Y⟩ ⟨U, Y⟩)
     apply Dg.new0 (i := 4)
     case ha | ho | hb => rfl
     case hE =>
      intro w9  hp
      obtain _ := hp
      refine AWl.p (by exact R_load U (.no U) U (.tm U) ty78 U U) U ?_
      refine AWl.nil ?_
      exact EndQ.eq (Le.sub0 (σ' := ⟨_, [(0, _), (1, _), (3, _), (4, _), (45, _), (46, _)], [(888888, _)]⟩) U ⟨U, U, U, U, U, U, Y⟩ ⟨U, Y⟩) U
     apply Dg.old0 (i := 3)
     case ha | ho | hb => rfl
     case hE =>
      intro w9  hp
      obtain _ := hp
      refine AWl.p (by exact R_load U (.no U) U (.tm U) ty73 U U) U ?_
      exact AWl.nil (Le.sub0 U ⟨U, U, U, U, U, U, Y⟩ ⟨U, Y⟩)
     apply Dg.drw0 (i := 5)
     case ha => rfl
     case ho => rfl
     case hE =>
      intro  hp
      obtain _ := hp
      exact R_look (u := 888888) mapTy rfl rfl rfl (.tm rfl) rfl (.tm rfl) hwf
     case hb => rfl
     case hL =>
      intro  z47 hp hy
      exact EndQ.eq (Le.sub0 (σ' := ⟨_, [(0, _), (1, _), (3, _), (4, _), (47, _)], [(888888, _)]⟩) U ⟨U, U, U, U, U, Y⟩ ⟨U, Y⟩) U
     apply Dg.new1 (i := 6)
     case ha | ho | hb => rfl
     case hE =>
      intro w9 z47 hp
      obtain ⟨_, hz47⟩ := hp
      refine AWl.p (R_movet U (.no U) U U fun _ => rfl) U ?_
      refine AWl.nil ?_
      exact EndQ.eq (Le.sub0 (σ' := ⟨_, [(0, _), (1, _), (3, _), (4, _), (41, _)], [(888888, _)]⟩) U ⟨U, U, U, U, U, Y⟩ ⟨U, Y⟩) U
     apply Dg.new1 (i := 7)
     case ha | ho | hb => rfl
     case hE =>
      intro w9 z47 hp
      obtain ⟨_, hz47⟩ := hp
      refine AWl.p (R_extract U (.no U) U U (fun _ => rfl) U) U ?_
      refine AWl.nil ?_
      exact EndQ.eq (Le.sub0 (σ' := ⟨_, [(0, _), (1, _), (3, _), (4, _), (41, _), (48, _)], [(888888, _)]⟩) U ⟨U, U, U, U, U, U, Y⟩ ⟨U, Y⟩) U
     apply Dg.new1 (i := 8)
     case ha | ho | hb => rfl
     case hE =>
      intro w9 z47 hp
      obtain ⟨_, hz47⟩ := hp
      refine AWl.p (R_extract U (.no U) U U (fun _ => rfl) U) U ?_
      refine AWl.nil ?_
      exact EndQ.eq (Le.sub0 (σ' := ⟨_, [(0, _), (1, _), (3, _), (4, _), (41, _), (49, _)], [(888888, _)]⟩) U ⟨U, U, U, U, U, U, Y⟩ ⟨U, Y⟩) U
     apply Dg.new1 (i := 8)
     case ha | ho | hb => rfl
     case hE =>
      intro w9 z47 hp
      obtain ⟨_, hz47⟩ := hp
      refine AWl.p (R_extract U (.no U) U U (fun _ => rfl) U) U ?_
      refine AWl.nil ?_
      exact EndQ.eq (Le.sub0 (σ' := ⟨_, [(0, _), (1, _), (3, _), (4, _), (48, _), (49, _)], [(888888, _)]⟩) U ⟨U, U, U, U, U, U, Y⟩ ⟨U, Y⟩) U
     apply Dg.old1 (i := 7)
     case ha | ho | hb => rfl
     case hE =>
      intro w9 z47 hp
      obtain ⟨_, hz47⟩ := hp
      refine AWl.p (R_extract U (.no U) U U (fun _ => rfl) U) U ?_
      exact AWl.nil (Le.sub0 U ⟨U, U, U, U, U, U, Y⟩ ⟨U, Y⟩)
     apply Dg.new1 (i := 9)
     case ha | ho | hb => rfl
     case hE =>
      intro w9 z47 hp
      obtain ⟨_, hz47⟩ := hp
      refine AWl.av ?_
      refine AWl.nil ?_
      exact EndQ.eq (Le.sub0 (σ' := ⟨_, [(0, _), (1, _), (3, _), (4, _), (5, _), (41, _)], [(888888, _)]⟩) U ⟨U, U, U, U, U, U, Y⟩ ⟨U, Y⟩) U
     apply Dg.new1 (i := 9)
     case ha | ho | hb => rfl
     case hE =>
      intro w9 z47 hp
      obtain ⟨_, hz47⟩ := hp
      refine AWl.av ?_
      refine AWl.nil ?_
      exact EndQ.eq (Le.sub0 (σ' := ⟨_, [(0, _), (1, _), (3, _), (4, _), (5, _), (49, _)], [(888888, _)]⟩) U ⟨U, U, U, U, U, U, Y⟩ ⟨U, Y⟩) U
     apply Dg.old1 (i := 8)
     case ha | ho | hb => rfl
     case hE =>
      intro w9 z47 hp
      obtain ⟨_, hz47⟩ := hp
      refine AWl.p (R_extract U (.no U) U U (fun _ => rfl) U) U ?_
      exact AWl.nil (Le.sub0 U ⟨U, U, U, U, U, U, Y⟩ ⟨U, Y⟩)
     apply Dg.new1 (i := 10)
     case ha | ho | hb => rfl
     case hE =>
      intro w9 z47 hp
      obtain ⟨_, hz47⟩ := hp
      refine AWl.av ?_
      refine AWl.nil ?_
      exact EndQ.eq (Le.sub0 (σ' := ⟨_, [(0, _), (1, _), (3, _), (4, _), (5, _), (6, _)], [(888888, _)]⟩) U ⟨U, U, U, U, U, U, Y⟩ ⟨U, Y⟩) U
     refine Dg.fin1 (k := 17) U ?_
     intro z47 hp
     obtain ⟨_, hz47⟩ := hp
     refine AWl.nil (AW.sr ?_)
     refine AWl.mv ?_
     refine AWl.nil ?_
     refine AW.cond (.tm U) (fun h50 => ?_) (fun h50 => ?_)
     · skip
       try simp at h50
       refine AW.sr ?_
       refine AWl.mv ?_
       refine AWl.av ?_
       refine AWl.nil (AW.ret ?_)
       refine KRes.mk rfl ?_
       refine Res.v U U ?_
       exact congrArg (Value.int .i64) ((hz47 h50).trans (knF_at g a c y u m (r' + 1)))
     · skip
       try simp at h50
       refine AW.skip ?_
       refine AW.sr ?_
       refine AWl.ac ?_
       refine AWl.nil (AW.seq ?_)
       refine AW.seq ?_
       refine AW.drawn 10 (nthB [[], [0], [0, 1], [0, 1, 2], [], [4], [0, 1, 2, 3, 4, 5], [0, 1, 2, 3, 4, 5, 6], [0, 1, 2, 3, 4, 5, 6, 7], []]) (by kernel_rfl) (by kernel_rfl) (by kernel_rfl) ?_
       refine DrawC.step U U U (Loc.of U fun σ' hs => R_move U (.no U) (hd_sup hs U) (.tm (hs.slots _ _ U))) ?_
       refine DrawC.step U U U (Loc.of U fun σ' hs => (by exact R_nilCheck U (.no U) (hd_sup hs U) (.tm (hs.slots _ _ U)))) ?_
       refine DrawC.step U U U (Loc.of U fun σ' hs => (by exact R_fieldAddr U (.no U) (hd_sup hs U) (.tm (hs.slots _ _ U)) fl75_3)) ?_
       refine DrawC.step U U U (Loc.of U fun σ' hs => (by exact R_load U (.no U) (hd_sup hs U) (.tm (hs.slots _ _ U)) ty68 U U)) ?_
       refine DrawC.step U U U (Loc.of U fun σ' hs => (by exact R_fieldAddr U (.no U) (hd_sup hs U) (.tm (hs.slots _ _ U)) fl78_0)) ?_
       refine DrawC.step U U U (Loc.of U fun σ' hs => (by exact R_load U (.no U) (hd_sup hs U) (.tm (hs.slots _ _ U)) ty3 U U)) ?_
       refine DrawC.step U U U (Loc.of U fun σ' hs => (by exact R_indexAddr U (.no U) (hd_sup hs U) (.tm (hs.slots _ _ U)) (.tm (hs.slots _ _ U)) Try.underlying68 ty97 (fun _ => ⟨by omega, (by exact map_get (arcsCV_at hu))⟩))) ?_
       refine DrawC.step U U U (Loc.of U fun σ' hs => (by exact R_load U (.no U) (hd_sup hs U) (.tm (hs.slots _ _ U)) ty97 U U)) ?_
       refine DrawC.step U U U (Loc.of U fun σ' hs => (by exact R_lenm U (.no U) (hd_sup hs U) (.tm (hs.slots _ _ U)) (by exact .t) Try.underlying97)) ?_
       refine DrawC.step U U U (Loc.of U fun σ' hs => R_move U (.no U) (hd_sup hs U) (.const U)) ?_
       refine DrawC.fin U U ?_
       refine AWl.nil (AW.block ?_)
       refine AW.loop2 (fun (j : Nat) (N : Int) => (j ≤ (arcsC g c u).length) ∧ N = cwT g a c y r' u m j) (fun (j : Nat) (N : Int) => ⟨_, [(61, (true, .a (.one (.t (.v (.int .i64 (j : Nat))))))), (7, (true, .a (.one (.t (.v (.int .i64 N)))))), (0, _), (3, _), (4, _), (59, _), (60, _)], [(888888, .mp b (knF g a c y))]⟩) (fun (j : Nat) (N : Int) => (arcsC g c u).length - j) (0) (0) ⟨Nat.zero_le _, U⟩ (Le.sub0 U ⟨U, U, U, U, U, U, U, Y⟩ ⟨U, Y⟩) ?_
       rintro j N ⟨hk, he⟩
       refine AW.sr ?_
       refine AWl.p (R_lt U (.no U) U (.tm U) (.tm U)) U ?_
       refine AWl.nil (AW.seq ?_)
       refine AW.cond (.tm U) (fun h62 => ?_) (fun h62 => ?_)
       · skip
         try simp at h62
         obtain ⟨z, hz⟩ : ∃ ξ, (arcsC g c u)[j]? = some ξ := ⟨_, List.getElem?_eq_getElem (by omega)⟩
         have hza := (List.mem_filter.1 (List.mem_of_getElem? hz)).1
         have hzo := arc_mem hg hza
         have hlt := aftS_lt ha hm hv.2 (k := z.letter) ⟨hzo.1, by omega⟩
         have hcr := cwC_rng g a c y r' z.to (aftS a m (valAt g u) z.letter)
         have htr := cwT_rng g a c y r' u m j
         refine AW.skip ?_
         refine AW.seq ?_
         refine AW.block ?_
         refine AW.sr ?_
         refine AWl.p (by exact R_indexAddr U (.no U) U (.tm U) (.tm U) Try.underlying97 ty100 (fun _ => ⟨by omega, (by exact map_get hz)⟩)) U ?_
         refine AWl.p (by exact R_load U (.no U) U (.tm U) ty100 U U) U ?_
         refine AWl.add (R_alloc 9 U U U in100 U U U) U ?_
         refine AWl.chgb (R_store_pb U U U (.tm U) (.tm U) U ty100 U U U (by kernel_rfl) U) ?_
         refine AWl.nil (AW.region ?_)
         refine AWl.mv ?_
         refine AWl.mv ?_
         refine AWl.mv ?_
         refine AWl.p (by exact R_load U (.no U) U (.tm U) ty78 U U) U ?_
         refine AWl.p (by exact R_load_pp U (.no U) U (.tm U) U ty100 U U) U ?_
         refine AWl.p (R_callz (FnT.fr (implcounternext g a ha hg y (arcsCV g c) b u hu m hm r' (by omega) z hza)) U (.no U) U (.cons (.tm U) U (.cons (.tm U) U (.cons (.tm U) U .nil)))) U ?_
         refine AWl.adds (R_callK (u := 888888) 7100 (ih r' (by omega) (by omega) z.to hzo.2.2 (aftS a m (valAt g u) z.letter) hlt) U U U U U (.cons (.tm U) U (.cons (.tm U) U .nil)) U U) U ?_
         refine AWl.p (R_add U (.no U) U (.tm U) (.tm U) (fun _ => by omega)) U ?_
         refine AWl.p (R_min U (.no U) U (.const U) (.tm U)) U ?_
         refine AWl.av ?_
         refine AWl.nil ?_
         refine AW.le (σ' := ⟨_, [(0, _), (3, _), (4, _), (7, _), (9, _), (59, _), (60, _), (61, _)], [(888888, _), (9, _)]⟩) (Le.sub0 U ⟨U, U, U, U, U, U, U, U, Y⟩ ⟨U, U, Y⟩) ?_
         refine AW.region ?_
         refine AWl.p (R_add U (.no U) U (.tm U) (.const U) (fun _ => by omega)) U ?_
         refine AWl.mv ?_
         refine AWl.nil ?_
         repeat (with_reducible refine BlockQ.nor ?_)
         refine Round2.next (j + 1) (min 1000000 (N + cwC g a c y r' z.to (aftS a m (valAt g u) z.letter))) ⟨by omega, by rw [he, ← cwT_at hz]⟩ (by omega) (Le.sub0 rfl ⟨rfl, rfl, rfl, rfl, rfl, rfl, rfl, Y⟩ ⟨(by rfl), Y⟩)
       · skip
         try simp at h62
         refine AW.exit ?_
         refine AW.seq ?_
         refine AW.dagn 7 20 [[], [0], [4], [5], [0, 1], [0, 4], [0, 5], [4, 5], [0, 1, 2], [0, 1, 4], [0, 1, 5], [0, 4, 5], [0, 1, 2, 3], [0, 1, 2, 4], [0, 1, 2, 5], [0, 1, 4, 5], [0, 1, 2, 3, 4], [0, 1, 2, 3, 5], [0, 1, 2, 4, 5], [0, 1, 2, 3, 4, 5], [0, 1, 2, 3, 4, 5, 6]] [(0, 0, 1), (0, 4, 2), (0, 5, 3), (1, 1, 4), (1, 4, 5), (2, 0, 5), (1, 5, 6), (3, 0, 6), (2, 5, 7), (3, 4, 7), (4, 2, 8), (4, 4, 9), (5, 1, 9), (4, 5, 10), (6, 1, 10), (5, 5, 11), (7, 0, 11), (6, 4, 11), (8, 3, 12), (8, 4, 13), (9, 2, 13), (8, 5, 14), (10, 2, 14), (9, 5, 15), (11, 1, 15), (10, 4, 15), (12, 4, 16), (13, 3, 16), (12, 5, 17), (14, 3, 17), (13, 5, 18), (15, 2, 18), (14, 4, 18), (16, 5, 19), (18, 3, 19), (17, 4, 19), (19, 6, 20)] (by kernel_rfl) (by kernel_rfl) (by kernel_rfl) ?_
         apply Dag.new (i := 0)
         case ha | ho | hb => rfl
         case hE =>
          intro w9
          refine AWl.mv ?_
          exact AWl.nil (Le.sub0 (σ' := ⟨_, [(0, _), (3, _), (4, _), (7, _), (59, _), (60, _), (61, _), (62, _), (75, _)], [(888888, _)]⟩) U ⟨U, U, U, U, U, U, U, U, U, Y⟩ ⟨U, Y⟩)
         apply Dag.new (i := 4)
         case ha | ho | hb => rfl
         case hE =>
          intro w9
          refine AWl.p (by exact R_load U (.no U) U (.tm U) ty78 U U) U ?_
          exact AWl.nil (Le.sub0 (σ' := ⟨_, [(0, _), (3, _), (4, _), (7, _), (59, _), (60, _), (61, _), (62, _), (79, _)], [(888888, _)]⟩) U ⟨U, U, U, U, U, U, U, U, U, Y⟩ ⟨U, Y⟩)
         apply Dag.new (i := 5)
         case ha | ho | hb => rfl
         case hE =>
          intro w9
          refine AWl.mv ?_
          exact AWl.nil (Le.sub0 (σ' := ⟨_, [(0, _), (3, _), (4, _), (7, _), (59, _), (60, _), (61, _), (62, _), (80, _)], [(888888, _)]⟩) U ⟨U, U, U, U, U, U, U, U, U, Y⟩ ⟨U, Y⟩)
         apply Dag.new (i := 1)
         case ha | ho | hb => rfl
         case hE =>
          intro w9
          refine AWl.p (by exact R_nilCheck U (.no U) U (.tm U)) U ?_
          exact AWl.nil (Le.sub0 (σ' := ⟨_, [(0, _), (3, _), (4, _), (7, _), (59, _), (60, _), (61, _), (62, _), (76, _)], [(888888, _)]⟩) U ⟨U, U, U, U, U, U, U, U, U, Y⟩ ⟨U, Y⟩)
         apply Dag.new (i := 4)
         case ha | ho | hb => rfl
         case hE =>
          intro w9
          refine AWl.p (by exact R_load U (.no U) U (.tm U) ty78 U U) U ?_
          exact AWl.nil (Le.sub0 (σ' := ⟨_, [(0, _), (3, _), (4, _), (7, _), (59, _), (60, _), (61, _), (62, _), (75, _), (79, _)], [(888888, _)]⟩) U ⟨U, U, U, U, U, U, U, U, U, U, Y⟩ ⟨U, Y⟩)
         apply Dag.old (i := 0)
         case ha | ho | hb => rfl
         case hE =>
          intro w9
          refine AWl.mv ?_
          exact AWl.nil (Le.sub0 U ⟨U, U, U, U, U, U, U, U, U, U, Y⟩ ⟨U, Y⟩)
         apply Dag.new (i := 5)
         case ha | ho | hb => rfl
         case hE =>
          intro w9
          refine AWl.mv ?_
          exact AWl.nil (Le.sub0 (σ' := ⟨_, [(0, _), (3, _), (4, _), (7, _), (59, _), (60, _), (61, _), (62, _), (75, _), (80, _)], [(888888, _)]⟩) U ⟨U, U, U, U, U, U, U, U, U, U, Y⟩ ⟨U, Y⟩)
         apply Dag.old (i := 0)
         case ha | ho | hb => rfl
         case hE =>
          intro w9
          refine AWl.mv ?_
          exact AWl.nil (Le.sub0 U ⟨U, U, U, U, U, U, U, U, U, U, Y⟩ ⟨U, Y⟩)
         apply Dag.new (i := 5)
         case ha | ho | hb => rfl
         case hE =>
          intro w9
          refine AWl.mv ?_
          exact AWl.nil (Le.sub0 (σ' := ⟨_, [(0, _), (3, _), (4, _), (7, _), (59, _), (60, _), (61, _), (62, _), (79, _), (80, _)], [(888888, _)]⟩) U ⟨U, U, U, U, U, U, U, U, U, U, Y⟩ ⟨U, Y⟩)
         apply Dag.old (i := 4)
         case ha | ho | hb => rfl
         case hE =>
          intro w9
          refine AWl.p (by exact R_load U (.no U) U (.tm U) ty78 U U) U ?_
          exact AWl.nil (Le.sub0 U ⟨U, U, U, U, U, U, U, U, U, U, Y⟩ ⟨U, Y⟩)
         apply Dag.new (i := 2)
         case ha | ho | hb => rfl
         case hE =>
          intro w9
          refine AWl.p (by exact R_fieldAddr U (.no U) U (.tm U) fl75_4) U ?_
          exact AWl.nil (Le.sub0 (σ' := ⟨_, [(0, _), (3, _), (4, _), (7, _), (59, _), (60, _), (61, _), (62, _), (77, _)], [(888888, _)]⟩) U ⟨U, U, U, U, U, U, U, U, U, Y⟩ ⟨U, Y⟩)
         apply Dag.new (i := 4)
         case ha | ho | hb => rfl
         case hE =>
          intro w9
          refine AWl.p (by exact R_load U (.no U) U (.tm U) ty78 U U) U ?_
          exact AWl.nil (Le.sub0 (σ' := ⟨_, [(0, _), (3, _), (4, _), (7, _), (59, _), (60, _), (61, _), (62, _), (76, _), (79, _)], [(888888, _)]⟩) U ⟨U, U, U, U, U, U, U, U, U, U, Y⟩ ⟨U, Y⟩)
         apply Dag.old (i := 1)
         case ha | ho | hb => rfl
         case hE =>
          intro w9
          refine AWl.p (by exact R_nilCheck U (.no U) U (.tm U)) U ?_
          exact AWl.nil (Le.sub0 U ⟨U, U, U, U, U, U, U, U, U, U, Y⟩ ⟨U, Y⟩)
         apply Dag.new (i := 5)
         case ha | ho | hb => rfl
         case hE =>
          intro w9
          refine AWl.mv ?_
          exact AWl.nil (Le.sub0 (σ' := ⟨_, [(0, _), (3, _), (4, _), (7, _), (59, _), (60, _), (61, _), (62, _), (76, _), (80, _)], [(888888, _)]⟩) U ⟨U, U, U, U, U, U, U, U, U, U, Y⟩ ⟨U, Y⟩)
         apply Dag.old (i := 1)
         case ha | ho | hb => rfl
         case hE =>
          intro w9
          refine AWl.p (by exact R_nilCheck U (.no U) U (.tm U)) U ?_
          exact AWl.nil (Le.sub0 U ⟨U, U, U, U, U, U, U, U, U, U, Y⟩ ⟨U, Y⟩)
         apply Dag.new (i := 5)
         case ha | ho | hb => rfl
         case hE =>
          intro w9
          refine AWl.mv ?_
          exact AWl.nil (Le.sub0 (σ' := ⟨_, [(0, _), (3, _), (4, _), (7, _), (59, _), (60, _), (61, _), (62, _), (75, _), (79, _), (80, _)], [(888888, _)]⟩) U ⟨U, U, U, U, U, U, U, U, U, U, U, Y⟩ ⟨U, Y⟩)
         apply Dag.old (i := 0)
         case ha | ho | hb => rfl
         case hE =>
          intro w9
          refine AWl.mv ?_
          exact AWl.nil (Le.sub0 U ⟨U, U, U, U, U, U, U, U, U, U, U, Y⟩ ⟨U, Y⟩)
         apply Dag.old (i := 4)
         case ha | ho | hb => rfl
         case hE =>
          intro w9
          refine AWl.p (by exact R_load U (.no U) U (.tm U) ty78 U U) U ?_
          exact AWl.nil (Le.sub0 U ⟨U, U, U, U, U, U, U, U, U, U, U, Y⟩ ⟨U, Y⟩)
         apply Dag.new (i := 3)
         case ha | ho | hb => rfl
         case hE =>
          intro w9
          refine AWl.p (by exact R_load U (.no U) U (.tm U) ty73 U U) U ?_
          exact AWl.nil (Le.sub0 (σ' := ⟨_, [(0, _), (3, _), (4, _), (7, _), (59, _), (60, _), (61, _), (62, _), (78, _)], [(888888, _)]⟩) U ⟨U, U, U, U, U, U, U, U, U, Y⟩ ⟨U, Y⟩)
         apply Dag.new (i := 4)
         case ha | ho | hb => rfl
         case hE =>
          intro w9
          refine AWl.p (by exact R_load U (.no U) U (.tm U) ty78 U U) U ?_
          exact AWl.nil (Le.sub0 (σ' := ⟨_, [(0, _), (3, _), (4, _), (7, _), (59, _), (60, _), (61, _), (62, _), (77, _), (79, _)], [(888888, _)]⟩) U ⟨U, U, U, U, U, U, U, U, U, U, Y⟩ ⟨U, Y⟩)
         apply Dag.old (i := 2)
         case ha | ho | hb => rfl
         case hE =>
          intro w9
          refine AWl.p (by exact R_fieldAddr U (.no U) U (.tm U) fl75_4) U ?_
          exact AWl.nil (Le.sub0 U ⟨U, U, U, U, U, U, U, U, U, U, Y⟩ ⟨U, Y⟩)
         apply Dag.new (i := 5)
         case ha | ho | hb => rfl
         case hE =>
          intro w9
          refine AWl.mv ?_
          exact AWl.nil (Le.sub0 (σ' := ⟨_, [(0, _), (3, _), (4, _), (7, _), (59, _), (60, _), (61, _), (62, _), (77, _), (80, _)], [(888888, _)]⟩) U ⟨U, U, U, U, U, U, U, U, U, U, Y⟩ ⟨U, Y⟩)
         apply Dag.old (i := 2)
         case ha | ho | hb => rfl
         case hE =>
          intro w9
          refine AWl.p (by exact R_fieldAddr U (.no U) U (.tm U) fl75_4) U ?_
          exact AWl.nil (Le.sub0 U ⟨U, U, U, U, U, U, U, U, U, U, Y⟩ ⟨U, Y⟩)
         apply Dag.new (i := 5)
         case ha | ho | hb => rfl
         case hE =>
          intro w9
          refine AWl.mv ?_
          exact AWl.nil (Le.sub0 (σ' := ⟨_, [(0, _), (3, _), (4, _), (7, _), (59, _), (60, _), (61, _), (62, _), (76, _), (79, _), (80, _)], [(888888, _)]⟩) U ⟨U, U, U, U, U, U, U, U, U, U, U, Y⟩ ⟨U, Y⟩)
         apply Dag.old (i := 1)
         case ha | ho | hb => rfl
         case hE =>
          intro w9
          refine AWl.p (by exact R_nilCheck U (.no U) U (.tm U)) U ?_
          exact AWl.nil (Le.sub0 U ⟨U, U, U, U, U, U, U, U, U, U, U, Y⟩ ⟨U, Y⟩)
         apply Dag.old (i := 4)
         case ha | ho | hb => rfl
         case hE =>
          intro w9
          refine AWl.p (by exact R_load U (.no U) U (.tm U) ty78 U U) U ?_
          exact AWl.nil (Le.sub0 U ⟨U, U, U, U, U, U, U, U, U, U, U, Y⟩ ⟨U, Y⟩)
         apply Dag.new (i := 4)
         case ha | ho | hb => rfl
         case hE =>
          intro w9
          refine AWl.p (by exact R_load U (.no U) U (.tm U) ty78 U U) U ?_
          exact AWl.nil (Le.sub0 (σ' := ⟨_, [(0, _), (3, _), (4, _), (7, _), (59, _), (60, _), (61, _), (62, _), (78, _), (79, _)], [(888888, _)]⟩) U ⟨U, U, U, U, U, U, U, U, U, U, Y⟩ ⟨U, Y⟩)
         apply Dag.old (i := 3)
         case ha | ho | hb => rfl
         case hE =>
          intro w9
          refine AWl.p (by exact R_load U (.no U) U (.tm U) ty73 U U) U ?_
          exact AWl.nil (Le.sub0 U ⟨U, U, U, U, U, U, U, U, U, U, Y⟩ ⟨U, Y⟩)
         apply Dag.new (i := 5)
         case ha | ho | hb => rfl
         case hE =>
          intro w9
          refine AWl.mv ?_
          exact AWl.nil (Le.sub0 (σ' := ⟨_, [(0, _), (3, _), (4, _), (7, _), (59, _), (60, _), (61, _), (62, _), (78, _), (80, _)], [(888888, _)]⟩) U ⟨U, U, U, U, U, U, U, U, U, U, Y⟩ ⟨U, Y⟩)
         apply Dag.old (i := 3)
         case ha | ho | hb => rfl
         case hE =>
          intro w9
          refine AWl.p (by exact R_load U (.no U) U (.tm U) ty73 U U) U ?_
          exact AWl.nil (Le.sub0 U ⟨U, U, U, U, U, U, U, U, U, U, Y⟩ ⟨U, Y⟩)
         apply Dag.new (i := 5)
         case ha | ho | hb => rfl
         case hE =>
          intro w9
          refine AWl.mv ?_
          exact AWl.nil (Le.sub0 (σ' := ⟨_, [(0, _), (3, _), (4, _), (7, _), (59, _), (60, _), (61, _), (62, _), (77, _), (79, _), (80, _)], [(888888, _)]⟩) U ⟨U, U, U, U, U, U, U, U, U, U, U, Y⟩ ⟨U, Y⟩)
         apply Dag.old (i := 2)
         case ha | ho | hb => rfl
         case hE =>
          intro w9
          refine AWl.p (by exact R_fieldAddr U (.no U) U (.tm U) fl75_4) U ?_
          exact AWl.nil (Le.sub0 U ⟨U, U, U, U, U, U, U, U, U, U, U, Y⟩ ⟨U, Y⟩)
         apply Dag.old (i := 4)
         case ha | ho | hb => rfl
         case hE =>
          intro w9
          refine AWl.p (by exact R_load U (.no U) U (.tm U) ty78 U U) U ?_
          exact AWl.nil (Le.sub0 U ⟨U, U, U, U, U, U, U, U, U, U, U, Y⟩ ⟨U, Y⟩)
         apply Dag.new (i := 5)
         case ha | ho | hb => rfl
         case hE =>
          intro w9
          refine AWl.mv ?_
          exact AWl.nil (Le.sub0 (σ' := ⟨_, [(0, _), (3, _), (4, _), (7, _), (59, _), (60, _), (61, _), (62, _), (78, _), (79, _), (80, _)], [(888888, _)]⟩) U ⟨U, U, U, U, U, U, U, U, U, U, U, Y⟩ ⟨U, Y⟩)
         apply Dag.old (i := 3)
         case ha | ho | hb => rfl
         case hE =>
          intro w9
          refine AWl.p (by exact R_load U (.no U) U (.tm U) ty73 U U) U ?_
          exact AWl.nil (Le.sub0 U ⟨U, U, U, U, U, U, U, U, U, U, U, Y⟩ ⟨U, Y⟩)
         apply Dag.old (i := 4)
         case ha | ho | hb => rfl
         case hE =>
          intro w9
          refine AWl.p (by exact R_load U (.no U) U (.tm U) ty78 U U) U ?_
          exact AWl.nil (Le.sub0 U ⟨U, U, U, U, U, U, U, U, U, U, U, Y⟩ ⟨U, Y⟩)
         apply Dag.new (i := 6)
         case ha | ho | hb => rfl
         case hE =>
          intro w9
          refine AWl.chgb (R_mapUpd (u := 888888) mapTy U U U (.tm U) U U (.tm U) hwf (.tm U) (by rw [he, knF_at]; exact cwT_all hm0 (by omega))) ?_
          exact AWl.nil (Le.sub0 (σ' := ⟨_, [(0, _), (3, _), (4, _), (7, _), (59, _), (60, _), (61, _), (62, _)], [(888888, _)]⟩) U ⟨U, U, U, U, U, U, U, U, Y⟩ ⟨U, Y⟩)
         refine Dag.fin (k := 20) U ?_
         refine AWl.nil (AW.sr ?_)
         refine AWl.mv ?_
         refine AWl.av ?_
         refine AWl.nil (AW.ret ?_)
         refine KRes.mk rfl ?_
         refine Res.v U U ?_
         rw [he]; exact congrArg (Value.int .i64) (cwT_all hm0 (by omega))
theorem implcounternth (g : TGraph) (a : TAutomaton) (ha : validA a = true) (hg : validG g = true) (c y : Int) (b : Nat) (D : Nat) (hD : D ≤ 1000) (u : Int) (hu : 0 ≤ u ∧ u < g.Values.length) (m : Nat) (hm : m < 2 ^ a.Accept.length) (h0 : 0 < cwC g a c y D u m) : FnK Try.prog 35 b (knF g a c y) [.one (.ad (ctrT g a y (arcsCV g c) b)), plcV u m D, .one (.v (.int .i64 0))] (.a (.one (.sl 2 ((gwS g a c y D u m).map cStep)))) := by
 refine FnK.walk Try.func35 rfl (by kernel_rfl) Try.ntmps35 rfl rfl fun w0 => ?_
 have hP := pow_le_12 ha
 have hG := validG_len hg
 refine AW.sr ?_
 refine AWl.add (R_box 4 U U U (.tm U) U U U) U ?_
 refine AWl.ac ?_
 refine AWl.nilS (i := 6) 20001 2 U U ?_
 refine AWl.nil (AW.sr ?_)
 refine AWl.add (R_empty 12 U U U Try.underlying32 ty59 U) U ?_
 refine AWl.av ?_
 refine AWl.nil (AW.seq ?_)
 refine AW.block ?_
 refine AW.loop5 (fun (r : Nat) (u1 : Int) (m1 : Nat) (O : List TStep) (N : Int) => ((r ≤ D ∧ O.length + r = D) ∧ (0 ≤ u1 ∧ u1 < g.Values.length) ∧ m1 < 2 ^ a.Accept.length ∧ 0 < cwC g a c y r u1 m1) ∧ N = 0 ∧ O ++ gwS g a c y r u1 m1 = gwS g a c y D u m) (fun (r : Nat) (u1 : Int) (m1 : Nat) (O : List TStep) (N : Int) => ⟨_, [(2, (true, .a (.one (.t (.v (.int .i64 N)))))), (7, (true, .a (.one (.rf 12)))), (0, _), (4, _), (6, _)], [(12, .row 2 (O.map cStep)), (4, .box [.t (.v (.int .i64 u1)), .t (.v (.int .i64 (m1 : Int))), .t (.v (.int .i64 (r : Int)))]), (888888, .mp b (knF g a c y))]⟩) (fun (r : Nat) (u1 : Int) (m1 : Nat) (O : List TStep) (N : Int) => r) (D) (u) (m) ([]) (0) ⟨⟨⟨Nat.le_refl _, by simp⟩, hu, hm, h0⟩, U, U⟩ (Le.sub0 U ⟨U, U, U, U, U, Y⟩ ⟨U, U, U, Y⟩) ?_
 rintro r u1 m1 O N ⟨hk, he⟩
 refine AW.seq ?_
 refine AW.sr ?_
 refine AWl.p (by exact R_fieldAddr_pp U (.no U) U (.tm U) fl78_2) U ?_
 refine AWl.p (by exact R_load_pp U (.no U) U (.tm U) U ty3 U U) U ?_
 refine AWl.p (R_gt U (.no U) U (.tm U) (.const U)) U ?_
 refine AWl.nil ?_
 refine AW.cond (.tm U) (fun h15 => ?_) (fun h15 => ?_)
 · skip
   try simp at h15
   obtain ⟨r', rfl⟩ : ∃ r', r = r' + 1 := ⟨r - 1, by (first | omega | (simp at h15; omega))⟩
   have hv := valAt_ok hg hk.2.1
   obtain ⟨z0, hz0⟩ := pick_some hk.2.2.2
   have hal := arcsC_len hg c u1
   refine AW.skip ?_
   refine AW.block ?_
   refine AW.seq ?_
   refine AW.drawn 10 (nthB [[], [0], [0, 1], [0, 1, 2], [], [4], [0, 1, 2, 3, 4, 5], [0, 1, 2, 3, 4, 5, 6], [0, 1, 2, 3, 4, 5, 6, 7], []]) (by kernel_rfl) (by kernel_rfl) (by kernel_rfl) ?_
   refine DrawC.step U U U (Loc.of U fun σ' hs => R_move U (.no U) (hd_sup hs U) (.tm (hs.slots _ _ U))) ?_
   refine DrawC.step U U U (Loc.of U fun σ' hs => (by exact R_nilCheck U (.no U) (hd_sup hs U) (.tm (hs.slots _ _ U)))) ?_
   refine DrawC.step U U U (Loc.of U fun σ' hs => (by exact R_fieldAddr U (.no U) (hd_sup hs U) (.tm (hs.slots _ _ U)) fl75_3)) ?_
   refine DrawC.step U U U (Loc.of U fun σ' hs => (by exact R_load U (.no U) (hd_sup hs U) (.tm (hs.slots _ _ U)) ty68 U U)) ?_
   refine DrawC.step U U U (Loc.of U fun σ' hs => (by exact R_fieldAddr_pp U (.no U) (hd_sup hs U) (.tm (hs.slots _ _ U)) fl78_0)) ?_
   refine DrawC.step U U U (Loc.of U fun σ' hs => (by exact R_load_pp U (.no U) (hd_sup hs U) (.tm (hs.slots _ _ U)) (hs.res _ _ U) ty3 U U)) ?_
   refine DrawC.step U U U (Loc.of U fun σ' hs => (by exact R_indexAddr U (.no U) (hd_sup hs U) (.tm (hs.slots _ _ U)) (.tm (hs.slots _ _ U)) Try.underlying68 ty97 (fun _ => ⟨by omega, (by exact map_get (arcsCV_at hk.2.1))⟩))) ?_
   refine DrawC.step U U U (Loc.of U fun σ' hs => (by exact R_load U (.no U) (hd_sup hs U) (.tm (hs.slots _ _ U)) ty97 U U)) ?_
   refine DrawC.step U U U (Loc.of U fun σ' hs => (by exact R_lenm U (.no U) (hd_sup hs U) (.tm (hs.slots _ _ U)) (by exact .t) Try.underlying97)) ?_
   refine DrawC.step U U U (Loc.of U fun σ' hs => R_move U (.no U) (hd_sup hs U) (.const U)) ?_
   refine DrawC.fin U U ?_
   refine AWl.nil (AW.block ?_)
   refine AW.loop2 (fun (j : Nat) (M : Int) => (j ≤ (arcsC g c u1).length ∧ ∀ x ∈ (arcsC g c u1).take j, ¬ 0 < cwC g a c y r' x.to (aftS a m1 (valAt g u1) x.letter)) ∧ M = 0) (fun (j : Nat) (M : Int) => ⟨_, [(25, (true, .a (.one (.t (.v (.int .i64 (j : Nat))))))), (2, (true, .a (.one (.t (.v (.int .i64 M)))))), (7, (true, .a (.one (.rf 12)))), (0, _), (4, _), (6, _), (23, _), (24, _)], [(12, .row 2 (O.map cStep)), (4, .box [.t (.v (.int .i64 u1)), .t (.v (.int .i64 (m1 : Int))), .t (.v (.int .i64 ((r' + 1 : Nat) : Int)))]), (888888, .mp b (knF g a c y))]⟩) (fun (j : Nat) (M : Int) => (arcsC g c u1).length - j) (0) (N) ⟨⟨Nat.zero_le _, by simp⟩, he.1⟩ (Le.sub0 U ⟨U, U, U, U, U, U, U, U, Y⟩ ⟨U, U, U, Y⟩) ?_
   rintro j M ⟨hk1, he1⟩
   refine AW.sr ?_
   refine AWl.p (R_lt U (.no U) U (.tm U) (.tm U)) U ?_
   refine AWl.nil (AW.seq ?_)
   refine AW.cond (.tm U) (fun h26 => ?_) (fun h26 => ?_)
   · skip
     try simp at h26
     obtain ⟨z, hz⟩ : ∃ ξ, (arcsC g c u1)[j]? = some ξ := ⟨_, List.getElem?_eq_getElem (by omega)⟩
     have hza := (List.mem_filter.1 (List.mem_of_getElem? hz)).1
     have hzo := arc_mem hg hza
     have hlt := aftS_lt ha hk.2.2.1 hv.2 (k := z.letter) ⟨hzo.1, by omega⟩
     have hcr := cwC_rng g a c y r' z.to (aftS a m1 (valAt g u1) z.letter)
     refine AW.skip ?_
     refine AW.seq ?_
     refine AW.block ?_
     refine AW.sr ?_
     refine AWl.p (by exact R_indexAddr U (.no U) U (.tm U) (.tm U) Try.underlying97 ty100 (fun _ => ⟨by omega, (by exact map_get hz)⟩)) U ?_
     refine AWl.p (by exact R_load U (.no U) U (.tm U) ty100 U U) U ?_
     refine AWl.add (R_alloc 9 U U U in100 U U U) U ?_
     refine AWl.chgb (R_store_pb U U U (.tm U) (.tm U) U ty100 U U U (by kernel_rfl) U) ?_
     refine AWl.nil (AW.sr ?_)
     refine AWl.mv ?_
     refine AWl.p (by exact R_load_pp U (.no U) U (.tm U) U ty78 U U) U ?_
     refine AWl.p (by exact R_load_pp U (.no U) U (.tm U) U ty100 U U) U ?_
     refine AWl.p (R_callz (FnT.fr (implcounternext g a ha hg y (arcsCV g c) b u1 hk.2.1 m1 hk.2.2.1 r' (by omega) z hza)) U (.no U) U (.cons (.tm U) U (.cons (.tm U) U (.cons (.tm U) U .nil)))) U ?_
     refine AWl.add (R_alloc 10 U U U in78 U U U) U ?_
     refine AWl.chgb (R_store_pb U U U (.tm U) (.tm U) U ty78 U U U (by kernel_rfl) U) ?_
     refine AWl.nil (AW.seq ?_)
     refine AW.le (σ' := ⟨_, [(0, _), (2, _), (4, _), (6, _), (7, _), (9, _), (10, _), (23, _), (24, _), (25, _)], [(12, _), (4, _), (888888, _), (9, _), (10, _)]⟩) (Le.sub0 U ⟨U, U, U, U, U, U, U, U, U, U, Y⟩ ⟨U, U, U, U, U, Y⟩) ?_
     refine AW.region ?_
     refine AWl.mv ?_
     refine AWl.p (by exact R_load_pp U (.no U) U (.tm U) U ty78 U U) U ?_
     refine AWl.adds (R_callK (u := 888888) 3500 (implcountercount g a ha hg c y b r' (by omega) z.to hzo.2.2 (aftS a m1 (valAt g u1) z.letter) hlt) U U U U U (.cons (.tm U) U (.cons (.tm U) U .nil)) U U) U ?_
     refine AWl.av ?_
     refine AWl.nil (AW.seq ?_)
     refine AW.sr ?_
     refine AWl.mv ?_
     refine AWl.mv ?_
     refine AWl.p (R_lt U (.no U) U (.tm U) (.tm U)) U ?_
     refine AWl.nil ?_
     refine AW.cond (.tm U) (fun h38 => ?_) (fun h38 => ?_)
     · skip
       try simp at h38
       have hzp : 0 < cwC g a c y r' z.to (aftS a m1 (valAt g u1) z.letter) := by (first | omega | (simp at h38; omega))
       have hpk := pick_at hz hzp hk1.2
       refine AW.seq ?_
       refine AW.le (σ' := ⟨_, [(0, _), (2, _), (4, _), (6, _), (7, _), (9, _), (10, _), (11, _), (23, _), (24, _), (25, _)], [(12, _), (4, _), (888888, _), (9, _), (10, _)]⟩) (Le.sub0 U ⟨U, U, U, U, U, U, U, U, U, U, U, Y⟩ ⟨U, U, U, U, U, Y⟩) ?_
       refine AW.region ?_
       refine AWl.mv ?_
       refine AWl.p (by exact R_fieldAddr_pp U (.no U) U (.tm U) fl100_0) U ?_
       refine AWl.p (by exact R_load_pp U (.no U) U (.tm U) U ty59 U U) U ?_
       refine AWl.p (R_listz (xs := [.tmp 41]) (rows := [cStep z.step]) U U U (.cons (.tm U) U U .nil) Try.underlying32 in59 U U (U)) U ?_
       refine AWl.chgput (R_append U U U (.tm U) U (.tm U) (by exact .t) (by rfl) Try.underlying32 in59 U (by (simp [chunk]; omega)) (by (unfold maxLen; simp [chunk]; omega))) U ?_
       refine AWl.le (σ' := ⟨_, [(0, _), (2, _), (4, _), (6, _), (7, _), (9, _), (10, _), (11, _), (23, _), (24, _), (25, _), (43, _)], [(12, _), (4, _), (888888, _), (9, _), (10, _)]⟩) (Le.sub0 U ⟨U, U, U, U, U, U, U, U, U, U, U, U, Y⟩ ⟨U, U, U, U, U, Y⟩) ?_
       refine AWl.av ?_
       refine AWl.nil (AW.sr ?_)
       refine AWl.p (by exact R_load_pp U (.no U) U (.tm U) U ty78 U U) U ?_
       refine AWl.chgb (R_store_pb U U U (.tm U) (.tm U) U ty78 U U U (by kernel_rfl) U) ?_
       refine AWl.nil ?_
       refine AW.exit ?_
       repeat (with_reducible refine BlockQ.nor ?_)
       repeat (with_reducible first | refine BlockQ.nor ?_ | refine ThenQ.ex ?_ | refine BlockQ.here ?_ | refine BlockQ.past (by decide) ?_ | refine Round1.ex ?_ | refine Round2.ex ?_ | refine Round3.ex ?_ | refine Round4.ex ?_ | refine Round5.ex ?_)
       refine Round5.next (r') (z.to) (aftS a m1 (valAt g u1) z.letter) (O ++ [z.step]) (M) ⟨⟨⟨by omega, by simp; omega⟩, hzo.2.2, hlt, hzp⟩, he1, by rw [List.append_assoc, List.singleton_append, ← gwS_at hpk]; exact he.2⟩ (by omega) (Le.sub0 rfl ⟨rfl, rfl, rfl, rfl, rfl, Y⟩ ⟨(by (refine congrArg (fun r => some (R.row _ r)) ?_; simp [chunk, List.map_set, cInt, cBool, cIntS, cPair, cToken, cExpr, cEdge, cGraph, cStep, cWalk, cChange, cBatch, cHistory, cPositions, cAutomaton, cProductStep, cPathAtom, cConjunction, cView, cDelta, cRegistered, cRegistry])), (by rfl), (by rfl), Y⟩)
     · skip
       try simp at h38
       have hzn : cwC g a c y r' z.to (aftS a m1 (valAt g u1) z.letter) = 0 := by (first | omega | (simp at h38; omega))
       have hnx : ∀ x ∈ (arcsC g c u1).take (j + 1), ¬ 0 < cwC g a c y r' x.to (aftS a m1 (valAt g u1) x.letter) := fun x hx => by (rw [take_at hz, List.mem_append, List.mem_singleton] at hx; rcases hx with hx | rfl; (exact hk1.2 x hx); (omega))
       refine AW.skip ?_
       refine AW.le (σ' := ⟨_, [(0, _), (2, _), (4, _), (6, _), (7, _), (9, _), (10, _), (11, _), (23, _), (24, _), (25, _)], [(12, _), (4, _), (888888, _), (9, _), (10, _)]⟩) (Le.sub0 U ⟨U, U, U, U, U, U, U, U, U, U, U, Y⟩ ⟨U, U, U, U, U, Y⟩) ?_
       refine AW.region ?_
       refine AWl.mv ?_
       refine AWl.mv ?_
       refine AWl.p (R_sub U (.no U) U (.tm U) (.tm U) (fun _ => by omega)) U ?_
       refine AWl.av ?_
       refine AWl.nil (AW.region ?_)
       refine AWl.p (R_add U (.no U) U (.tm U) (.const U) (fun _ => by omega)) U ?_
       refine AWl.mv ?_
       refine AWl.nil ?_
       repeat (with_reducible refine BlockQ.nor ?_)
       refine Round2.next (j + 1) (M - cwC g a c y r' z.to (aftS a m1 (valAt g u1) z.letter)) ⟨⟨by omega, hnx⟩, by omega⟩ (by omega) (Le.sub0 rfl ⟨rfl, rfl, rfl, rfl, rfl, rfl, rfl, rfl, Y⟩ ⟨(by rfl), (by rfl), (by rfl), Y⟩)
   · exact absurd h26 (by intro hf; (have hjl : (arcsC g c u1).length ≤ j := by (first | omega | (simp at hf; omega))); exact hk1.2 z0 (by rw [List.take_of_length_le hjl]; exact (pick_mem hz0).1) (pick_mem hz0).2)
 · skip
   try simp at h15
   refine AW.exit ?_
   refine AW.sr ?_
   refine AWl.mv ?_
   refine AWl.av ?_
   refine AWl.nil (AW.ret ?_)
   refine KRes.mk rfl ?_
   refine Res.one U (.tmp U .nil) U ?_
   (have hr0 : r = 0 := by (first | omega | (simp at h15; omega))); subst hr0; (have he2 := he.2); rw [gwS, List.append_nil] at he2; rw [he2]; rfl
end Go.Proofs.Ytamnfkfjfelbbaa
