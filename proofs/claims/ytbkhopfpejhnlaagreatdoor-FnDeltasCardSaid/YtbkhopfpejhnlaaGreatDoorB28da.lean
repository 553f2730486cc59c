import Derived.Test.YtbkhopfpejhnlaaGreatDoorB16da
import Derived.Test.YtbkhopfpejhnlaaGreatDoorAbsNda
import Derived.Test.YtbkhopfpejhnlaaGreatDoorOpenBda
set_option linter.unusedVariables false
set_option linter.unusedSimpArgs false
set_option maxHeartbeats 1000000
set_option maxRecDepth 100000
namespace Go.Q
open Go.D
def deltaB (a b : List TPair) : TDelta := ⟨psub b a, psub a b⟩
theorem psub_len (a b : List TPair) : (psub a b).length ≤ a.length := Nat.le_trans (setG_len _) (List.length_filter_le _ _)
theorem apAt_eq {l : List TPair} {k : Nat} {x : TPair} (h : l[k]? = some x) : apAt l k = (okP x && !(decide (0 < k) && !(pless (l[k - 1]?.getD default) x))) := by
 unfold apAt; rw [h]
theorem arePairs_all {l : List TPair} {k : Nat} (h : ∀ j, j < k → apAt l j = true) (hk : l.length ≤ k) : arePairs l = true := by
 unfold arePairs
 rw [List.all_eq_true]
 exact fun j hj => h j (by have := List.mem_range.1 hj; omega)
theorem arePairs_not {l : List TPair} {k : Nat} (h : apAt l k = false) (hk : k < l.length) : arePairs l = false := by
 unfold arePairs
 rw [List.all_eq_false]
 exact ⟨k, List.mem_range.2 hk, by rw [h]; simp⟩
def commonP (a b : List TPair) : Bool := a.any fun x => decide (x ∈ b)
theorem commonP_true {a b : List TPair} : commonP a b = true ↔ ∃ x, x ∈ a ∧ x ∈ b := by
 unfold commonP
 rw [List.any_eq_true]
 simp
theorem commonP_comm (a b : List TPair) : commonP a b = commonP b a := by
 rw [Bool.eq_iff_iff, commonP_true, commonP_true]
 exact ⟨fun ⟨x, h1, h2⟩ => ⟨x, h2, h1⟩, fun ⟨x, h1, h2⟩ => ⟨x, h2, h1⟩⟩
theorem all_no (a b : List TPair) : (a.all fun x => !decide (x ∈ b)) = !commonP a b := by
 unfold commonP
 rw [Bool.eq_iff_iff]
 simp
def withinP (a b : List TPair) : Bool := a.all fun x => decide (x ∈ b)
theorem psub_nil (a b : List TPair) : decide (0 < (psub a b).length) = !withinP a b := by
 rw [Bool.eq_iff_iff, decide_eq_true_eq, List.length_pos_iff_exists_mem]
 unfold psub withinP
 simp [mem_setG]
def isDelta (d : TDelta) : Bool := arePairs d.Added && arePairs d.Removed && !commonP d.Added d.Removed
def applyOk (l : List TPair) (d : TDelta) : Bool := isDelta d && arePairs l && !commonP d.Added l && withinP d.Removed l
def applyD (l : List TPair) (d : TDelta) : List TPair × Bool := if applyOk l d then (pmerge (psub l d.Removed) d.Added, true) else (l, false)
def composeOk (a b : TDelta) : Bool := isDelta a && isDelta b && !commonP b.Added a.Added && !commonP b.Removed a.Removed
def composeD (a b : TDelta) : TDelta × Bool := if composeOk a b then (⟨pmerge (psub a.Added b.Removed) (psub b.Added a.Removed), pmerge (psub a.Removed b.Added) (psub b.Removed a.Added)⟩, true) else (⟨[], []⟩, false)
theorem all_take {α : Type} {p : α → Bool} {l : List α} {k : Nat} {x : α} (h : l[k]? = some x) : (l.take (k + 1)).all p = ((l.take k).all p && p x) := by
 rw [take_at h, List.all_append]; simp
theorem pmerge_len (a b : List TPair) : (pmerge a b).length ≤ a.length + b.length := Nat.le_trans (setG_len _) (by simp)
end Go.Q
namespace Go.Proofs.YtbkhopfpejhnlaaGreatDoor
open Go.RowKit Go.Q Go.D
theorem specDeltaBetween (a b : List TPair) (ha : a.length ≤ 1073741824) (hb : b.length ≤ 1073741824) : FnT Tryz.prog 9 [.one (.sl 2 (a.map cPair)), .one (.sl 2 (b.map cPair))] (.a (.agg (cDelta (deltaB a b)))) := by
 refine FnT.walk Tryz.func9 U (by kernel_rfl) Tryz.ntmps9 U fun hlen w0 => ?_
 try simp [cPair, cToken, cExpr, cEdge, cGraph, cStep, cWalk, cChange, cBatch, cHistory, cPositions, cAutomaton, cProductStep, cPathAtom, cConjunction, cView, cDelta, cRegistered, cRegistry] at hlen
 refine AW.sr ?_
 refine AWl.add (R_alloc 4 U U U in28 U U U) U ?_
 refine AWl.nil (AW.sr ?_)
 refine AWl.mv U U U U U ?_
 refine AWl.mv U U U U U ?_
 refine AWl.adds (R_call 700 (specSubtractPairs _ _ (by assumption)) U U U (.cons (.tm U) U (.cons (.tm U) U .nil)) U U) U ?_
 refine AWl.mv U U U U U ?_
 refine AWl.mv U U U U U ?_
 refine AWl.adds (R_call 1000 (specSubtractPairs _ _ (by assumption)) U U U (.cons (.tm U) U (.cons (.tm U) U .nil)) U U) U ?_
 refine AWl.put (R_build (ps := [(0, .tmp 7), (1, .tmp 10)]) U U U in28 U U st28 (.cons (.tm U) U U fp28_0 (.cons (.tm U) U U fp28_1 .nil)) U) U ?_
 refine AWl.chgb (R_store_pb U U U (.tm U) (.tm U) U ty28 U U U (by kernel_rfl) U) ?_
 refine AWl.nil (AW.ret ?_)
 refine Res.one U (.cell U U ty28 U U .nil) U ?_
 rfl
theorem implDeltaBetween (a b : List TPair) (ha : a.length ≤ 1073741824) (hb : b.length ≤ 1073741824) : FnT Tryz.prog 7 [.one (.sl 2 (a.map cPair)), .one (.sl 2 (b.map cPair))] (.a (.agg (cDelta (deltaB a b)))) := by
 refine FnT.walk Tryz.func7 U (by kernel_rfl) Tryz.ntmps7 U fun hlen w0 => ?_
 try simp [cPair, cToken, cExpr, cEdge, cGraph, cStep, cWalk, cChange, cBatch, cHistory, cPositions, cAutomaton, cProductStep, cPathAtom, cConjunction, cView, cDelta, cRegistered, cRegistry] at hlen
 refine AW.sr ?_
 refine AWl.add (R_alloc 4 U U U in28 U U U) U ?_
 refine AWl.nil (AW.sr ?_)
 refine AWl.mv U U U U U ?_
 refine AWl.mv U U U U U ?_
 refine AWl.adds (R_call 700 (implSubtractPairs _ _ (by assumption)) U U U (.cons (.tm U) U (.cons (.tm U) U .nil)) U U) U ?_
 refine AWl.mv U U U U U ?_
 refine AWl.mv U U U U U ?_
 refine AWl.adds (R_call 1000 (implSubtractPairs _ _ (by assumption)) U U U (.cons (.tm U) U (.cons (.tm U) U .nil)) U U) U ?_
 refine AWl.put (R_build (ps := [(0, .tmp 7), (1, .tmp 10)]) U U U in28 U U st28 (.cons (.tm U) U U fp28_0 (.cons (.tm U) U U fp28_1 .nil)) U) U ?_
 refine AWl.chgb (R_store_pb U U U (.tm U) (.tm U) U ty28 U U U (by kernel_rfl) U) ?_
 refine AWl.nil (AW.ret ?_)
 refine Res.one U (.cell U U ty28 U U .nil) U ?_
 rfl
theorem implcompareInts (x y : Int) : FnT Tryz.prog 110 [.one (.v (.int .i64 x)), .one (.v (.int .i64 y))] (.a (.one (.v (.int .i64 (cmpI x y))))) := by
 refine FnT.walk Tryz.func110 U (by kernel_rfl) Tryz.ntmps110 U fun hlen w0 => ?_
 try simp [cPair, cToken, cExpr, cEdge, cGraph, cStep, cWalk, cChange, cBatch, cHistory, cPositions, cAutomaton, cProductStep, cPathAtom, cConjunction, cView, cDelta, cRegistered, cRegistry] at hlen
 refine AW.sr ?_
 refine AWl.ac U U U U U ?_
 refine AWl.nil (AW.seq ?_)
 refine AW.block ?_
 refine AW.sr ?_
 refine AWl.mv U U U U U ?_
 refine AWl.mv U U U U U ?_
 refine AWl.put (R_lt U (.no U) U (.tm U) (.tm U)) U ?_
 refine AWl.av U U U U U ?_
 refine AWl.nil ?_
 refine AW.cond (.tm U) (fun h5 => ?_) (fun h5 => ?_)
 · skip
   try simp at h5
   refine AW.sr ?_
   refine AWl.ac U U U U U ?_
   refine AWl.nil (AW.ret ?_)
   refine Res.v U U ?_
   unfold cmpI; rw [if_pos h5]
 · skip
   try simp at h5
   refine AW.sr ?_
   refine AWl.mv U U U U U ?_
   refine AWl.mv U U U U U ?_
   refine AWl.put (R_gt U (.no U) U (.tm U) (.tm U)) U ?_
   refine AWl.av U U U U U ?_
   refine AWl.nil ?_
   refine AW.cond (.tm U) (fun h9 => ?_) (fun h9 => ?_)
   · skip
     try simp at h9
     refine AW.seq ?_
     refine AW.le (σ' := ⟨_, [(0, _), (1, _), (4, _)], []⟩) (Le.sub0 U ⟨U, U, U, trivial⟩ trivial) ?_
     refine AW.region ?_
     refine AWl.ac U U U U U ?_
     refine AWl.nil (AW.ret ?_)
     refine Res.v U U ?_
     unfold cmpI; rw [if_neg (by omega), if_pos h9]
   · skip
     try simp at h9
     refine AW.skip ?_
     refine AW.seq ?_
     refine AW.le (σ' := ⟨_, [(0, _), (1, _), (4, _)], []⟩) (Le.sub0 U ⟨U, U, U, trivial⟩ trivial) ?_
     refine AW.region ?_
     refine AWl.ac U U U U U ?_
     refine AWl.nil (AW.ret ?_)
     refine Res.v U U ?_
     unfold cmpI; rw [if_neg (by omega), if_neg (by omega)]
theorem implcomparePairs (x y : TPair) : FnT Tryz.prog 80 [.agg (cPair x), .agg (cPair y)] (.a (.one (.v (.int .i64 (cmpP x y))))) := by
 refine FnT.walk Tryz.func80 U (by kernel_rfl) Tryz.ntmps80 U fun hlen w0 => ?_
 try simp [cPair, cToken, cExpr, cEdge, cGraph, cStep, cWalk, cChange, cBatch, cHistory, cPositions, cAutomaton, cProductStep, cPathAtom, cConjunction, cView, cDelta, cRegistered, cRegistry] at hlen
 refine AW.sr ?_
 refine AWl.put (R_boxz U U U (.tm U) (ts := _) (by first | rfl | exact cells_t1 _ | exact cells_t2 _)) U ?_
 refine AWl.put (R_boxz U U U (.tm U) (ts := _) (by first | rfl | exact cells_t1 _ | exact cells_t2 _)) U ?_
 refine AWl.ac U U U U U ?_
 refine AWl.nil (AW.seq ?_)
 refine AW.sr ?_
 refine AWl.put ((by first | exact R_fieldAddr U (.no U) U (.tm U) fl68_0 | exact R_fieldAddr_pp U (.no U) U (.tm U) fl68_0 | exact R_fieldAddr_vw U (.no U) U (.tm U) fl68_0 | exact R_fieldAddr_pr U (.no U) U (.tm U) fl68_0)) U ?_
 refine AWl.put ((by first | exact R_load U (.no U) U (.tm U) ty3 U U | exact R_load_pp U (.no U) U (.tm U) U ty3 U U | exact R_load_vw U (.no U) U (.tm U) ty3 U U | exact R_load_pr U (.no U) U (.tm U) U (by first | assumption | exact map_get (by assumption)) ty3 U U)) U ?_
 refine AWl.put ((by first | exact R_fieldAddr U (.no U) U (.tm U) fl68_0 | exact R_fieldAddr_pp U (.no U) U (.tm U) fl68_0 | exact R_fieldAddr_vw U (.no U) U (.tm U) fl68_0 | exact R_fieldAddr_pr U (.no U) U (.tm U) fl68_0)) U ?_
 refine AWl.put ((by first | exact R_load U (.no U) U (.tm U) ty3 U U | exact R_load_pp U (.no U) U (.tm U) U ty3 U U | exact R_load_vw U (.no U) U (.tm U) ty3 U U | exact R_load_pr U (.no U) U (.tm U) U (by first | assumption | exact map_get (by assumption)) ty3 U U)) U ?_
 refine AWl.put (R_ne U (.no U) U (.tm U) (.tm U)) U ?_
 refine AWl.nil ?_
 refine AW.cond (.tm U) (fun h9 => ?_) (fun h9 => ?_)
 · skip
   try simp at h9
   refine AW.sr ?_
   refine AWl.put ((by first | exact R_fieldAddr U (.no U) U (.tm U) fl68_0 | exact R_fieldAddr_pp U (.no U) U (.tm U) fl68_0 | exact R_fieldAddr_vw U (.no U) U (.tm U) fl68_0 | exact R_fieldAddr_pr U (.no U) U (.tm U) fl68_0)) U ?_
   refine AWl.put ((by first | exact R_load U (.no U) U (.tm U) ty3 U U | exact R_load_pp U (.no U) U (.tm U) U ty3 U U | exact R_load_vw U (.no U) U (.tm U) ty3 U U | exact R_load_pr U (.no U) U (.tm U) U (by first | assumption | exact map_get (by assumption)) ty3 U U)) U ?_
   refine AWl.put ((by first | exact R_fieldAddr U (.no U) U (.tm U) fl68_0 | exact R_fieldAddr_pp U (.no U) U (.tm U) fl68_0 | exact R_fieldAddr_vw U (.no U) U (.tm U) fl68_0 | exact R_fieldAddr_pr U (.no U) U (.tm U) fl68_0)) U ?_
   refine AWl.put ((by first | exact R_load U (.no U) U (.tm U) ty3 U U | exact R_load_pp U (.no U) U (.tm U) U ty3 U U | exact R_load_vw U (.no U) U (.tm U) ty3 U U | exact R_load_pr U (.no U) U (.tm U) U (by first | assumption | exact map_get (by assumption)) ty3 U U)) U ?_
   refine AWl.put (R_callz (FnT.fr (implcompareInts _ _)) U (.no U) U (.cons (.tm U) U (.cons (.tm U) U .nil))) U ?_
   refine AWl.av U U U U U ?_
   refine AWl.nil (AW.ret ?_)
   refine Res.v U U ?_
   unfold cmpP; rw [if_pos h9]
 · skip
   try simp at h9
   refine AW.skip ?_
   refine AW.sr ?_
   refine AWl.put ((by first | exact R_fieldAddr U (.no U) U (.tm U) fl68_1 | exact R_fieldAddr_pp U (.no U) U (.tm U) fl68_1 | exact R_fieldAddr_vw U (.no U) U (.tm U) fl68_1 | exact R_fieldAddr_pr U (.no U) U (.tm U) fl68_1)) U ?_
   refine AWl.put ((by first | exact R_load U (.no U) U (.tm U) ty3 U U | exact R_load_pp U (.no U) U (.tm U) U ty3 U U | exact R_load_vw U (.no U) U (.tm U) ty3 U U | exact R_load_pr U (.no U) U (.tm U) U (by first | assumption | exact map_get (by assumption)) ty3 U U)) U ?_
   refine AWl.put ((by first | exact R_fieldAddr U (.no U) U (.tm U) fl68_1 | exact R_fieldAddr_pp U (.no U) U (.tm U) fl68_1 | exact R_fieldAddr_vw U (.no U) U (.tm U) fl68_1 | exact R_fieldAddr_pr U (.no U) U (.tm U) fl68_1)) U ?_
   refine AWl.put ((by first | exact R_load U (.no U) U (.tm U) ty3 U U | exact R_load_pp U (.no U) U (.tm U) U ty3 U U | exact R_load_vw U (.no U) U (.tm U) ty3 U U | exact R_load_pr U (.no U) U (.tm U) U (by first | assumption | exact map_get (by assumption)) ty3 U U)) U ?_
   refine AWl.put (R_callz (FnT.fr (implcompareInts _ _)) U (.no U) U (.cons (.tm U) U (.cons (.tm U) U .nil))) U ?_
   refine AWl.av U U U U U ?_
   refine AWl.nil (AW.ret ?_)
   refine Res.v U U ?_
   unfold cmpP; rw [if_neg (by simp [h9])]
theorem specArePairs (l : List TPair) : FnT Tryz.prog 10 [.one (.sl 2 (l.map cPair))] (.a (.one (.v (.bool (arePairs l))))) := by
 refine FnT.walk Tryz.func10 U (by kernel_rfl) Tryz.ntmps10 U fun hlen w0 => ?_
 try simp [cPair, cToken, cExpr, cEdge, cGraph, cStep, cWalk, cChange, cBatch, cHistory, cPositions, cAutomaton, cProductStep, cPathAtom, cConjunction, cView, cDelta, cRegistered, cRegistry] at hlen
 refine AW.sr ?_
 refine AWl.ac U U U U U ?_
 refine AWl.nil (AW.seq ?_)
 refine AW.sr ?_
 refine AWl.ac U U U U U ?_
 refine AWl.nil (AW.block ?_)
 refine AW.loop1 (fun (k : Nat) => (k ≤ l.length ∧ ∀ j, j < k → apAt l j = true) ∧ True) (fun (k : Nat) => ⟨_, [(3, (true, .a (.one (.t (.v (.int .i64 (k : Nat))))))), (0, _)], []⟩) (fun (k : Nat) => l.length - k) (0) ⟨⟨Nat.zero_le _, fun j hj => absurd hj (Nat.not_lt_zero j)⟩, trivial⟩ (Le.sub0 U ⟨U, U, trivial⟩ trivial) ?_
 rintro k ⟨hk, he⟩
 refine AW.seq ?_
 refine AW.sr ?_
 refine AWl.mv U U U U U ?_
 refine AWl.mv U U U U U ?_
 refine AWl.put ((by first | exact R_lenm U (.no U) U (.tm U) (by first | exact .t | exact .rf U | exact .vw | exact .nil) Tryz.underlying24 | exact R_len U (.no U) U (.tm U) (by first | exact .t | exact .rf U | exact .vw | exact .nil) Tryz.underlying24)) U ?_
 refine AWl.put (R_lt U (.no U) U (.tm U) (.tm U)) U ?_
 refine AWl.nil ?_
 refine AW.cond (.tm U) (fun h7 => ?_) (fun h7 => ?_)
 · skip
   try simp at h7
   obtain ⟨x, hx⟩ : ∃ ξ, l[k]? = some ξ := ⟨_, List.getElem?_eq_getElem (by omega)⟩
   refine AW.skip ?_
   refine AW.seq ?_
   refine AW.block ?_
   refine AW.seq ?_
   refine AW.drawn 33 (nthB [[], [], [0, 1], [0, 1, 2], [0, 1, 2, 3], [0, 1, 2, 3, 4], [0, 1, 2, 3, 4, 5], [0, 1, 2, 3, 4, 5, 6], [0, 1, 2, 3, 4, 5, 6, 7], [0, 1, 2, 3, 4, 5, 6, 7], [0, 1, 2, 3, 4, 5, 6, 7, 8, 9], [0, 1, 2, 3, 4, 5, 6, 7, 8, 9, 10], [0, 1, 2, 3, 4, 5, 6, 7, 8, 9, 10, 11], [0, 1, 2, 3, 4, 5, 6, 7, 8, 9, 10, 11, 12], [0, 1, 2, 3, 4, 5, 6, 7, 8, 9, 10, 11, 12, 13], [0, 1, 2, 3, 4, 5, 6, 7, 8, 9, 10, 11, 12, 13, 14], [0, 1, 2, 3, 4, 5, 6, 7, 8, 9, 10, 11, 12, 13, 14, 15], [0, 1, 2, 3, 4, 5, 6, 7, 8, 9, 10, 11, 12, 13, 14, 15, 16], [0, 1, 2, 3, 4, 5, 6, 7, 8, 9, 10, 11, 12, 13, 14, 15, 16, 17], [0, 1, 2, 3, 4, 5, 6, 7, 8, 9, 10, 11, 12, 13, 14, 15, 16, 17, 18], [0, 1, 2, 3, 4, 5, 6, 7, 8, 9, 10, 11, 12, 13, 14, 15, 16, 17, 18, 19], [0, 1, 2, 3, 4, 5, 6, 7, 8, 9, 10, 11, 12, 13, 14, 15, 16, 17, 18, 19], [0, 1, 2, 3, 4, 5, 6, 7, 8, 9, 10, 11, 12, 13, 14, 15, 16, 17, 18, 19, 21], [0, 1, 2, 3, 4, 5, 6, 7, 8, 9, 10, 11, 12, 13, 14, 15, 16, 17, 18, 19, 20, 21, 22], [0, 1, 2, 3, 4, 5, 6, 7, 8, 9, 10, 11, 12, 13, 14, 15, 16, 17, 18, 19, 20, 21, 22, 23], [0, 1, 2, 3, 4, 5, 6, 7, 8, 9, 10, 11, 12, 13, 14, 15, 16, 17, 18, 19], [0, 1, 2, 3, 4, 5, 6, 7, 8, 9, 10, 11, 12, 13, 14, 15, 16, 17, 18, 19], [0, 1, 2, 3, 4, 5, 6, 7, 8, 9, 10, 11, 12, 13, 14, 15, 16, 17, 18, 19, 25, 26], [0, 1, 2, 3, 4, 5, 6, 7, 8, 9, 10, 11, 12, 13, 14, 15, 16, 17, 18, 19, 25, 26, 27], [0, 1, 2, 3, 4, 5, 6, 7, 8, 9, 10, 11, 12, 13, 14, 15, 16, 17, 18, 19, 20, 21, 22, 23, 24, 25, 26, 27, 28], [0, 1, 2, 3, 4, 5, 6, 7, 8, 9, 10, 11, 12, 13, 14, 15, 16, 17, 18, 19, 20, 21, 22, 23, 24, 25, 26, 27, 28, 29], [0, 1, 2, 3, 4, 5, 6, 7, 8, 9, 10, 11, 12, 13, 14, 15, 16, 17, 18, 19, 20, 21, 22, 23, 24, 25, 26, 27, 28, 29, 30], [0, 1, 2, 3, 4, 5, 6, 7, 8, 9, 10, 11, 12, 13, 14, 15, 16, 17, 18, 19, 20, 21, 22, 23, 24, 25, 26, 27, 28, 29, 30, 31]]) (by kernel_rfl) (by kernel_rfl) (by kernel_rfl) ?_
   refine DrawC.step U U U (Loc.of U fun σ' hs => R_move U (.no U) (hd_sup hs U) (.tm (hs.slots _ _ U))) ?_
   refine DrawC.step U U U (Loc.of U fun σ' hs => R_move U (.no U) (hd_sup hs U) (.tm (hs.slots _ _ U))) ?_
   refine DrawC.step U U U (Loc.of U fun σ' hs => (by first | exact R_indexAddr U (.no U) (hd_sup hs U) (.tm (hs.slots _ _ U)) (.tm (hs.slots _ _ U)) Tryz.underlying24 ty68 (fun _ => ⟨by omega, (map_get hx)⟩) | exact R_indexAddr_vw U (.no U) (hd_sup hs U) (.tm (hs.slots _ _ U)) (.tm (hs.slots _ _ U)) Tryz.underlying24 ty68 (fun _ => ⟨by omega, (map_get hx)⟩) | exact R_indexAddr_rf U (.no U) (hd_sup hs U) (.tm (hs.slots _ _ U)) (hs.res _ _ U) (.tm (hs.slots _ _ U)) Tryz.underlying24 ty68 (fun _ => ⟨by omega, (map_get hx)⟩))) ?_
   refine DrawC.step U U U (Loc.of U fun σ' hs => (by first | exact R_fieldAddr U (.no U) (hd_sup hs U) (.tm (hs.slots _ _ U)) fl68_0 | exact R_fieldAddr_pp U (.no U) (hd_sup hs U) (.tm (hs.slots _ _ U)) fl68_0 | exact R_fieldAddr_vw U (.no U) (hd_sup hs U) (.tm (hs.slots _ _ U)) fl68_0 | exact R_fieldAddr_pr U (.no U) (hd_sup hs U) (.tm (hs.slots _ _ U)) fl68_0)) ?_
   refine DrawC.step U U U (Loc.of U fun σ' hs => (by first | exact R_load U (.no U) (hd_sup hs U) (.tm (hs.slots _ _ U)) ty3 U U | exact R_load_pp U (.no U) (hd_sup hs U) (.tm (hs.slots _ _ U)) (hs.res _ _ U) ty3 U U | exact R_load_vw U (.no U) (hd_sup hs U) (.tm (hs.slots _ _ U)) ty3 U U | exact R_load_pr U (.no U) (hd_sup hs U) (.tm (hs.slots _ _ U)) (hs.res _ _ U) (map_get hx) ty3 U U)) ?_
   refine DrawC.step U U U (Loc.of U fun σ' hs => R_callz (FnT.fr (specl1In _ _ _)) U (.no U) (hd_sup hs U) (.cons (.tm (hs.slots _ _ U)) (readA_sup hs U) (.cons (.const U) (readA_sup hs U) (.cons (.const U) (readA_sup hs U) .nil)))) ?_
   refine DrawC.step U U U (Loc.of U fun σ' hs => R_not U (.no U) (hd_sup hs U) (.tm (hs.slots _ _ U))) ?_
   refine DrawC.step U U U (Loc.of U fun σ' hs => R_move U (.no U) (hd_sup hs U) (.tm (hs.slots _ _ U))) ?_
   refine DrawC.step U U U (Loc.of U fun σ' hs => R_move U (by first | exact .not1 U U (hs.slots _ _ U) (by rw [hs.n]; rfl) | exact .not U U (hs.slots _ _ U) (by rw [hs.n]; rfl)) (hd_sup hs U) (.tmp (hs.slots _ _ U) (by first | exact fun _ => rfl | exact id | simp))) ?_
   refine DrawC.step U U U (Loc.of U fun σ' hs => R_move U (by first | exact .not1 U U (hs.slots _ _ U) (by rw [hs.n]; rfl) | exact .not U U (hs.slots _ _ U) (by rw [hs.n]; rfl)) (hd_sup hs U) (.tmp (hs.slots _ _ U) (by first | exact fun _ => rfl | exact id | simp))) ?_
   refine DrawC.step U U U (Loc.of U fun σ' hs => (by first | exact R_indexAddr U (by first | exact .not1 U U (hs.slots _ _ U) (by rw [hs.n]; rfl) | exact .not U U (hs.slots _ _ U) (by rw [hs.n]; rfl)) (hd_sup hs U) (.tmp (hs.slots _ _ U) (by first | exact fun _ => rfl | exact id | simp)) (.tmp (hs.slots _ _ U) (by first | exact fun _ => rfl | exact id | simp)) Tryz.underlying24 ty68 (fun hq => by (try simp at hq); exact ⟨by omega, (map_get hx)⟩) | exact R_indexAddr_vw U (by first | exact .not1 U U (hs.slots _ _ U) (by rw [hs.n]; rfl) | exact .not U U (hs.slots _ _ U) (by rw [hs.n]; rfl)) (hd_sup hs U) (.tmp (hs.slots _ _ U) (by first | exact fun _ => rfl | exact id | simp)) (.tmp (hs.slots _ _ U) (by first | exact fun _ => rfl | exact id | simp)) Tryz.underlying24 ty68 (fun hq => by (try simp at hq); exact ⟨by omega, (map_get hx)⟩) | exact R_indexAddr_rf U (by first | exact .not1 U U (hs.slots _ _ U) (by rw [hs.n]; rfl) | exact .not U U (hs.slots _ _ U) (by rw [hs.n]; rfl)) (hd_sup hs U) (.tmp (hs.slots _ _ U) (by first | exact fun _ => rfl | exact id | simp)) (hs.res _ _ U) (.tmp (hs.slots _ _ U) (by first | exact fun _ => rfl | exact id | simp)) Tryz.underlying24 ty68 (fun hq => by (try simp at hq); exact ⟨by omega, (map_get hx)⟩))) ?_
   refine DrawC.step U U U (Loc.of U fun σ' hs => (by first | exact R_fieldAddr U (by first | exact .not1 U U (hs.slots _ _ U) (by rw [hs.n]; rfl) | exact .not U U (hs.slots _ _ U) (by rw [hs.n]; rfl)) (hd_sup hs U) (.tmp (hs.slots _ _ U) (by first | exact fun _ => rfl | exact id | simp)) fl68_1 | exact R_fieldAddr_pp U (by first | exact .not1 U U (hs.slots _ _ U) (by rw [hs.n]; rfl) | exact .not U U (hs.slots _ _ U) (by rw [hs.n]; rfl)) (hd_sup hs U) (.tmp (hs.slots _ _ U) (by first | exact fun _ => rfl | exact id | simp)) fl68_1 | exact R_fieldAddr_vw U (by first | exact .not1 U U (hs.slots _ _ U) (by rw [hs.n]; rfl) | exact .not U U (hs.slots _ _ U) (by rw [hs.n]; rfl)) (hd_sup hs U) (.tmp (hs.slots _ _ U) (by first | exact fun _ => rfl | exact id | simp)) fl68_1 | exact R_fieldAddr_pr U (by first | exact .not1 U U (hs.slots _ _ U) (by rw [hs.n]; rfl) | exact .not U U (hs.slots _ _ U) (by rw [hs.n]; rfl)) (hd_sup hs U) (.tmp (hs.slots _ _ U) (by first | exact fun _ => rfl | exact id | simp)) fl68_1)) ?_
   refine DrawC.step U U U (Loc.of U fun σ' hs => (by first | exact R_load U (by first | exact .not1 U U (hs.slots _ _ U) (by rw [hs.n]; rfl) | exact .not U U (hs.slots _ _ U) (by rw [hs.n]; rfl)) (hd_sup hs U) (.tmp (hs.slots _ _ U) (by first | exact fun _ => rfl | exact id | simp)) ty3 U U | exact R_load_pp U (by first | exact .not1 U U (hs.slots _ _ U) (by rw [hs.n]; rfl) | exact .not U U (hs.slots _ _ U) (by rw [hs.n]; rfl)) (hd_sup hs U) (.tmp (hs.slots _ _ U) (by first | exact fun _ => rfl | exact id | simp)) (hs.res _ _ U) ty3 U U | exact R_load_vw U (by first | exact .not1 U U (hs.slots _ _ U) (by rw [hs.n]; rfl) | exact .not U U (hs.slots _ _ U) (by rw [hs.n]; rfl)) (hd_sup hs U) (.tmp (hs.slots _ _ U) (by first | exact fun _ => rfl | exact id | simp)) ty3 U U | exact R_load_pr U (by first | exact .not1 U U (hs.slots _ _ U) (by rw [hs.n]; rfl) | exact .not U U (hs.slots _ _ U) (by rw [hs.n]; rfl)) (hd_sup hs U) (.tmp (hs.slots _ _ U) (by first | exact fun _ => rfl | exact id | simp)) (hs.res _ _ U) (map_get hx) ty3 U U)) ?_
   refine DrawC.step U U U (Loc.of U fun σ' hs => R_callz (FnT.fr (specl1In _ _ _)) U (by first | exact .not1 U U (hs.slots _ _ U) (by rw [hs.n]; rfl) | exact .not U U (hs.slots _ _ U) (by rw [hs.n]; rfl)) (hd_sup hs U) (.cons (.tmp (hs.slots _ _ U) (by first | exact fun _ => rfl | exact id | simp)) (readA_sup hs U) (.cons (.const U) (readA_sup hs U) (.cons (.const U) (readA_sup hs U) .nil)))) ?_
   refine DrawC.step U U U (Loc.of U fun σ' hs => R_not U (by first | exact .not1 U U (hs.slots _ _ U) (by rw [hs.n]; rfl) | exact .not U U (hs.slots _ _ U) (by rw [hs.n]; rfl)) (hd_sup hs U) (.tmp (hs.slots _ _ U) (by first | exact fun _ => rfl | exact id | simp))) ?_
   refine DrawC.step U U U (Loc.of U fun σ' hs => R_or U (.no U) (hd_sup hs U) (.tm (hs.slots _ _ U)) (.tmp (hs.slots _ _ U) (by first | exact fun _ => rfl | exact id | simp))) ?_
   refine DrawC.step U U U (Loc.of U fun σ' hs => R_move U (.no U) (hd_sup hs U) (.tm (hs.slots _ _ U))) ?_
   refine DrawC.step U U U (Loc.of U fun σ' hs => R_move U (by first | exact .not1 U U (hs.slots _ _ U) (by rw [hs.n]; rfl) | exact .not U U (hs.slots _ _ U) (by rw [hs.n]; rfl)) (hd_sup hs U) (.tmp (hs.slots _ _ U) (by first | exact fun _ => rfl | exact id | simp))) ?_
   refine DrawC.step U U U (Loc.of U fun σ' hs => R_gt U (by first | exact .not1 U U (hs.slots _ _ U) (by rw [hs.n]; rfl) | exact .not U U (hs.slots _ _ U) (by rw [hs.n]; rfl)) (hd_sup hs U) (.tmp (hs.slots _ _ U) (by first | exact fun _ => rfl | exact id | simp)) (.const U)) ?_
   refine DrawC.step U U U (Loc.of U fun σ' hs => R_move U (by first | exact .not1 U U (hs.slots _ _ U) (by rw [hs.n]; rfl) | exact .not U U (hs.slots _ _ U) (by rw [hs.n]; rfl)) (hd_sup hs U) (.tmp (hs.slots _ _ U) (by first | exact fun _ => rfl | exact id | simp))) ?_
   refine DrawC.step U U U (Loc.of U fun σ' hs => R_move U (by first | exact .yes1 U U (hs.slots _ _ U) (by rw [hs.n]; rfl) | exact .yes U U (hs.slots _ _ U) (by rw [hs.n]; rfl)) (hd_sup hs U) (.tmp (hs.slots _ _ U) (by first | exact fun _ => rfl | exact id | simp))) ?_
   refine DrawC.step U U U (Loc.of U fun σ' hs => R_move U (by first | exact .yes1 U U (hs.slots _ _ U) (by rw [hs.n]; rfl) | exact .yes U U (hs.slots _ _ U) (by rw [hs.n]; rfl)) (hd_sup hs U) (.tmp (hs.slots _ _ U) (by first | exact fun _ => rfl | exact id | simp))) ?_
   refine DrawC.step U U U (Loc.of U fun σ' hs => R_sub U (by first | exact .yes1 U U (hs.slots _ _ U) (by rw [hs.n]; rfl) | exact .yes U U (hs.slots _ _ U) (by rw [hs.n]; rfl)) (hd_sup hs U) (.tmp (hs.slots _ _ U) (by first | exact fun _ => rfl | exact id | simp)) (.const U) (fun hq => by first | omega | (simp at hq; omega))) ?_
   refine DrawC.step U U U (Loc.of U fun σ' hs => (by first | exact R_indexAddr U (by first | exact .yes1 U U (hs.slots _ _ U) (by rw [hs.n]; rfl) | exact .yes U U (hs.slots _ _ U) (by rw [hs.n]; rfl)) (hd_sup hs U) (.tmp (hs.slots _ _ U) (by first | exact fun _ => rfl | exact id | simp)) (.tmp (hs.slots _ _ U) (by first | exact fun _ => rfl | exact id | simp)) Tryz.underlying24 ty68 (fun hq => by simp at hq; exact ⟨by omega, map_get (l := l) (x := l[((k : Int) - 1).toNat]?.getD default) (getD_at (by omega))⟩) | exact R_indexAddr_vw U (by first | exact .yes1 U U (hs.slots _ _ U) (by rw [hs.n]; rfl) | exact .yes U U (hs.slots _ _ U) (by rw [hs.n]; rfl)) (hd_sup hs U) (.tmp (hs.slots _ _ U) (by first | exact fun _ => rfl | exact id | simp)) (.tmp (hs.slots _ _ U) (by first | exact fun _ => rfl | exact id | simp)) Tryz.underlying24 ty68 (fun hq => by simp at hq; exact ⟨by omega, map_get (l := l) (x := l[((k : Int) - 1).toNat]?.getD default) (getD_at (by omega))⟩) | exact R_indexAddr_rf U (by first | exact .yes1 U U (hs.slots _ _ U) (by rw [hs.n]; rfl) | exact .yes U U (hs.slots _ _ U) (by rw [hs.n]; rfl)) (hd_sup hs U) (.tmp (hs.slots _ _ U) (by first | exact fun _ => rfl | exact id | simp)) (hs.res _ _ U) (.tmp (hs.slots _ _ U) (by first | exact fun _ => rfl | exact id | simp)) Tryz.underlying24 ty68 (fun hq => by simp at hq; exact ⟨by omega, map_get (l := l) (x := l[((k : Int) - 1).toNat]?.getD default) (getD_at (by omega))⟩))) ?_
   refine DrawC.step U U U (Loc.of U fun σ' hs => (by first | exact R_load U (by first | exact .yes1 U U (hs.slots _ _ U) (by rw [hs.n]; rfl) | exact .yes U U (hs.slots _ _ U) (by rw [hs.n]; rfl)) (hd_sup hs U) (.tmp (hs.slots _ _ U) (by first | exact fun _ => rfl | exact id | simp)) ty68 U U | exact R_load_pp U (by first | exact .yes1 U U (hs.slots _ _ U) (by rw [hs.n]; rfl) | exact .yes U U (hs.slots _ _ U) (by rw [hs.n]; rfl)) (hd_sup hs U) (.tmp (hs.slots _ _ U) (by first | exact fun _ => rfl | exact id | simp)) (hs.res _ _ U) ty68 U U | exact R_load_vw U (by first | exact .yes1 U U (hs.slots _ _ U) (by rw [hs.n]; rfl) | exact .yes U U (hs.slots _ _ U) (by rw [hs.n]; rfl)) (hd_sup hs U) (.tmp (hs.slots _ _ U) (by first | exact fun _ => rfl | exact id | simp)) ty68 U U | exact R_load_pr U (by first | exact .yes1 U U (hs.slots _ _ U) (by rw [hs.n]; rfl) | exact .yes U U (hs.slots _ _ U) (by rw [hs.n]; rfl)) (hd_sup hs U) (.tmp (hs.slots _ _ U) (by first | exact fun _ => rfl | exact id | simp)) (hs.res _ _ U) (fun hq => by simp at hq; exact map_get (l := l) (x := l[((k : Int) - 1).toNat]?.getD default) (getD_at (by omega))) ty68 U U | exact R_load_prq U (by first | exact .yes1 U U (hs.slots _ _ U) (by rw [hs.n]; rfl) | exact .yes U U (hs.slots _ _ U) (by rw [hs.n]; rfl)) (hd_sup hs U) (.tmp (hs.slots _ _ U) (by first | exact fun _ => rfl | exact id | simp)) (hs.res _ _ U) (fun hq => by simp at hq; exact map_get (l := l) (x := l[((k : Int) - 1).toNat]?.getD default) (getD_at (by omega))) ty68 U U)) ?_
   refine DrawC.step U U U (Loc.of U fun σ' hs => R_move U (by first | exact .yes1 U U (hs.slots _ _ U) (by rw [hs.n]; rfl) | exact .yes U U (hs.slots _ _ U) (by rw [hs.n]; rfl)) (hd_sup hs U) (.tmp (hs.slots _ _ U) (by first | exact fun _ => rfl | exact id | simp))) ?_
   refine DrawC.step U U U (Loc.of U fun σ' hs => R_move U (by first | exact .yes1 U U (hs.slots _ _ U) (by rw [hs.n]; rfl) | exact .yes U U (hs.slots _ _ U) (by rw [hs.n]; rfl)) (hd_sup hs U) (.tmp (hs.slots _ _ U) (by first | exact fun _ => rfl | exact id | simp))) ?_
   refine DrawC.step U U U (Loc.of U fun σ' hs => (by first | exact R_indexAddr U (by first | exact .yes1 U U (hs.slots _ _ U) (by rw [hs.n]; rfl) | exact .yes U U (hs.slots _ _ U) (by rw [hs.n]; rfl)) (hd_sup hs U) (.tmp (hs.slots _ _ U) (by first | exact fun _ => rfl | exact id | simp)) (.tmp (hs.slots _ _ U) (by first | exact fun _ => rfl | exact id | simp)) Tryz.underlying24 ty68 (fun hq => by (try simp at hq); exact ⟨by omega, (map_get hx)⟩) | exact R_indexAddr_vw U (by first | exact .yes1 U U (hs.slots _ _ U) (by rw [hs.n]; rfl) | exact .yes U U (hs.slots _ _ U) (by rw [hs.n]; rfl)) (hd_sup hs U) (.tmp (hs.slots _ _ U) (by first | exact fun _ => rfl | exact id | simp)) (.tmp (hs.slots _ _ U) (by first | exact fun _ => rfl | exact id | simp)) Tryz.underlying24 ty68 (fun hq => by (try simp at hq); exact ⟨by omega, (map_get hx)⟩) | exact R_indexAddr_rf U (by first | exact .yes1 U U (hs.slots _ _ U) (by rw [hs.n]; rfl) | exact .yes U U (hs.slots _ _ U) (by rw [hs.n]; rfl)) (hd_sup hs U) (.tmp (hs.slots _ _ U) (by first | exact fun _ => rfl | exact id | simp)) (hs.res _ _ U) (.tmp (hs.slots _ _ U) (by first | exact fun _ => rfl | exact id | simp)) Tryz.underlying24 ty68 (fun hq => by (try simp at hq); exact ⟨by omega, (map_get hx)⟩))) ?_
   refine DrawC.step U U U (Loc.of U fun σ' hs => (by first | exact R_load U (by first | exact .yes1 U U (hs.slots _ _ U) (by rw [hs.n]; rfl) | exact .yes U U (hs.slots _ _ U) (by rw [hs.n]; rfl)) (hd_sup hs U) (.tmp (hs.slots _ _ U) (by first | exact fun _ => rfl | exact id | simp)) ty68 U U | exact R_load_pp U (by first | exact .yes1 U U (hs.slots _ _ U) (by rw [hs.n]; rfl) | exact .yes U U (hs.slots _ _ U) (by rw [hs.n]; rfl)) (hd_sup hs U) (.tmp (hs.slots _ _ U) (by first | exact fun _ => rfl | exact id | simp)) (hs.res _ _ U) ty68 U U | exact R_load_vw U (by first | exact .yes1 U U (hs.slots _ _ U) (by rw [hs.n]; rfl) | exact .yes U U (hs.slots _ _ U) (by rw [hs.n]; rfl)) (hd_sup hs U) (.tmp (hs.slots _ _ U) (by first | exact fun _ => rfl | exact id | simp)) ty68 U U | exact R_load_pr U (by first | exact .yes1 U U (hs.slots _ _ U) (by rw [hs.n]; rfl) | exact .yes U U (hs.slots _ _ U) (by rw [hs.n]; rfl)) (hd_sup hs U) (.tmp (hs.slots _ _ U) (by first | exact fun _ => rfl | exact id | simp)) (hs.res _ _ U) (map_get hx) ty68 U U)) ?_
   refine DrawC.step U U U (Loc.of U fun σ' hs => R_callq U (by first | exact .yes1 U U (hs.slots _ _ U) (by rw [hs.n]; rfl) | exact .yes U U (hs.slots _ _ U) (by rw [hs.n]; rfl)) (hd_sup hs U) (.cons (.tmp (hs.slots _ _ U) (by first | exact fun _ => rfl | exact id | simp)) (readA_sup hs U) (.cons (.tmp (hs.slots _ _ U) (by first | exact fun _ => rfl | exact id | simp)) (readA_sup hs U) .nil)) fun hq => FnT.fr (specl15Less (l[((k : Int) - 1).toNat]?.getD default) x)) ?_
   refine DrawC.step U U U (Loc.of U fun σ' hs => R_not U (by first | exact .yes1 U U (hs.slots _ _ U) (by rw [hs.n]; rfl) | exact .yes U U (hs.slots _ _ U) (by rw [hs.n]; rfl)) (hd_sup hs U) (.tmp (hs.slots _ _ U) (by first | exact fun _ => rfl | exact id | simp))) ?_
   refine DrawC.step U U U (Loc.of U fun σ' hs => R_and U (by first | exact .not1 U U (hs.slots _ _ U) (by rw [hs.n]; rfl) | exact .not U U (hs.slots _ _ U) (by rw [hs.n]; rfl)) (hd_sup hs U) (.tmp (hs.slots _ _ U) (by first | exact fun _ => rfl | exact id | simp)) (.tmp (hs.slots _ _ U) (by first | exact fun _ => rfl | exact id | simp))) ?_
   refine DrawC.step U U U (Loc.of U fun σ' hs => R_or U (.no U) (hd_sup hs U) (.tm (hs.slots _ _ U)) (.tmp (hs.slots _ _ U) (by first | exact fun _ => rfl | exact id | simp))) ?_
   refine DrawC.fin U U ?_
   refine AWl.nil ?_
   refine AW.cond (.tm U) (fun h42 => ?_) (fun h42 => ?_)
   · skip
     try simp at h42
     refine AW.seq ?_
     refine AW.le (σ' := ⟨_, [(0, _), (3, _)], []⟩) (Le.sub0 U ⟨U, U, trivial⟩ trivial) ?_
     refine AW.region ?_
     refine AWl.ac U U U U U ?_
     refine AWl.nil (AW.ret ?_)
     refine Res.v U U ?_
     rw [arePairs_not (k := k) (by rw [apAt_eq hx]; unfold okP; rw [show k - 1 = ((k : Int) - 1).toNat by omega]; simp at h42 ⊢; grind) (by omega)]
   · skip
     try simp at h42
     refine AW.skip ?_
     refine AW.le (σ' := ⟨_, [(0, _), (3, _)], []⟩) (Le.sub0 U ⟨U, U, trivial⟩ trivial) ?_
     refine AW.region ?_
     refine AWl.mv U U U U U ?_
     refine AWl.put (R_add U (.no U) U (.tm U) (.const U) (fun _ => by omega)) U ?_
     refine AWl.av U U U U U ?_
     refine AWl.nil ?_
     repeat (with_reducible refine BlockQ.nor ?_)
     refine Round1.next (k + 1) ⟨⟨by omega, fun j hj => by rcases Nat.lt_or_eq_of_le (Nat.le_of_lt_succ hj) with h | h; exact hk.2 j h; (subst h; rw [apAt_eq hx]; unfold okP; rw [show j - 1 = ((j : Int) - 1).toNat by omega]; simp at h42 ⊢; grind)⟩, trivial⟩ (by omega) (Le.sub0 rfl ⟨rfl, rfl, trivial⟩ trivial)
 · skip
   try simp at h7
   refine AW.exit ?_
   refine AW.sr ?_
   refine AWl.ac U U U U U ?_
   refine AWl.nil (AW.ret ?_)
   refine Res.v U U ?_
   rw [arePairs_all hk.2 (by omega)]
theorem implArePairs (l : List TPair) : FnT Tryz.prog 43 [.one (.sl 2 (l.map cPair))] (.a (.one (.v (.bool (arePairs l))))) := by
 refine FnT.walk Tryz.func43 U (by kernel_rfl) Tryz.ntmps43 U fun hlen w0 => ?_
 try simp [cPair, cToken, cExpr, cEdge, cGraph, cStep, cWalk, cChange, cBatch, cHistory, cPositions, cAutomaton, cProductStep, cPathAtom, cConjunction, cView, cDelta, cRegistered, cRegistry] at hlen
 refine AW.sr ?_
 refine AWl.ac U U U U U ?_
 refine AWl.nil (AW.seq ?_)
 refine AW.sr ?_
 refine AWl.mv U U U U U ?_
 refine AWl.put ((by first | exact R_lenm U (.no U) U (.tm U) (by first | exact .t | exact .rf U | exact .vw | exact .nil) Tryz.underlying24 | exact R_len U (.no U) U (.tm U) (by first | exact .t | exact .rf U | exact .vw | exact .nil) Tryz.underlying24)) U ?_
 refine AWl.put (R_move U (.no U) U (.const U)) U ?_
 refine AWl.nil (AW.block ?_)
 refine AW.loop1 (fun (k : Nat) => (k ≤ l.length ∧ ∀ j, j < k → apAt l j = true) ∧ True) (fun (k : Nat) => ⟨_, [(7, (true, .a (.one (.t (.v (.int .i64 (k : Nat))))))), (0, _), (5, _), (6, _)], []⟩) (fun (k : Nat) => l.length - k) (0) ⟨⟨Nat.zero_le _, fun j hj => absurd hj (Nat.not_lt_zero j)⟩, trivial⟩ (Le.sub0 U ⟨U, U, U, U, trivial⟩ trivial) ?_
 rintro k ⟨hk, he⟩
 refine AW.sr ?_
 refine AWl.put (R_lt U (.no U) U (.tm U) (.tm U)) U ?_
 refine AWl.nil (AW.seq ?_)
 refine AW.cond (.tm U) (fun h8 => ?_) (fun h8 => ?_)
 · skip
   try simp at h8
   obtain ⟨x, hx⟩ : ∃ ξ, l[k]? = some ξ := ⟨_, List.getElem?_eq_getElem (by omega)⟩
   refine AW.skip ?_
   refine AW.seq ?_
   refine AW.block ?_
   refine AW.sr ?_
   refine AWl.mv U U U U U ?_
   refine AWl.put ((by first | exact R_indexAddr U (.no U) U (.tm U) (.tm U) Tryz.underlying24 ty68 (fun _ => ⟨by omega, (map_get hx)⟩) | exact R_indexAddr_vw U (.no U) U (.tm U) (.tm U) Tryz.underlying24 ty68 (fun _ => ⟨by omega, (map_get hx)⟩) | exact R_indexAddr_rf U (.no U) U (.tm U) U (.tm U) Tryz.underlying24 ty68 (fun _ => ⟨by omega, (map_get hx)⟩))) U ?_
   refine AWl.put ((by first | exact R_load U (.no U) U (.tm U) ty68 U U | exact R_load_pp U (.no U) U (.tm U) U ty68 U U | exact R_load_vw U (.no U) U (.tm U) ty68 U U | exact R_load_pr U (.no U) U (.tm U) U (map_get hx) ty68 U U)) U ?_
   refine AWl.add (R_alloc 4 U U U in68 U U U) U ?_
   refine AWl.av U U U U U ?_
   refine AWl.chgb (R_store_pb U U U (.tm U) (.tm U) U ty68 U U U (by kernel_rfl) U) ?_
   refine AWl.nil (AW.seq ?_)
   refine AW.drawn 24 (nthB [[], [0], [0, 1], [0, 1, 2], [0, 1, 2, 3], [0, 1, 2, 3, 4], [0, 1, 2, 3, 4, 5], [0, 1, 2, 3, 4, 5, 6], [0, 1, 2, 3, 4, 5, 6, 7], [0, 1, 2, 3, 4, 5, 6, 7, 8], [0, 1, 2, 3, 4, 5, 6, 7, 8, 9], [0, 1, 2, 3, 4, 5, 6, 7, 8, 9, 10], [0, 1, 2, 3, 4, 5, 6, 7, 8, 9, 10, 11], [0, 1, 2, 3, 4, 5, 6, 7, 8, 9, 10, 11, 12], [0, 1, 2, 3, 4, 5, 6, 7, 8, 9, 10, 11, 12, 13], [0, 1, 2, 3, 4, 5, 6, 7, 8, 9, 10, 11, 12, 13], [0, 1, 2, 3, 4, 5, 6, 7, 8, 9, 10, 11, 12, 13, 15], [0, 1, 2, 3, 4, 5, 6, 7, 8, 9, 10, 11, 12, 13, 14, 15, 16], [0, 1, 2, 3, 4, 5, 6, 7, 8, 9, 10, 11, 12, 13, 14, 15, 16, 17], [0, 1, 2, 3, 4, 5, 6, 7, 8, 9, 10, 11, 12, 13], [0, 1, 2, 3, 4, 5, 6, 7, 8, 9, 10, 11, 12, 13, 14, 15, 16, 17, 18, 19], [0, 1, 2, 3, 4, 5, 6, 7, 8, 9, 10, 11, 12, 13, 14, 15, 16, 17, 18, 19, 20], [0, 1, 2, 3, 4, 5, 6, 7, 8, 9, 10, 11, 12, 13, 14, 15, 16, 17, 18, 19, 20, 21], [0, 1, 2, 3, 4, 5, 6, 7, 8, 9, 10, 11, 12, 13, 14, 15, 16, 17, 18, 19, 20, 21, 22]]) (by kernel_rfl) (by kernel_rfl) (by kernel_rfl) ?_
   refine DrawC.step U U U (Loc.of U fun σ' hs => (by first | exact R_fieldAddr U (.no U) (hd_sup hs U) (.tm (hs.slots _ _ U)) fl68_0 | exact R_fieldAddr_pp U (.no U) (hd_sup hs U) (.tm (hs.slots _ _ U)) fl68_0 | exact R_fieldAddr_vw U (.no U) (hd_sup hs U) (.tm (hs.slots _ _ U)) fl68_0 | exact R_fieldAddr_pr U (.no U) (hd_sup hs U) (.tm (hs.slots _ _ U)) fl68_0)) ?_
   refine DrawC.step U U U (Loc.of U fun σ' hs => (by first | exact R_load U (.no U) (hd_sup hs U) (.tm (hs.slots _ _ U)) ty3 U U | exact R_load_pp U (.no U) (hd_sup hs U) (.tm (hs.slots _ _ U)) (hs.res _ _ U) ty3 U U | exact R_load_vw U (.no U) (hd_sup hs U) (.tm (hs.slots _ _ U)) ty3 U U | exact R_load_pr U (.no U) (hd_sup hs U) (.tm (hs.slots _ _ U)) (hs.res _ _ U) (map_get hx) ty3 U U)) ?_
   refine DrawC.step U U U (Loc.of U fun σ' hs => R_callz (FnT.fr (implwithin _ _ _)) U (.no U) (hd_sup hs U) (.cons (.tm (hs.slots _ _ U)) (readA_sup hs U) (.cons (.const U) (readA_sup hs U) (.cons (.const U) (readA_sup hs U) .nil)))) ?_
   refine DrawC.step U U U (Loc.of U fun σ' hs => R_not U (.no U) (hd_sup hs U) (.tm (hs.slots _ _ U))) ?_
   refine DrawC.step U U U (Loc.of U fun σ' hs => R_move U (.no U) (hd_sup hs U) (.tm (hs.slots _ _ U))) ?_
   refine DrawC.step U U U (Loc.of U fun σ' hs => (by first | exact R_fieldAddr U (by first | exact .not1 U U (hs.slots _ _ U) (by rw [hs.n]; rfl) | exact .not U U (hs.slots _ _ U) (by rw [hs.n]; rfl)) (hd_sup hs U) (.tmp (hs.slots _ _ U) (by first | exact fun _ => rfl | exact id | simp)) fl68_1 | exact R_fieldAddr_pp U (by first | exact .not1 U U (hs.slots _ _ U) (by rw [hs.n]; rfl) | exact .not U U (hs.slots _ _ U) (by rw [hs.n]; rfl)) (hd_sup hs U) (.tmp (hs.slots _ _ U) (by first | exact fun _ => rfl | exact id | simp)) fl68_1 | exact R_fieldAddr_vw U (by first | exact .not1 U U (hs.slots _ _ U) (by rw [hs.n]; rfl) | exact .not U U (hs.slots _ _ U) (by rw [hs.n]; rfl)) (hd_sup hs U) (.tmp (hs.slots _ _ U) (by first | exact fun _ => rfl | exact id | simp)) fl68_1 | exact R_fieldAddr_pr U (by first | exact .not1 U U (hs.slots _ _ U) (by rw [hs.n]; rfl) | exact .not U U (hs.slots _ _ U) (by rw [hs.n]; rfl)) (hd_sup hs U) (.tmp (hs.slots _ _ U) (by first | exact fun _ => rfl | exact id | simp)) fl68_1)) ?_
   refine DrawC.step U U U (Loc.of U fun σ' hs => (by first | exact R_load U (by first | exact .not1 U U (hs.slots _ _ U) (by rw [hs.n]; rfl) | exact .not U U (hs.slots _ _ U) (by rw [hs.n]; rfl)) (hd_sup hs U) (.tmp (hs.slots _ _ U) (by first | exact fun _ => rfl | exact id | simp)) ty3 U U | exact R_load_pp U (by first | exact .not1 U U (hs.slots _ _ U) (by rw [hs.n]; rfl) | exact .not U U (hs.slots _ _ U) (by rw [hs.n]; rfl)) (hd_sup hs U) (.tmp (hs.slots _ _ U) (by first | exact fun _ => rfl | exact id | simp)) (hs.res _ _ U) ty3 U U | exact R_load_vw U (by first | exact .not1 U U (hs.slots _ _ U) (by rw [hs.n]; rfl) | exact .not U U (hs.slots _ _ U) (by rw [hs.n]; rfl)) (hd_sup hs U) (.tmp (hs.slots _ _ U) (by first | exact fun _ => rfl | exact id | simp)) ty3 U U | exact R_load_pr U (by first | exact .not1 U U (hs.slots _ _ U) (by rw [hs.n]; rfl) | exact .not U U (hs.slots _ _ U) (by rw [hs.n]; rfl)) (hd_sup hs U) (.tmp (hs.slots _ _ U) (by first | exact fun _ => rfl | exact id | simp)) (hs.res _ _ U) (map_get hx) ty3 U U)) ?_
   refine DrawC.step U U U (Loc.of U fun σ' hs => R_callz (FnT.fr (implwithin _ _ _)) U (by first | exact .not1 U U (hs.slots _ _ U) (by rw [hs.n]; rfl) | exact .not U U (hs.slots _ _ U) (by rw [hs.n]; rfl)) (hd_sup hs U) (.cons (.tmp (hs.slots _ _ U) (by first | exact fun _ => rfl | exact id | simp)) (readA_sup hs U) (.cons (.const U) (readA_sup hs U) (.cons (.const U) (readA_sup hs U) .nil)))) ?_
   refine DrawC.step U U U (Loc.of U fun σ' hs => R_not U (by first | exact .not1 U U (hs.slots _ _ U) (by rw [hs.n]; rfl) | exact .not U U (hs.slots _ _ U) (by rw [hs.n]; rfl)) (hd_sup hs U) (.tmp (hs.slots _ _ U) (by first | exact fun _ => rfl | exact id | simp))) ?_
   refine DrawC.step U U U (Loc.of U fun σ' hs => R_or U (.no U) (hd_sup hs U) (.tm (hs.slots _ _ U)) (.tmp (hs.slots _ _ U) (by first | exact fun _ => rfl | exact id | simp))) ?_
   refine DrawC.step U U U (Loc.of U fun σ' hs => R_move U (.no U) (hd_sup hs U) (.tm (hs.slots _ _ U))) ?_
   refine DrawC.step U U U (Loc.of U fun σ' hs => R_move U (by first | exact .not1 U U (hs.slots _ _ U) (by rw [hs.n]; rfl) | exact .not U U (hs.slots _ _ U) (by rw [hs.n]; rfl)) (hd_sup hs U) (.tmp (hs.slots _ _ U) (by first | exact fun _ => rfl | exact id | simp))) ?_
   refine DrawC.step U U U (Loc.of U fun σ' hs => R_gt U (by first | exact .not1 U U (hs.slots _ _ U) (by rw [hs.n]; rfl) | exact .not U U (hs.slots _ _ U) (by rw [hs.n]; rfl)) (hd_sup hs U) (.tmp (hs.slots _ _ U) (by first | exact fun _ => rfl | exact id | simp)) (.const U)) ?_
   refine DrawC.step U U U (Loc.of U fun σ' hs => R_move U (by first | exact .not1 U U (hs.slots _ _ U) (by rw [hs.n]; rfl) | exact .not U U (hs.slots _ _ U) (by rw [hs.n]; rfl)) (hd_sup hs U) (.tmp (hs.slots _ _ U) (by first | exact fun _ => rfl | exact id | simp))) ?_
   refine DrawC.step U U U (Loc.of U fun σ' hs => R_move U (by first | exact .yes1 U U (hs.slots _ _ U) (by rw [hs.n]; rfl) | exact .yes U U (hs.slots _ _ U) (by rw [hs.n]; rfl)) (hd_sup hs U) (.tmp (hs.slots _ _ U) (by first | exact fun _ => rfl | exact id | simp))) ?_
   refine DrawC.step U U U (Loc.of U fun σ' hs => R_move U (by first | exact .yes1 U U (hs.slots _ _ U) (by rw [hs.n]; rfl) | exact .yes U U (hs.slots _ _ U) (by rw [hs.n]; rfl)) (hd_sup hs U) (.tmp (hs.slots _ _ U) (by first | exact fun _ => rfl | exact id | simp))) ?_
   refine DrawC.step U U U (Loc.of U fun σ' hs => R_sub U (by first | exact .yes1 U U (hs.slots _ _ U) (by rw [hs.n]; rfl) | exact .yes U U (hs.slots _ _ U) (by rw [hs.n]; rfl)) (hd_sup hs U) (.tmp (hs.slots _ _ U) (by first | exact fun _ => rfl | exact id | simp)) (.const U) (fun hq => by first | omega | (simp at hq; omega))) ?_
   refine DrawC.step U U U (Loc.of U fun σ' hs => (by first | exact R_indexAddr U (by first | exact .yes1 U U (hs.slots _ _ U) (by rw [hs.n]; rfl) | exact .yes U U (hs.slots _ _ U) (by rw [hs.n]; rfl)) (hd_sup hs U) (.tmp (hs.slots _ _ U) (by first | exact fun _ => rfl | exact id | simp)) (.tmp (hs.slots _ _ U) (by first | exact fun _ => rfl | exact id | simp)) Tryz.underlying24 ty68 (fun hq => by simp at hq; exact ⟨by omega, map_get (l := l) (x := l[((k : Int) - 1).toNat]?.getD default) (getD_at (by omega))⟩) | exact R_indexAddr_vw U (by first | exact .yes1 U U (hs.slots _ _ U) (by rw [hs.n]; rfl) | exact .yes U U (hs.slots _ _ U) (by rw [hs.n]; rfl)) (hd_sup hs U) (.tmp (hs.slots _ _ U) (by first | exact fun _ => rfl | exact id | simp)) (.tmp (hs.slots _ _ U) (by first | exact fun _ => rfl | exact id | simp)) Tryz.underlying24 ty68 (fun hq => by simp at hq; exact ⟨by omega, map_get (l := l) (x := l[((k : Int) - 1).toNat]?.getD default) (getD_at (by omega))⟩) | exact R_indexAddr_rf U (by first | exact .yes1 U U (hs.slots _ _ U) (by rw [hs.n]; rfl) | exact .yes U U (hs.slots _ _ U) (by rw [hs.n]; rfl)) (hd_sup hs U) (.tmp (hs.slots _ _ U) (by first | exact fun _ => rfl | exact id | simp)) (hs.res _ _ U) (.tmp (hs.slots _ _ U) (by first | exact fun _ => rfl | exact id | simp)) Tryz.underlying24 ty68 (fun hq => by simp at hq; exact ⟨by omega, map_get (l := l) (x := l[((k : Int) - 1).toNat]?.getD default) (getD_at (by omega))⟩))) ?_
   refine DrawC.step U U U (Loc.of U fun σ' hs => (by first | exact R_load U (by first | exact .yes1 U U (hs.slots _ _ U) (by rw [hs.n]; rfl) | exact .yes U U (hs.slots _ _ U) (by rw [hs.n]; rfl)) (hd_sup hs U) (.tmp (hs.slots _ _ U) (by first | exact fun _ => rfl | exact id | simp)) ty68 U U | exact R_load_pp U (by first | exact .yes1 U U (hs.slots _ _ U) (by rw [hs.n]; rfl) | exact .yes U U (hs.slots _ _ U) (by rw [hs.n]; rfl)) (hd_sup hs U) (.tmp (hs.slots _ _ U) (by first | exact fun _ => rfl | exact id | simp)) (hs.res _ _ U) ty68 U U | exact R_load_vw U (by first | exact .yes1 U U (hs.slots _ _ U) (by rw [hs.n]; rfl) | exact .yes U U (hs.slots _ _ U) (by rw [hs.n]; rfl)) (hd_sup hs U) (.tmp (hs.slots _ _ U) (by first | exact fun _ => rfl | exact id | simp)) ty68 U U | exact R_load_pr U (by first | exact .yes1 U U (hs.slots _ _ U) (by rw [hs.n]; rfl) | exact .yes U U (hs.slots _ _ U) (by rw [hs.n]; rfl)) (hd_sup hs U) (.tmp (hs.slots _ _ U) (by first | exact fun _ => rfl | exact id | simp)) (hs.res _ _ U) (fun hq => by simp at hq; exact map_get (l := l) (x := l[((k : Int) - 1).toNat]?.getD default) (getD_at (by omega))) ty68 U U | exact R_load_prq U (by first | exact .yes1 U U (hs.slots _ _ U) (by rw [hs.n]; rfl) | exact .yes U U (hs.slots _ _ U) (by rw [hs.n]; rfl)) (hd_sup hs U) (.tmp (hs.slots _ _ U) (by first | exact fun _ => rfl | exact id | simp)) (hs.res _ _ U) (fun hq => by simp at hq; exact map_get (l := l) (x := l[((k : Int) - 1).toNat]?.getD default) (getD_at (by omega))) ty68 U U)) ?_
   refine DrawC.step U U U (Loc.of U fun σ' hs => (by first | exact R_load U (by first | exact .yes1 U U (hs.slots _ _ U) (by rw [hs.n]; rfl) | exact .yes U U (hs.slots _ _ U) (by rw [hs.n]; rfl)) (hd_sup hs U) (.tmp (hs.slots _ _ U) (by first | exact fun _ => rfl | exact id | simp)) ty68 U U | exact R_load_pp U (by first | exact .yes1 U U (hs.slots _ _ U) (by rw [hs.n]; rfl) | exact .yes U U (hs.slots _ _ U) (by rw [hs.n]; rfl)) (hd_sup hs U) (.tmp (hs.slots _ _ U) (by first | exact fun _ => rfl | exact id | simp)) (hs.res _ _ U) ty68 U U | exact R_load_vw U (by first | exact .yes1 U U (hs.slots _ _ U) (by rw [hs.n]; rfl) | exact .yes U U (hs.slots _ _ U) (by rw [hs.n]; rfl)) (hd_sup hs U) (.tmp (hs.slots _ _ U) (by first | exact fun _ => rfl | exact id | simp)) ty68 U U | exact R_load_pr U (by first | exact .yes1 U U (hs.slots _ _ U) (by rw [hs.n]; rfl) | exact .yes U U (hs.slots _ _ U) (by rw [hs.n]; rfl)) (hd_sup hs U) (.tmp (hs.slots _ _ U) (by first | exact fun _ => rfl | exact id | simp)) (hs.res _ _ U) (map_get hx) ty68 U U)) ?_
   refine DrawC.step U U U (Loc.of U fun σ' hs => R_callq U (by first | exact .yes1 U U (hs.slots _ _ U) (by rw [hs.n]; rfl) | exact .yes U U (hs.slots _ _ U) (by rw [hs.n]; rfl)) (hd_sup hs U) (.cons (.tmp (hs.slots _ _ U) (by first | exact fun _ => rfl | exact id | simp)) (readA_sup hs U) (.cons (.tmp (hs.slots _ _ U) (by first | exact fun _ => rfl | exact id | simp)) (readA_sup hs U) .nil)) fun hq => FnT.fr (implcomparePairs (l[((k : Int) - 1).toNat]?.getD default) x)) ?_
   refine DrawC.step U U U (Loc.of U fun σ' hs => R_ge U (by first | exact .yes1 U U (hs.slots _ _ U) (by rw [hs.n]; rfl) | exact .yes U U (hs.slots _ _ U) (by rw [hs.n]; rfl)) (hd_sup hs U) (.tmp (hs.slots _ _ U) (by first | exact fun _ => rfl | exact id | simp)) (.const U)) ?_
   refine DrawC.step U U U (Loc.of U fun σ' hs => R_and U (by first | exact .not1 U U (hs.slots _ _ U) (by rw [hs.n]; rfl) | exact .not U U (hs.slots _ _ U) (by rw [hs.n]; rfl)) (hd_sup hs U) (.tmp (hs.slots _ _ U) (by first | exact fun _ => rfl | exact id | simp)) (.tmp (hs.slots _ _ U) (by first | exact fun _ => rfl | exact id | simp))) ?_
   refine DrawC.step U U U (Loc.of U fun σ' hs => R_or U (.no U) (hd_sup hs U) (.tm (hs.slots _ _ U)) (.tmp (hs.slots _ _ U) (by first | exact fun _ => rfl | exact id | simp))) ?_
   refine DrawC.fin U U ?_
   refine AWl.nil ?_
   refine AW.cond (.tm U) (fun h35 => ?_) (fun h35 => ?_)
   · skip
     try simp at h35
     refine AW.seq ?_
     refine AW.le (σ' := ⟨_, [(0, _), (3, _), (4, _), (5, _), (6, _), (7, _)], [(4, _)]⟩) (Le.sub0 U ⟨U, U, U, U, U, U, trivial⟩ ⟨U, trivial⟩) ?_
     refine AW.region ?_
     refine AWl.ac U U U U U ?_
     refine AWl.nil (AW.ret ?_)
     refine Res.v U U ?_
     rw [arePairs_not (k := k) (by rw [apAt_eq hx, ← cmpP_ge]; unfold okP; rw [show k - 1 = ((k : Int) - 1).toNat by omega]; simp at h35 ⊢; grind) (by omega)]
   · skip
     try simp at h35
     refine AW.skip ?_
     refine AW.le (σ' := ⟨_, [(0, _), (3, _), (4, _), (5, _), (6, _), (7, _)], [(4, _)]⟩) (Le.sub0 U ⟨U, U, U, U, U, U, trivial⟩ ⟨U, trivial⟩) ?_
     refine AW.region ?_
     refine AWl.put (R_add U (.no U) U (.tm U) (.const U) (fun _ => by omega)) U ?_
     refine AWl.mv U U U U U ?_
     refine AWl.nil ?_
     repeat (with_reducible refine BlockQ.nor ?_)
     refine Round1.next (k + 1) ⟨⟨by omega, fun j hj => by rcases Nat.lt_or_eq_of_le (Nat.le_of_lt_succ hj) with h | h; exact hk.2 j h; (subst h; rw [apAt_eq hx, ← cmpP_ge]; unfold okP; rw [show j - 1 = ((j : Int) - 1).toNat by omega]; simp at h35 ⊢; grind)⟩, trivial⟩ (by omega) (Le.sub0 rfl ⟨rfl, rfl, rfl, rfl, trivial⟩ trivial)
 · skip
   try simp at h8
   refine AW.exit ?_
   refine AW.sr ?_
   refine AWl.ac U U U U U ?_
   refine AWl.nil (AW.ret ?_)
   refine Res.v U U ?_
   rw [arePairs_all hk.2 (by omega)]
theorem implcommonPair1 (b : List TPair) (x : TPair) : FnT Tryz.prog 82 [.agg (cPair x), .one (.ad [.sl 2 (b.map cPair)])] (.a (.one (.v (.bool (decide (x ∈ b)))))) := by
 refine FnT.walk Tryz.func82 U (by kernel_rfl) Tryz.ntmps82 U fun hlen w0 => ?_
 try simp [cPair, cToken, cExpr, cEdge, cGraph, cStep, cWalk, cChange, cBatch, cHistory, cPositions, cAutomaton, cProductStep, cPathAtom, cConjunction, cView, cDelta, cRegistered, cRegistry] at hlen
 refine AW.sr ?_
 refine AWl.put (R_boxz U U U (.tm U) (ts := _) (by first | rfl | exact cells_t1 _ | exact cells_t2 _)) U ?_
 refine AWl.ac U U U U U ?_
 refine AWl.nil (AW.sr ?_)
 refine AWl.put ((by first | exact R_load U (.no U) U (.tm U) ty24 U U | exact R_load_pp U (.no U) U (.tm U) U ty24 U U | exact R_load_vw U (.no U) U (.tm U) ty24 U U | exact R_load_pr U (.no U) U (.tm U) U (by first | assumption | exact map_get (by assumption)) ty24 U U)) U ?_
 refine AWl.put ((by first | exact R_load U (.no U) U (.tm U) ty68 U U | exact R_load_pp U (.no U) U (.tm U) U ty68 U U | exact R_load_vw U (.no U) U (.tm U) ty68 U U | exact R_load_pr U (.no U) U (.tm U) U (by first | assumption | exact map_get (by assumption)) ty68 U U)) U ?_
 refine AWl.put (R_callz (FnT.fr (slicesContainsPair _ _)) U (.no U) U (.cons (.tm U) U (.cons (.tm U) U .nil))) U ?_
 refine AWl.av U U U U U ?_
 refine AWl.nil (AW.ret ?_)
 refine Res.v U U ?_
 rfl
theorem implcommonPair (a b : List TPair) : FnT Tryz.prog 44 [.one (.sl 2 (a.map cPair)), .one (.sl 2 (b.map cPair))] (.a (.one (.v (.bool (a.any fun x => decide (x ∈ b)))))) := by
 refine FnT.walk Tryz.func44 U (by kernel_rfl) Tryz.ntmps44 U fun hlen w0 => ?_
 try simp [cPair, cToken, cExpr, cEdge, cGraph, cStep, cWalk, cChange, cBatch, cHistory, cPositions, cAutomaton, cProductStep, cPathAtom, cConjunction, cView, cDelta, cRegistered, cRegistry] at hlen
 refine AW.sr ?_
 refine AWl.put (R_boxz U U U (.tm U) (ts := _) (by first | rfl | exact cells_t1 _ | exact cells_t2 _)) U ?_
 refine AWl.ac U U U U U ?_
 refine AWl.nil (AW.sr ?_)
 refine AWl.mv U U U U U ?_
 refine AWl.put (R_makeFunc U (.no U) U (.cons (.tm U) .nil)) U ?_
 refine AWl.put (R_callz (FnT.fr (ContainsFuncPair a 82 [.ad [.sl 2 (b.map cPair)]] (fun x => decide (x ∈ b)) (fun x => (implcommonPair1 b x).fr))) U (.no U) U (.cons (.tm U) U (.cons (.tm U) U .nil))) U ?_
 refine AWl.av U U U U U ?_
 refine AWl.nil (AW.ret ?_)
 refine Res.v U U ?_
 rfl
end Go.Proofs.YtbkhopfpejhnlaaGreatDoor
