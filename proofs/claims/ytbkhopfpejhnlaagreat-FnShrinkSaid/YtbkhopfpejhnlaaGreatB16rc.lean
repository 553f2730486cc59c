import Derived.Test.YtbkhopfpejhnlaaGreatB15rc
set_option linter.unusedVariables false
set_option linter.unusedSimpArgs false
set_option maxHeartbeats 1000000
set_option maxRecDepth 100000
namespace Go.Q
open Go.D
theorem compactL_snoc {α : Type} [DecidableEq α] (y x : α) : ∀ l : List α, compactL (l ++ [y, x]) = compactL (l ++ [y]) ++ if y = x then [] else [x]
 | [] => by simp only [List.nil_append, compactL]; split <;> simp [compactL, *]
 | [z] => by
  simp only [List.cons_append, List.nil_append, compactL]
  by_cases h1 : z = y <;> by_cases h2 : y = x <;> simp [h1, h2, compactL]
 | z :: w :: l => by
  have ih := compactL_snoc y x (w :: l)
  simp only [List.cons_append] at ih ⊢
  rw [compactL, compactL]
  split
  · exact ih
  · rw [ih, List.cons_append]
theorem compactL_take {α : Type} [DecidableEq α] {l : List α} {m : Nat} {x y : α} (hx : l[m + 1]? = some x) (hy : l[m]? = some y) : compactL (l.take (m + 2)) = compactL (l.take (m + 1)) ++ if y = x then [] else [x] := by
 rw [take_at hx, take_at hy, List.append_assoc]
 exact compactL_snoc y x _
theorem compactL_id {α : Type} [DecidableEq α] {l : List α} : ∀ {k : Nat}, k ≤ l.length → (∀ j x y, j + 1 < k → l[j + 1]? = some x → l[j]? = some y → y ≠ x) → compactL (l.take k) = l.take k
 | 0, _, _ => by simp [compactL]
 | 1, hk, _ => by
  match l, hk with
  | x :: l, _ => simp [compactL]
 | k + 2, hk, h => by
  have hx : l[k + 1]? = some (l[k + 1]'(by omega)) := List.getElem?_eq_getElem _
  have hy : l[k]? = some (l[k]'(by omega)) := List.getElem?_eq_getElem _
  rw [compactL_take hx hy, compactL_id (k := k + 1) (by omega) (fun j x y hj => h j x y (by omega)), if_neg (h k _ _ (by omega) hx hy), ← take_at hx]
theorem compactL_take' {α : Type} [DecidableEq α] {l : List α} {m : Nat} {x y : α} (hm : 1 ≤ m) (hx : l[m]? = some x) (hy : l[m - 1]? = some y) : compactL (l.take (m + 1)) = compactL (l.take m) ++ if y = x then [] else [x] := by
 obtain ⟨m', rfl⟩ : ∃ m', m = m' + 1 := ⟨m - 1, by omega⟩
 exact compactL_take hx hy
theorem drop_more {α : Type} {l r : List α} {m m' : Nat} (h : r.drop m = l.drop m) (hm : m ≤ m') : r.drop m' = l.drop m' := by
 have : m' = m + (m' - m) := by omega
 rw [this, ← List.drop_drop, ← List.drop_drop, h]
theorem compactL_all {α : Type} [DecidableEq α] {l : List α} {k : Nat} (hk : l.length ≤ k) (h : ∀ j x y, j + 1 < k → l[j + 1]? = some x → l[j]? = some y → y ≠ x) : compactL l = l := by
 have := compactL_id (l := l) (k := l.length) (Nat.le_refl _) fun j x y hj => h j x y (by omega)
 rwa [List.take_of_length_le (Nat.le_refl _)] at this
theorem cut_rows {α : Type} {c : α → List T} {R l : List α} {k : Nat} {z : List (List T)} (h : R.take k = l) (hk : k ≤ R.length) : ((R.map c).take k ++ z).take k = l.map c := by
 rw [List.take_append_of_le_length (by simp; omega), List.take_take, Nat.min_self, ← List.map_take, h]
theorem drop_get {α : Type} {l r : List α} {m i : Nat} (h : r.drop m = l.drop m) (hi : m ≤ i) : r[i]? = l[i]? := by
 have e1 : r[i]? = (r.drop m)[i - m]? := by rw [List.getElem?_drop]; congr 1; omega
 have e2 : l[i]? = (l.drop m)[i - m]? := by rw [List.getElem?_drop]; congr 1; omega
 rw [e1, e2, h]
theorem set_take {α : Type} {r : List α} {k : Nat} {x : α} (h : k < r.length) : (r.set k x).take (k + 1) = r.take k ++ [x] := by
 rw [take_at (l := r.set k x) (i := k) (x := x) (by rw [List.getElem?_set_self h]), List.take_set_of_le (Nat.le_refl _)]
theorem set_drop {α : Type} {r : List α} {k m : Nat} {x : α} (h : k < m) : (r.set k x).drop m = r.drop m := by
 rw [List.drop_set, if_pos h]
def okP (p : TPair) : Bool := inB p.From 0 4 && inB p.To 0 4
def apAt (l : List TPair) (k : Nat) : Bool := match l[k]? with
 | some p => okP p && !(decide (0 < k) && !(pless (l[k - 1]?.getD default) p))
 | none => true
def arePairs (l : List TPair) : Bool := (List.range l.length).all (apAt l)
end Go.Q
namespace Go.Proofs.YtbkhopfpejhnlaaGreat
open Go.RowKit Go.Q Go.D
theorem CompactPair (l : List TPair) (hz : l.length ≤ 1099511627776) : FnC Tryz.prog 139 [(true, .one (.sl 2 (l.map cPair)))] (.a (.one (.sl 2 ((compactL l).map cPair)))) := by
 refine FnC.walk Tryz.func139 rfl (by kernel_rfl) Tryz.ntmps139 rfl (by rfl) fun w0 => ?_
 refine AW.le (σ' := ⟨_, [(0, _)], [(1000, _)]⟩) (Le.sub0 U ⟨U, Y⟩ ⟨U, Y⟩) ?_
 try simp [cPair, cToken, cExpr, cEdge, cGraph] at hlen
 refine AW.sr ?_
 refine AWl.ac ?_
 refine AWl.nilS (i := 2) 20001 2 U U ?_
 refine AWl.nil (AW.seq ?_)
 refine AW.sr ?_
 refine AWl.mv ?_
 refine AWl.p (by exact R_lenm U (.no U) U (.tm U) (by exact .rf U) Tryz.underlying58) U ?_
 refine AWl.p (R_lt U (.no U) U (.tm U) (.const U)) U ?_
 refine AWl.nil ?_
 refine AW.cond (.tm U) (fun h8 => ?_) (fun h8 => ?_)
 · skip
   try simp at h8
   refine AW.sr ?_
   refine AWl.mv ?_
   refine AWl.av ?_
   refine AWl.nil (AW.ret ?_)
   refine Res.one U (.tmp U .nil) U ?_
   rw [compactL_all (k := 1) (by omega) (fun j x y hj => by omega)]; rfl
 · skip
   try simp at h8
   refine AW.skip ?_
   refine AW.seq ?_
   refine AW.sr ?_
   refine AWl.ac ?_
   refine AWl.nil (AW.block ?_)
   refine AW.loop1 (fun (k : Nat) => ((1 ≤ k ∧ k ≤ l.length) ∧ ∀ j x y, j + 1 < k → l[j + 1]? = some x → l[j]? = some y → y ≠ x) ∧ True) (fun (k : Nat) => ⟨_, [(3, (true, .a (.one (.t (.v (.int .i64 (k : Nat))))))), (0, _)], [(1000, .row 2 (l.map cPair))]⟩) (fun (k : Nat) => l.length - k) (1) ⟨⟨⟨Nat.le_refl _, by omega⟩, fun j x y hj => by omega⟩, Y⟩ (Le.sub0 U ⟨U, U, Y⟩ ⟨U, Y⟩) ?_
   rintro k ⟨hk, he⟩
   refine AW.seq ?_
   refine AW.sr ?_
   refine AWl.mv ?_
   refine AWl.mv ?_
   refine AWl.p (by exact R_lenm U (.no U) U (.tm U) (by exact .rf U) Tryz.underlying58) U ?_
   refine AWl.p (R_lt U (.no U) U (.tm U) (.tm U)) U ?_
   refine AWl.nil ?_
   refine AW.cond (.tm U) (fun h13 => ?_) (fun h13 => ?_)
   · skip
     try simp at h13
     obtain ⟨x, hx⟩ : ∃ ξ, l[k]? = some ξ := ⟨_, List.getElem?_eq_getElem (by omega)⟩
     obtain ⟨y, hy⟩ : ∃ ξ, l[k - 1]? = some ξ := ⟨_, List.getElem?_eq_getElem (by omega)⟩
     have hy2 : l[((k : Int) - 1).toNat]? = some y := by (rw [show ((k : Int) - 1).toNat = k - 1 by omega]; exact hy)
     refine AW.skip ?_
     refine AW.seq ?_
     refine AW.block ?_
     refine AW.seq ?_
     refine AW.drawn 10 (nthB [[], [], [0, 1], [0, 1, 2], [], [], [5], [4, 5, 6], [4, 5, 6, 7], [0, 1, 2, 3, 4, 5, 6, 7, 8]]) (by kernel_rfl) (by kernel_rfl) (by kernel_rfl) ?_
     refine DrawC.step U U U (Loc.of U fun σ' hs => R_move U (.no U) (hd_sup hs U) (.tm (hs.slots _ _ U))) ?_
     refine DrawC.step U U U (Loc.of U fun σ' hs => R_move U (.no U) (hd_sup hs U) (.tm (hs.slots _ _ U))) ?_
     refine DrawC.step U U U (Loc.of U fun σ' hs => (by exact R_indexAddr_rf U (.no U) (hd_sup hs U) (.tm (hs.slots _ _ U)) (hs.res _ _ U) (.tm (hs.slots _ _ U)) Tryz.underlying58 ty63 (fun _ => ⟨by omega, (by exact map_get hx)⟩))) ?_
     refine DrawC.step U U U (Loc.of U fun σ' hs => (by exact R_load_pr U (.no U) (hd_sup hs U) (.tm (hs.slots _ _ U)) (hs.res _ _ U) (by exact map_get hx) ty63 U U)) ?_
     refine DrawC.step U U U (Loc.of U fun σ' hs => R_move U (.no U) (hd_sup hs U) (.tm (hs.slots _ _ U))) ?_
     refine DrawC.step U U U (Loc.of U fun σ' hs => R_move U (.no U) (hd_sup hs U) (.tm (hs.slots _ _ U))) ?_
     refine DrawC.step U U U (Loc.of U fun σ' hs => R_sub U (.no U) (hd_sup hs U) (.tm (hs.slots _ _ U)) (.const U) (fun _ => by omega)) ?_
     refine DrawC.step U U U (Loc.of U fun σ' hs => (by exact R_indexAddr_rf U (.no U) (hd_sup hs U) (.tm (hs.slots _ _ U)) (hs.res _ _ U) (.tm (hs.slots _ _ U)) Tryz.underlying58 ty63 (fun _ => ⟨by omega, (by exact map_get hy2)⟩))) ?_
     refine DrawC.step U U U (Loc.of U fun σ' hs => (by exact R_load_pr U (.no U) (hd_sup hs U) (.tm (hs.slots _ _ U)) (hs.res _ _ U) (by exact map_get hy2) ty63 U U)) ?_
     refine DrawC.step U U U (Loc.of U fun σ' hs => R_eqs U (.no U) (hd_sup hs U) (.tm (hs.slots _ _ U)) (.tm (hs.slots _ _ U)) U U (by kernel_rfl) (eqS63 _ _ _ _)) ?_
     refine DrawC.fin U U ?_
     refine AWl.nil ?_
     refine AW.cond (.tm U) (fun h25 => ?_) (fun h25 => ?_)
     · skip
       try simp at h25
       have hst : l.take k = compactL (l.take (k + 1)) := by (obtain ⟨k', rfl⟩ : ∃ k', k = k' + 1 := ⟨k - 1, by omega⟩; rw [compactL_take hx hy, if_pos (pair_eq.2 ⟨h25.1.symm, h25.2.symm⟩), List.append_nil, compactL_id hk.1.2 hk.2])
       refine AW.seq ?_
       refine AW.le (σ' := ⟨_, [(0, _), (3, _)], [(1000, _)]⟩) (Le.sub0 U ⟨U, U, Y⟩ ⟨U, Y⟩) ?_
       refine AW.region ?_
       refine AWl.mv ?_
       refine AWl.mv ?_
       refine AWl.p ((by exact R_slice_rf (m := k) U (.no U) U (.tm U) U (.yes (.tm U) (fun _ => by first | rfl | omega | (simp <;> omega))) Tryz.underlying58 ty63 (fun _ => by simp; omega))) U ?_
       refine AWl.av ?_
       refine AWl.nil (AW.seq ?_)
       refine AW.sr ?_
       refine AWl.ac ?_
       refine AWl.nil (AW.block ?_)
       refine AW.loop3 (fun (k2 : Nat) (k1 : Nat) (Rr : List TPair) => ((1 ≤ k2 ∧ k + k2 ≤ l.length ∧ k1 + 1 ≤ k + k2 ∧ Rr.length = l.length)) ∧ Rr.drop (k + k2 - 1) = l.drop (k + k2 - 1) ∧ Rr.take k1 = compactL (l.take (k + k2))) (fun (k2 : Nat) (k1 : Nat) (Rr : List TPair) => ⟨_, [(5, (true, .a (.one (.t (.v (.int .i64 (k2 : Nat))))))), (3, (true, .a (.one (.t (.v (.int .i64 (k1 : Nat))))))), (4, (true, .a (.one (.tl 1000 2 k)))), (0, _)], [(1000, .row 2 (Rr.map cPair))]⟩) (fun (k2 : Nat) (k1 : Nat) (Rr : List TPair) => l.length - k2) (1) (k) (l) ⟨⟨by omega, by omega, by omega, U⟩, U, hst⟩ (Le.sub0 U ⟨U, U, U, U, Y⟩ ⟨U, Y⟩) ?_
       rintro k2 k1 Rr ⟨hk1, he1⟩
       refine AW.seq ?_
       refine AW.sr ?_
       refine AWl.mv ?_
       refine AWl.mv ?_
       refine AWl.p (by exact R_len_tl U (.no U) U (.tm U) U Tryz.underlying58) U ?_
       refine AWl.p (R_lt U (.no U) U (.tm U) (.tm U)) U ?_
       refine AWl.nil ?_
       refine AW.cond (.tm U) (fun h32 => ?_) (fun h32 => ?_)
       · skip
         try simp at h32
         obtain ⟨x2, hx2⟩ : ∃ ξ, l[k + k2]? = some ξ := ⟨_, List.getElem?_eq_getElem (by omega)⟩
         obtain ⟨y2, hy2'⟩ : ∃ ξ, l[k + k2 - 1]? = some ξ := ⟨_, List.getElem?_eq_getElem (by omega)⟩
         have hx2R : Rr[k + (k2 : Int).toNat]? = some x2 := by (rw [drop_get he1.1 (by omega)]; exact hx2)
         have hy2R : Rr[k + ((k2 : Int) - 1).toNat]? = some y2 := by (rw [show k + ((k2 : Int) - 1).toNat = k + k2 - 1 by omega, drop_get he1.1 (by omega)]; exact hy2')
         obtain ⟨r1, hr1⟩ : ∃ ξ, Rr[k1]? = some ξ := ⟨_, List.getElem?_eq_getElem (by omega)⟩
         refine AW.skip ?_
         refine AW.seq ?_
         refine AW.block ?_
         refine AW.seq ?_
         refine AW.drawn 10 (nthB [[], [], [0, 1], [0, 1, 2], [], [], [5], [4, 5, 6], [4, 5, 6, 7], [0, 1, 2, 3, 4, 5, 6, 7, 8]]) (by kernel_rfl) (by kernel_rfl) (by kernel_rfl) ?_
         refine DrawC.step U U U (Loc.of U fun σ' hs => R_move U (.no U) (hd_sup hs U) (.tm (hs.slots _ _ U))) ?_
         refine DrawC.step U U U (Loc.of U fun σ' hs => R_move U (.no U) (hd_sup hs U) (.tm (hs.slots _ _ U))) ?_
         refine DrawC.step U U U (Loc.of U fun σ' hs => (by exact R_indexAddr_tl U (.no U) (hd_sup hs U) (.tm (hs.slots _ _ U)) (hs.res _ _ U) (.tm (hs.slots _ _ U)) Tryz.underlying58 ty63 (fun _ => ⟨by omega, (by exact map_get hx2R)⟩))) ?_
         refine DrawC.step U U U (Loc.of U fun σ' hs => (by exact R_load_pr U (.no U) (hd_sup hs U) (.tm (hs.slots _ _ U)) (hs.res _ _ U) (by exact map_get hx2R) ty63 U U)) ?_
         refine DrawC.step U U U (Loc.of U fun σ' hs => R_move U (.no U) (hd_sup hs U) (.tm (hs.slots _ _ U))) ?_
         refine DrawC.step U U U (Loc.of U fun σ' hs => R_move U (.no U) (hd_sup hs U) (.tm (hs.slots _ _ U))) ?_
         refine DrawC.step U U U (Loc.of U fun σ' hs => R_sub U (.no U) (hd_sup hs U) (.tm (hs.slots _ _ U)) (.const U) (fun _ => by omega)) ?_
         refine DrawC.step U U U (Loc.of U fun σ' hs => (by exact R_indexAddr_tl U (.no U) (hd_sup hs U) (.tm (hs.slots _ _ U)) (hs.res _ _ U) (.tm (hs.slots _ _ U)) Tryz.underlying58 ty63 (fun _ => ⟨by omega, (by exact map_get hy2R)⟩))) ?_
         refine DrawC.step U U U (Loc.of U fun σ' hs => (by exact R_load_pr U (.no U) (hd_sup hs U) (.tm (hs.slots _ _ U)) (hs.res _ _ U) (by exact map_get hy2R) ty63 U U)) ?_
         refine DrawC.step U U U (Loc.of U fun σ' hs => R_eqs U (.no U) (hd_sup hs U) (.tm (hs.slots _ _ U)) (.tm (hs.slots _ _ U)) U U (by kernel_rfl) (neS63 _ _ _ _)) ?_
         refine DrawC.fin U U ?_
         refine AWl.nil ?_
         refine AW.cond (.tm U) (fun h44 => ?_) (fun h44 => ?_)
         · skip
           try simp at h44
           refine AW.seq ?_
           refine AW.le (σ' := ⟨_, [(0, _), (3, _), (4, _), (5, _)], [(1000, _)]⟩) (Le.sub0 U ⟨U, U, U, U, Y⟩ ⟨U, Y⟩) ?_
           refine AW.region ?_
           refine AWl.mv ?_
           refine AWl.mv ?_
           refine AWl.mv ?_
           refine AWl.mv ?_
           refine AWl.p (by exact R_indexAddr_tl U (.no U) U (.tm U) U (.tm U) Tryz.underlying58 ty63 (fun _ => ⟨by omega, (by exact map_get hx2R)⟩)) U ?_
           refine AWl.p (by exact R_load_pr U (.no U) U (.tm U) U (by exact map_get hx2R) ty63 U U) U ?_
           refine AWl.p (by exact R_indexAddr_rf U (.no U) U (.tm U) U (.tm U) Tryz.underlying58 ty63 (fun _ => ⟨by omega, map_get hr1⟩)) U ?_
           refine AWl.absupd (R_store_pr U U U (.tm U) U (.tm U) U (map_get hr1) ty63 U U U U) ?_
           refine AWl.nil ?_
           refine AW.le (σ' := ⟨_, [(0, _), (3, _), (4, _), (5, _)], [(1000, _)]⟩) (Le.sub0 U ⟨U, U, U, U, Y⟩ ⟨U, Y⟩) ?_
           refine AW.region ?_
           refine AWl.mv ?_
           refine AWl.p (R_add U (.no U) U (.tm U) (.const U) (fun _ => by omega)) U ?_
           refine AWl.av ?_
           refine AWl.nil (AW.region ?_)
           refine AWl.mv ?_
           refine AWl.p (R_add U (.no U) U (.tm U) (.const U) (fun _ => by omega)) U ?_
           refine AWl.av ?_
           refine AWl.nil ?_
           repeat (with_reducible refine BlockQ.nor ?_)
           refine Round3.next (k2 + 1) (k1 + 1) (Rr.set k1 x2) ⟨⟨by omega, by omega, by omega, by simp; omega⟩, by rw [set_drop (by omega)]; exact drop_more he1.1 (by omega), by rw [set_take (by omega), he1.2, show k + (k2 + 1) = k + k2 + 1 by omega, compactL_take' (by omega) hx2 hy2', if_neg (fun e => h44.elim (fun h => h (pair_eq.1 e).1.symm) (fun h => h (pair_eq.1 e).2.symm))]⟩ (by omega) (Le.sub0 rfl ⟨rfl, rfl, rfl, rfl, Y⟩ ⟨(by (refine congrArg (fun r => some (R.row _ r)) ?_; simp [chunk, List.map_set, cInt, cBool, cIntS, cPair, cToken, cExpr, cEdge, cGraph, cStep, cWalk, cChange, cBatch, cHistory, cPositions, cAutomaton, cProductStep, cPathAtom, cConjunction, cView, cDelta, cRegistered, cRegistry])), Y⟩)
         · skip
           try simp at h44
           refine AW.skip ?_
           refine AW.le (σ' := ⟨_, [(0, _), (3, _), (4, _), (5, _)], [(1000, _)]⟩) (Le.sub0 U ⟨U, U, U, U, Y⟩ ⟨U, Y⟩) ?_
           refine AW.region ?_
           refine AWl.mv ?_
           refine AWl.p (R_add U (.no U) U (.tm U) (.const U) (fun _ => by omega)) U ?_
           refine AWl.av ?_
           refine AWl.nil ?_
           repeat (with_reducible refine BlockQ.nor ?_)
           refine Round3.next (k2 + 1) (k1) (Rr) ⟨⟨by omega, by omega, by omega, hk1.2.2.2⟩, drop_more he1.1 (by omega), by rw [he1.2, show k + (k2 + 1) = k + k2 + 1 by omega, compactL_take' (by omega) hx2 hy2', if_pos (pair_eq.2 ⟨h44.1.symm, h44.2.symm⟩), List.append_nil]⟩ (by omega) (Le.sub0 rfl ⟨rfl, rfl, rfl, rfl, Y⟩ ⟨(by rfl), Y⟩)
       · skip
         try simp at h32
         refine AW.exit ?_
         refine AW.sr ?_
         refine AWl.mv ?_
         refine AWl.mv ?_
         refine AWl.p ((by exact R_slice_rf (m := k1) U (.no U) U (.tm U) U (.yes (.tm U) (fun _ => by first | rfl | omega | (simp <;> omega))) Tryz.underlying58 ty63 (fun _ => by simp; omega))) U ?_
         refine AWl.absupd (R_clear U U U (.tm U) U Tryz.underlying58 in63 U U) ?_
         refine AWl.nil (AW.seq ?_)
         refine AW.le (σ' := ⟨_, [(0, _), (3, _), (4, _), (5, _)], [(1000, _)]⟩) (Le.sub0 U ⟨U, U, U, U, Y⟩ ⟨U, Y⟩) ?_
         refine AW.region ?_
         refine AWl.mv ?_
         refine AWl.mv ?_
         refine AWl.chgput (R_cut (m := k1) U U U (.tm U) U (.yes (.tm U) (fun _ => by first | rfl | omega | (simp <;> omega))) Tryz.underlying58 ty63 (by simp; omega)) U ?_
         refine AWl.le (σ' := ⟨_, [(0, _), (3, _), (4, _), (5, _), (59, _)], [(1000, _)]⟩) (Le.sub0 U ⟨U, U, U, U, U, Y⟩ ⟨U, Y⟩) ?_
         refine AWl.av ?_
         refine AWl.nil (AW.ret ?_)
         refine Res.one U (.tmp U .nil) U ?_
         refine congrArg (fun r => [V0.one (T.sl 2 r)]) ?_; exact cut_rows (by rw [he1.2, List.take_of_length_le (by omega)]) (by omega)
     · skip
       try simp at h25
       refine AW.skip ?_
       refine AW.le (σ' := ⟨_, [(0, _), (3, _)], [(1000, _)]⟩) (Le.sub0 U ⟨U, U, Y⟩ ⟨U, Y⟩) ?_
       refine AW.region ?_
       refine AWl.mv ?_
       refine AWl.p (R_add U (.no U) U (.tm U) (.const U) (fun _ => by omega)) U ?_
       refine AWl.av ?_
       refine AWl.nil ?_
       repeat (with_reducible refine BlockQ.nor ?_)
       refine Round1.next (k + 1) ⟨⟨by omega, fun j x' y' hj hx' hy' => by rcases Nat.lt_or_eq_of_le (Nat.le_of_lt_succ hj) with h | h; exact hk.2 j x' y' h hx' hy'; (subst h; rw [hx] at hx'; rw [show j = j + 1 - 1 by omega] at hy'; rw [hy] at hy'; cases hx'; cases hy'; exact fun e => h25 (by rw [e]) (by rw [e]))⟩, Y⟩ (by omega) (Le.sub0 rfl ⟨rfl, rfl, Y⟩ ⟨(by rfl), Y⟩)
   · skip
     try simp at h13
     refine AW.exit ?_
     refine AW.sr ?_
     refine AWl.mv ?_
     refine AWl.av ?_
     refine AWl.nil (AW.ret ?_)
     refine Res.one U (.tmp U .nil) U ?_
     rw [compactL_all h13 (fun j x y hj => hk.2 j x y (by omega))]; rfl
theorem implpairSet (l : List TPair) (hz : l.length ≤ 4294967296) : FnT Tryz.prog 127 [.one (.sl 2 (l.map cPair))] (.a (.one (.sl 2 ((setG pless l).map cPair)))) := by
 refine FnT.walk Tryz.func127 U (by kernel_rfl) Tryz.ntmps127 U fun hlen w0 => ?_
 try simp [cPair, cToken, cExpr, cEdge, cGraph] at hlen
 refine AW.sr ?_
 refine AWl.ac ?_
 refine AWl.nilS (i := 2) 20001 2 U U ?_
 refine AWl.nil (AW.sr ?_)
 refine AWl.add (R_empty 4 U U U Tryz.underlying58 ty63 U) U ?_
 refine AWl.mv ?_
 refine AWl.chgput (R_append U U U (.tm U) U (.tm U) (by exact .t) (by exact isV_map (fun _ => rfl) _) Tryz.underlying58 in63 U (by (simp [chunk]; omega)) (by (unfold maxLen; simp [chunk]; omega))) U ?_
 refine AWl.le (σ' := ⟨_, [(0, _), (2, _), (6, _)], [(20001, _), (4, _)]⟩) (Le.sub0 U ⟨U, U, U, Y⟩ ⟨U, U, Y⟩) ?_
 refine AWl.av ?_
 refine AWl.nil (AW.sr ?_)
 refine AWl.mv ?_
 refine AWl.updput (R_sortc U U U (.tm U) U .func (sortPairs l (by omega))) U ?_
 refine AWl.nil (AW.sr ?_)
 refine AWl.mv ?_
 apply AWl.consume
 case ho =>
  apply R_consume (xo := .tmp 9) 1000 (CompactPair (sortG pless l) (by rw [sortG_len]; omega)) rfl rfl rfl (.tm rfl)
  case ha => rfl
  case hargs => exact (ArgC.own .nil)
  all_goals rfl
 case hd => rfl
 refine AWl.av ?_
 refine AWl.nil (AW.ret ?_)
 refine Res.one U (.tmp U .nil) U ?_
 rw [compact_sort pless_so]; rfl
end Go.Proofs.YtbkhopfpejhnlaaGreat
