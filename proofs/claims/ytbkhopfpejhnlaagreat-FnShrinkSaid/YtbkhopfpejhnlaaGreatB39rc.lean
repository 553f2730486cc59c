import Derived.Test.YtbkhopfpejhnlaaGreatB34rc
import Derived.Test.YtbkhopfpejhnlaaGreatAbsPrc
set_option linter.unusedVariables false
set_option linter.unusedSimpArgs false
set_option maxHeartbeats 1000000
set_option maxRecDepth 100000
namespace Go.Q
open Go.D
theorem del_rows {α : Type} {c : α → List T} {l : List α} {i m : Nat} {Z : List (List T)} (hi : i < l.length) (hm : m = i + (((l.map c).take (l.map c).length).drop (i + 1)).length) :
 (((l.map c).take i ++ ((l.map c).take (l.map c).length).drop (i + 1) ++ (l.map c).drop (i + (((l.map c).take (l.map c).length).drop (i + 1)).length)).take m ++ Z).take m = (l.take i ++ l.drop (i + 1)).map c := by
 have hX : ((l.map c).take i ++ ((l.map c).take (l.map c).length).drop (i + 1)).length = m := by rw [hm]; simp; omega
 have h1 : ∀ (X B : List (List T)), X.length = m → (X ++ B).take m = X := fun X B h => by rw [List.take_append_of_le_length (by omega), List.take_of_length_le (by omega)]
 rw [h1 _ _ hX, h1 _ _ hX]
 rw [List.take_length, List.map_append, List.map_take, List.map_drop]
theorem rise_all {l : List TEdge} (h : ∀ k x y, l[k]? = some x → l[k + 1]? = some y → x.ID < y.ID) : ∀ (d k : Nat) (x y : TEdge), l[k]? = some x → l[k + d + 1]? = some y → x.ID < y.ID
 | 0, k, x, y, hx, hy => h k x y hx hy
 | d + 1, k, x, y, hx, hy => by
  have hl := (List.getElem?_eq_some_iff.1 hy).1
  have hz : l[k + d + 1]? = some (l[k + d + 1]'(by omega)) := List.getElem?_eq_getElem _
  have h1 := rise_all h d k x _ hx hz
  have h2 := h (k + d + 1) _ y hz (by rw [show k + d + 1 + 1 = k + (d + 1) + 1 by omega]; exact hy)
  omega
theorem del_get {α : Type} {l : List α} {i k : Nat} (hi : i < l.length) : (l.take i ++ l.drop (i + 1))[k]? = if k < i then l[k]? else l[k + 1]? := by
 by_cases h : k < i
 · rw [if_pos h, List.getElem?_append_left (by rw [List.length_take]; omega), List.getElem?_take, if_pos h]
 · rw [if_neg h, List.getElem?_append_right (by rw [List.length_take]; omega), List.getElem?_drop, List.length_take]
   congr 1; omega
def delG (g : TGraph) (id : Int) : TGraph × Bool := if validG g && decide (0 ≤ edgeIndex g id) then (⟨g.Values, g.Edges.take (edgeIndex g id).toNat ++ g.Edges.drop ((edgeIndex g id).toNat + 1)⟩, true) else (g, false)
theorem validG_rise {g : TGraph} (hg : validG g = true) : ∀ k x y, g.Edges[k]? = some x → g.Edges[k + 1]? = some y → x.ID < y.ID := by
 intro k x y hx hy
 unfold validG at hg
 simp only [Bool.and_eq_true] at hg
 have hl := (List.getElem?_eq_some_iff.1 hy).1
 have := List.all_eq_true.1 hg.1.2 (k + 1) (List.mem_range.2 hl)
 unfold edgeAt at this
 rw [hy] at this
 simp only [Nat.add_sub_cancel, hx, Option.getD_some, Bool.and_eq_true, Bool.not_eq_true', Bool.and_eq_false_iff, decide_eq_false_iff_not] at this
 rcases this.2 with h | h <;> omega
theorem delG_valid {g : TGraph} {id : Int} (h : (delG g id).2 = true) : validG (delG g id).1 = true ∧ (delG g id).1.Values = g.Values ∧ validG g = true := by
 unfold delG at *
 split at h
 · rename_i hc
   rw [if_pos hc]
   simp only [Bool.and_eq_true, decide_eq_true_eq] at hc
   obtain ⟨hg, h0⟩ := hc
   refine ⟨?_, rfl, hg⟩
   obtain ⟨i, xi, hi, hix⟩ := edgeIndex_get h0
   rw [hix, Int.toNat_natCast]
   have hil := (List.getElem?_eq_some_iff.1 hi).1
   have hri := rise_all (validG_rise hg)
   have hg' := hg
   unfold validG at hg' ⊢
   simp only [Bool.and_eq_true, decide_eq_true_eq] at hg' ⊢
   refine ⟨⟨hg'.1.1, List.all_eq_true.2 fun k hk => ?_⟩, hg'.2.1, ?_⟩
   · have hk := List.mem_range.1 hk
     rw [List.length_append, List.length_take, List.length_drop] at hk
     unfold edgeAt
     rw [del_get hil]
     have hlook : ∀ q y, g.Edges[q]? = some y → edgeOk y (g.Values.length : Int) = true := fun q y hy => by
      have := List.all_eq_true.1 hg'.1.2 q (List.mem_range.2 (List.getElem?_eq_some_iff.1 hy).1)
      unfold edgeAt at this
      rw [hy] at this
      simp only [Bool.and_eq_true] at this
      exact this.1
     by_cases hki : k < i
     · rw [if_pos hki]
       have hy : g.Edges[k]? = some (g.Edges[k]'(by omega)) := List.getElem?_eq_getElem _
       rw [hy]
       simp only [Bool.and_eq_true, Bool.not_eq_true', Bool.and_eq_false_iff, decide_eq_false_iff_not]
       refine ⟨hlook k _ hy, ?_⟩
       by_cases hk0 : k = 0
       · exact .inl (by omega)
       · refine .inr ?_
         have hx : g.Edges[k - 1]? = some (g.Edges[k - 1]'(by omega)) := List.getElem?_eq_getElem _
         rw [del_get hil, if_pos (by omega), hx, Option.getD_some]
         have := hri 0 (k - 1) _ _ hx (by rw [show k - 1 + 0 + 1 = k by omega]; exact hy)
         omega
     · rw [if_neg hki]
       have hy : g.Edges[k + 1]? = some (g.Edges[k + 1]'(by omega)) := List.getElem?_eq_getElem _
       rw [hy]
       simp only [Bool.and_eq_true, Bool.not_eq_true', Bool.and_eq_false_iff, decide_eq_false_iff_not]
       refine ⟨hlook (k + 1) _ hy, ?_⟩
       by_cases hk0 : k = 0
       · exact .inl (by omega)
       · refine .inr ?_
         rw [del_get hil]
         by_cases hk1 : k - 1 < i
         · have hx : g.Edges[k - 1]? = some (g.Edges[k - 1]'(by omega)) := List.getElem?_eq_getElem _
           rw [if_pos hk1, hx, Option.getD_some]
           have := hri 1 (k - 1) _ _ hx (by rw [show k - 1 + 1 + 1 = k + 1 by omega]; exact hy)
           omega
         · have hx : g.Edges[k - 1 + 1]? = some (g.Edges[k - 1 + 1]'(by omega)) := List.getElem?_eq_getElem _
           rw [if_neg hk1, hx, Option.getD_some]
           have := hri 0 (k - 1 + 1) _ _ hx (by rw [show k - 1 + 1 + 0 + 1 = k + 1 by omega]; exact hy)
           omega
   · have := hg'.2.2
     rw [List.length_append, List.length_take, List.length_drop]; omega
 · cases h
end Go.Q
namespace Go.Proofs.YtbkhopfpejhnlaaGreat
open Go.RowKit Go.Q Go.D
theorem DeleteEdge1 (l : List TEdge) (i : Nat) (hi : i < l.length) (hz : l.length ≤ 1099511627776) : FnC Tryz.prog 67 [(true, .one (.sl 4 (l.map cEdge))), (false, .one (.v (.int .i64 i))), (false, .one (.v (.int .i64 ((i + 1 : Nat) : Int))))] (.a (.one (.sl 4 ((l.take i ++ l.drop (i + 1)).map cEdge)))) := by
 refine FnC.walk Tryz.func67 rfl (by kernel_rfl) Tryz.ntmps67 rfl (by rfl) fun w0 => ?_
 refine AW.le (σ' := ⟨_, [(0, _), (1, _), (2, _)], [(1000, _)]⟩) (Le.sub0 U ⟨U, U, U, Y⟩ ⟨U, Y⟩) ?_
 try simp [cPair, cToken, cExpr, cEdge, cGraph] at hlen
 refine AW.sr ?_
 refine AWl.ac ?_
 refine AWl.nilS (i := 6) 20001 4 U U ?_
 refine AWl.nil (AW.sr ?_)
 refine AWl.mv ?_
 refine AWl.mv ?_
 refine AWl.mv ?_
 refine AWl.mv ?_
 refine AWl.p (by exact R_lenm U (.no U) U (.tm U) (by exact .rf U) Tryz.underlying25) U ?_
 refine AWl.p (R_slice3 (n := i) (m := i + 1) (r := l.length) U (.no U) U (.tm U) U (.tm U) (.tm U) (.tm U) Tryz.underlying25 ty39 (fun _ => by refine ⟨?_, ?_, ?_⟩ <;> first | omega | (simp <;> omega))) U ?_
 refine AWl.nil (AW.seq ?_)
 refine AW.seq ?_
 refine AW.le (σ' := ⟨_, [(0, _), (1, _), (2, _), (6, _)], [(1000, _), (20001, _)]⟩) (Le.sub0 U ⟨U, U, U, U, Y⟩ ⟨U, U, Y⟩) ?_
 refine AW.region ?_
 refine AWl.mv ?_
 refine AWl.mv ?_
 refine AWl.p (R_eq U (.no U) U (.tm U) (.tm U)) U ?_
 refine AWl.nil ?_
 refine AW.cond (.tm U) (fun h16 => ?_) (fun h16 => ?_)
 · exact absurd h16 (by (simp; omega))
 · skip
   try simp at h16
   refine AW.skip ?_
   refine AW.sr ?_
   refine AWl.mv ?_
   refine AWl.p (by exact R_lenm U (.no U) U (.tm U) (by exact .rf U) Tryz.underlying25) U ?_
   refine AWl.av ?_
   refine AWl.nil (AW.seq ?_)
   refine AW.dagn 8 26 [[], [0], [1], [3], [4], [0, 1], [0, 3], [0, 4], [1, 3], [1, 4], [3, 4], [0, 1, 2], [0, 1, 3], [0, 1, 4], [0, 3, 4], [1, 3, 4], [3, 4, 5], [0, 1, 2, 3], [0, 1, 2, 4], [0, 1, 3, 4], [0, 3, 4, 5], [1, 3, 4, 5], [0, 1, 2, 3, 4], [0, 1, 3, 4, 5], [0, 1, 2, 3, 4, 5], [0, 1, 2, 3, 4, 5, 6], [0, 1, 2, 3, 4, 5, 6, 7]] [(0, 0, 1), (0, 1, 2), (0, 3, 3), (0, 4, 4), (1, 1, 5), (2, 0, 5), (1, 3, 6), (3, 0, 6), (1, 4, 7), (4, 0, 7), (2, 3, 8), (3, 1, 8), (2, 4, 9), (4, 1, 9), (3, 4, 10), (4, 3, 10), (5, 2, 11), (5, 3, 12), (8, 0, 12), (6, 1, 12), (5, 4, 13), (9, 0, 13), (7, 1, 13), (6, 4, 14), (10, 0, 14), (7, 3, 14), (8, 4, 15), (10, 1, 15), (9, 3, 15), (10, 5, 16), (11, 3, 17), (12, 2, 17), (11, 4, 18), (13, 2, 18), (12, 4, 19), (15, 0, 19), (14, 1, 19), (13, 3, 19), (14, 5, 20), (16, 0, 20), (15, 5, 21), (16, 1, 21), (17, 4, 22), (19, 2, 22), (18, 3, 22), (19, 5, 23), (21, 0, 23), (20, 1, 23), (22, 5, 24), (23, 2, 24), (24, 6, 25), (25, 7, 26)] (by kernel_rfl) (by kernel_rfl) (by kernel_rfl) ?_
   apply Dag.new (i := 0)
   case ha | ho | hb => rfl
   case hE =>
    intro w9
    refine AWl.mv ?_
    exact AWl.nil (Le.sub0 (σ' := ⟨_, [(0, _), (1, _), (2, _), (6, _), (7, _), (16, _), (20, _)], [(1000, _), (20001, _)]⟩) U ⟨U, U, U, U, U, U, U, Y⟩ ⟨U, U, Y⟩)
   apply Dag.new (i := 1)
   case ha | ho | hb => rfl
   case hE =>
    intro w9
    refine AWl.mv ?_
    exact AWl.nil (Le.sub0 (σ' := ⟨_, [(0, _), (1, _), (2, _), (6, _), (7, _), (16, _), (21, _)], [(1000, _), (20001, _)]⟩) U ⟨U, U, U, U, U, U, U, Y⟩ ⟨U, U, Y⟩)
   apply Dag.new (i := 3)
   case ha | ho | hb => rfl
   case hE =>
    intro w9
    refine AWl.mv ?_
    exact AWl.nil (Le.sub0 (σ' := ⟨_, [(0, _), (1, _), (2, _), (6, _), (7, _), (16, _), (23, _)], [(1000, _), (20001, _)]⟩) U ⟨U, U, U, U, U, U, U, Y⟩ ⟨U, U, Y⟩)
   apply Dag.new (i := 4)
   case ha | ho | hb => rfl
   case hE =>
    intro w9
    refine AWl.mv ?_
    exact AWl.nil (Le.sub0 (σ' := ⟨_, [(0, _), (1, _), (2, _), (6, _), (7, _), (16, _), (24, _)], [(1000, _), (20001, _)]⟩) U ⟨U, U, U, U, U, U, U, Y⟩ ⟨U, U, Y⟩)
   apply Dag.new (i := 1)
   case ha | ho | hb => rfl
   case hE =>
    intro w9
    refine AWl.mv ?_
    exact AWl.nil (Le.sub0 (σ' := ⟨_, [(0, _), (1, _), (2, _), (6, _), (7, _), (16, _), (20, _), (21, _)], [(1000, _), (20001, _)]⟩) U ⟨U, U, U, U, U, U, U, U, Y⟩ ⟨U, U, Y⟩)
   apply Dag.old (i := 0)
   case ha | ho | hb => rfl
   case hE =>
    intro w9
    refine AWl.mv ?_
    exact AWl.nil (Le.sub0 U ⟨U, U, U, U, U, U, U, U, Y⟩ ⟨U, U, Y⟩)
   apply Dag.new (i := 3)
   case ha | ho | hb => rfl
   case hE =>
    intro w9
    refine AWl.mv ?_
    exact AWl.nil (Le.sub0 (σ' := ⟨_, [(0, _), (1, _), (2, _), (6, _), (7, _), (16, _), (20, _), (23, _)], [(1000, _), (20001, _)]⟩) U ⟨U, U, U, U, U, U, U, U, Y⟩ ⟨U, U, Y⟩)
   apply Dag.old (i := 0)
   case ha | ho | hb => rfl
   case hE =>
    intro w9
    refine AWl.mv ?_
    exact AWl.nil (Le.sub0 U ⟨U, U, U, U, U, U, U, U, Y⟩ ⟨U, U, Y⟩)
   apply Dag.new (i := 4)
   case ha | ho | hb => rfl
   case hE =>
    intro w9
    refine AWl.mv ?_
    exact AWl.nil (Le.sub0 (σ' := ⟨_, [(0, _), (1, _), (2, _), (6, _), (7, _), (16, _), (20, _), (24, _)], [(1000, _), (20001, _)]⟩) U ⟨U, U, U, U, U, U, U, U, Y⟩ ⟨U, U, Y⟩)
   apply Dag.old (i := 0)
   case ha | ho | hb => rfl
   case hE =>
    intro w9
    refine AWl.mv ?_
    exact AWl.nil (Le.sub0 U ⟨U, U, U, U, U, U, U, U, Y⟩ ⟨U, U, Y⟩)
   apply Dag.new (i := 3)
   case ha | ho | hb => rfl
   case hE =>
    intro w9
    refine AWl.mv ?_
    exact AWl.nil (Le.sub0 (σ' := ⟨_, [(0, _), (1, _), (2, _), (6, _), (7, _), (16, _), (21, _), (23, _)], [(1000, _), (20001, _)]⟩) U ⟨U, U, U, U, U, U, U, U, Y⟩ ⟨U, U, Y⟩)
   apply Dag.old (i := 1)
   case ha | ho | hb => rfl
   case hE =>
    intro w9
    refine AWl.mv ?_
    exact AWl.nil (Le.sub0 U ⟨U, U, U, U, U, U, U, U, Y⟩ ⟨U, U, Y⟩)
   apply Dag.new (i := 4)
   case ha | ho | hb => rfl
   case hE =>
    intro w9
    refine AWl.mv ?_
    exact AWl.nil (Le.sub0 (σ' := ⟨_, [(0, _), (1, _), (2, _), (6, _), (7, _), (16, _), (21, _), (24, _)], [(1000, _), (20001, _)]⟩) U ⟨U, U, U, U, U, U, U, U, Y⟩ ⟨U, U, Y⟩)
   apply Dag.old (i := 1)
   case ha | ho | hb => rfl
   case hE =>
    intro w9
    refine AWl.mv ?_
    exact AWl.nil (Le.sub0 U ⟨U, U, U, U, U, U, U, U, Y⟩ ⟨U, U, Y⟩)
   apply Dag.new (i := 4)
   case ha | ho | hb => rfl
   case hE =>
    intro w9
    refine AWl.mv ?_
    exact AWl.nil (Le.sub0 (σ' := ⟨_, [(0, _), (1, _), (2, _), (6, _), (7, _), (16, _), (23, _), (24, _)], [(1000, _), (20001, _)]⟩) U ⟨U, U, U, U, U, U, U, U, Y⟩ ⟨U, U, Y⟩)
   apply Dag.old (i := 3)
   case ha | ho | hb => rfl
   case hE =>
    intro w9
    refine AWl.mv ?_
    exact AWl.nil (Le.sub0 U ⟨U, U, U, U, U, U, U, U, Y⟩ ⟨U, U, Y⟩)
   apply Dag.new (i := 2)
   case ha | ho | hb => rfl
   case hE =>
    intro w9
    refine AWl.p (R_slice_pf (m := i) U (.no U) U (.tm U) U (.yes (.tm U) (fun _ => by first | rfl | omega | (simp <;> omega))) Tryz.underlying25 ty39 (fun _ => by first | omega | (simp <;> omega))) U ?_
    exact AWl.nil (Le.sub0 (σ' := ⟨_, [(0, _), (1, _), (2, _), (6, _), (7, _), (16, _), (22, _)], [(1000, _), (20001, _)]⟩) U ⟨U, U, U, U, U, U, U, Y⟩ ⟨U, U, Y⟩)
   apply Dag.new (i := 3)
   case ha | ho | hb => rfl
   case hE =>
    intro w9
    refine AWl.mv ?_
    exact AWl.nil (Le.sub0 (σ' := ⟨_, [(0, _), (1, _), (2, _), (6, _), (7, _), (16, _), (20, _), (21, _), (23, _)], [(1000, _), (20001, _)]⟩) U ⟨U, U, U, U, U, U, U, U, U, Y⟩ ⟨U, U, Y⟩)
   apply Dag.old (i := 0)
   case ha | ho | hb => rfl
   case hE =>
    intro w9
    refine AWl.mv ?_
    exact AWl.nil (Le.sub0 U ⟨U, U, U, U, U, U, U, U, U, Y⟩ ⟨U, U, Y⟩)
   apply Dag.old (i := 1)
   case ha | ho | hb => rfl
   case hE =>
    intro w9
    refine AWl.mv ?_
    exact AWl.nil (Le.sub0 U ⟨U, U, U, U, U, U, U, U, U, Y⟩ ⟨U, U, Y⟩)
   apply Dag.new (i := 4)
   case ha | ho | hb => rfl
   case hE =>
    intro w9
    refine AWl.mv ?_
    exact AWl.nil (Le.sub0 (σ' := ⟨_, [(0, _), (1, _), (2, _), (6, _), (7, _), (16, _), (20, _), (21, _), (24, _)], [(1000, _), (20001, _)]⟩) U ⟨U, U, U, U, U, U, U, U, U, Y⟩ ⟨U, U, Y⟩)
   apply Dag.old (i := 0)
   case ha | ho | hb => rfl
   case hE =>
    intro w9
    refine AWl.mv ?_
    exact AWl.nil (Le.sub0 U ⟨U, U, U, U, U, U, U, U, U, Y⟩ ⟨U, U, Y⟩)
   apply Dag.old (i := 1)
   case ha | ho | hb => rfl
   case hE =>
    intro w9
    refine AWl.mv ?_
    exact AWl.nil (Le.sub0 U ⟨U, U, U, U, U, U, U, U, U, Y⟩ ⟨U, U, Y⟩)
   apply Dag.new (i := 4)
   case ha | ho | hb => rfl
   case hE =>
    intro w9
    refine AWl.mv ?_
    exact AWl.nil (Le.sub0 (σ' := ⟨_, [(0, _), (1, _), (2, _), (6, _), (7, _), (16, _), (20, _), (23, _), (24, _)], [(1000, _), (20001, _)]⟩) U ⟨U, U, U, U, U, U, U, U, U, Y⟩ ⟨U, U, Y⟩)
   apply Dag.old (i := 0)
   case ha | ho | hb => rfl
   case hE =>
    intro w9
    refine AWl.mv ?_
    exact AWl.nil (Le.sub0 U ⟨U, U, U, U, U, U, U, U, U, Y⟩ ⟨U, U, Y⟩)
   apply Dag.old (i := 3)
   case ha | ho | hb => rfl
   case hE =>
    intro w9
    refine AWl.mv ?_
    exact AWl.nil (Le.sub0 U ⟨U, U, U, U, U, U, U, U, U, Y⟩ ⟨U, U, Y⟩)
   apply Dag.new (i := 4)
   case ha | ho | hb => rfl
   case hE =>
    intro w9
    refine AWl.mv ?_
    exact AWl.nil (Le.sub0 (σ' := ⟨_, [(0, _), (1, _), (2, _), (6, _), (7, _), (16, _), (21, _), (23, _), (24, _)], [(1000, _), (20001, _)]⟩) U ⟨U, U, U, U, U, U, U, U, U, Y⟩ ⟨U, U, Y⟩)
   apply Dag.old (i := 1)
   case ha | ho | hb => rfl
   case hE =>
    intro w9
    refine AWl.mv ?_
    exact AWl.nil (Le.sub0 U ⟨U, U, U, U, U, U, U, U, U, Y⟩ ⟨U, U, Y⟩)
   apply Dag.old (i := 3)
   case ha | ho | hb => rfl
   case hE =>
    intro w9
    refine AWl.mv ?_
    exact AWl.nil (Le.sub0 U ⟨U, U, U, U, U, U, U, U, U, Y⟩ ⟨U, U, Y⟩)
   apply Dag.new (i := 5)
   case ha | ho | hb => rfl
   case hE =>
    intro w9
    refine AWl.p (R_slice_vwr (n := (i + 1)) U (.no U) U (.tm U) U (.yes (.tm U) (fun _ => by first | rfl | omega | (simp <;> omega))) .no Tryz.underlying25 ty39 (fun _ => ⟨by simp; omega, by simp⟩)) U ?_
    exact AWl.nil (Le.sub0 (σ' := ⟨_, [(0, _), (1, _), (2, _), (6, _), (7, _), (16, _), (25, _)], [(1000, _), (20001, _)]⟩) U ⟨U, U, U, U, U, U, U, Y⟩ ⟨U, U, Y⟩)
   apply Dag.new (i := 3)
   case ha | ho | hb => rfl
   case hE =>
    intro w9
    refine AWl.mv ?_
    exact AWl.nil (Le.sub0 (σ' := ⟨_, [(0, _), (1, _), (2, _), (6, _), (7, _), (16, _), (22, _), (23, _)], [(1000, _), (20001, _)]⟩) U ⟨U, U, U, U, U, U, U, U, Y⟩ ⟨U, U, Y⟩)
   apply Dag.old (i := 2)
   case ha | ho | hb => rfl
   case hE =>
    intro w9
    refine AWl.p (R_slice_pf (m := i) U (.no U) U (.tm U) U (.yes (.tm U) (fun _ => by first | rfl | omega | (simp <;> omega))) Tryz.underlying25 ty39 (fun _ => by first | omega | (simp <;> omega))) U ?_
    exact AWl.nil (Le.sub0 U ⟨U, U, U, U, U, U, U, U, Y⟩ ⟨U, U, Y⟩)
   apply Dag.new (i := 4)
   case ha | ho | hb => rfl
   case hE =>
    intro w9
    refine AWl.mv ?_
    exact AWl.nil (Le.sub0 (σ' := ⟨_, [(0, _), (1, _), (2, _), (6, _), (7, _), (16, _), (22, _), (24, _)], [(1000, _), (20001, _)]⟩) U ⟨U, U, U, U, U, U, U, U, Y⟩ ⟨U, U, Y⟩)
   apply Dag.old (i := 2)
   case ha | ho | hb => rfl
   case hE =>
    intro w9
    refine AWl.p (R_slice_pf (m := i) U (.no U) U (.tm U) U (.yes (.tm U) (fun _ => by first | rfl | omega | (simp <;> omega))) Tryz.underlying25 ty39 (fun _ => by first | omega | (simp <;> omega))) U ?_
    exact AWl.nil (Le.sub0 U ⟨U, U, U, U, U, U, U, U, Y⟩ ⟨U, U, Y⟩)
   apply Dag.new (i := 4)
   case ha | ho | hb => rfl
   case hE =>
    intro w9
    refine AWl.mv ?_
    exact AWl.nil (Le.sub0 (σ' := ⟨_, [(0, _), (1, _), (2, _), (6, _), (7, _), (16, _), (20, _), (21, _), (23, _), (24, _)], [(1000, _), (20001, _)]⟩) U ⟨U, U, U, U, U, U, U, U, U, U, Y⟩ ⟨U, U, Y⟩)
   apply Dag.old (i := 0)
   case ha | ho | hb => rfl
   case hE =>
    intro w9
    refine AWl.mv ?_
    exact AWl.nil (Le.sub0 U ⟨U, U, U, U, U, U, U, U, U, U, Y⟩ ⟨U, U, Y⟩)
   apply Dag.old (i := 1)
   case ha | ho | hb => rfl
   case hE =>
    intro w9
    refine AWl.mv ?_
    exact AWl.nil (Le.sub0 U ⟨U, U, U, U, U, U, U, U, U, U, Y⟩ ⟨U, U, Y⟩)
   apply Dag.old (i := 3)
   case ha | ho | hb => rfl
   case hE =>
    intro w9
    refine AWl.mv ?_
    exact AWl.nil (Le.sub0 U ⟨U, U, U, U, U, U, U, U, U, U, Y⟩ ⟨U, U, Y⟩)
   apply Dag.new (i := 5)
   case ha | ho | hb => rfl
   case hE =>
    intro w9
    refine AWl.p (R_slice_vwr (n := (i + 1)) U (.no U) U (.tm U) U (.yes (.tm U) (fun _ => by first | rfl | omega | (simp <;> omega))) .no Tryz.underlying25 ty39 (fun _ => ⟨by simp; omega, by simp⟩)) U ?_
    exact AWl.nil (Le.sub0 (σ' := ⟨_, [(0, _), (1, _), (2, _), (6, _), (7, _), (16, _), (20, _), (25, _)], [(1000, _), (20001, _)]⟩) U ⟨U, U, U, U, U, U, U, U, Y⟩ ⟨U, U, Y⟩)
   apply Dag.old (i := 0)
   case ha | ho | hb => rfl
   case hE =>
    intro w9
    refine AWl.mv ?_
    exact AWl.nil (Le.sub0 U ⟨U, U, U, U, U, U, U, U, Y⟩ ⟨U, U, Y⟩)
   apply Dag.new (i := 5)
   case ha | ho | hb => rfl
   case hE =>
    intro w9
    refine AWl.p (R_slice_vwr (n := (i + 1)) U (.no U) U (.tm U) U (.yes (.tm U) (fun _ => by first | rfl | omega | (simp <;> omega))) .no Tryz.underlying25 ty39 (fun _ => ⟨by simp; omega, by simp⟩)) U ?_
    exact AWl.nil (Le.sub0 (σ' := ⟨_, [(0, _), (1, _), (2, _), (6, _), (7, _), (16, _), (21, _), (25, _)], [(1000, _), (20001, _)]⟩) U ⟨U, U, U, U, U, U, U, U, Y⟩ ⟨U, U, Y⟩)
   apply Dag.old (i := 1)
   case ha | ho | hb => rfl
   case hE =>
    intro w9
    refine AWl.mv ?_
    exact AWl.nil (Le.sub0 U ⟨U, U, U, U, U, U, U, U, Y⟩ ⟨U, U, Y⟩)
   apply Dag.new (i := 4)
   case ha | ho | hb => rfl
   case hE =>
    intro w9
    refine AWl.mv ?_
    exact AWl.nil (Le.sub0 (σ' := ⟨_, [(0, _), (1, _), (2, _), (6, _), (7, _), (16, _), (22, _), (23, _), (24, _)], [(1000, _), (20001, _)]⟩) U ⟨U, U, U, U, U, U, U, U, U, Y⟩ ⟨U, U, Y⟩)
   apply Dag.old (i := 2)
   case ha | ho | hb => rfl
   case hE =>
    intro w9
    refine AWl.p (R_slice_pf (m := i) U (.no U) U (.tm U) U (.yes (.tm U) (fun _ => by first | rfl | omega | (simp <;> omega))) Tryz.underlying25 ty39 (fun _ => by first | omega | (simp <;> omega))) U ?_
    exact AWl.nil (Le.sub0 U ⟨U, U, U, U, U, U, U, U, U, Y⟩ ⟨U, U, Y⟩)
   apply Dag.old (i := 3)
   case ha | ho | hb => rfl
   case hE =>
    intro w9
    refine AWl.mv ?_
    exact AWl.nil (Le.sub0 U ⟨U, U, U, U, U, U, U, U, U, Y⟩ ⟨U, U, Y⟩)
   apply Dag.new (i := 5)
   case ha | ho | hb => rfl
   case hE =>
    intro w9
    refine AWl.p (R_slice_vwr (n := (i + 1)) U (.no U) U (.tm U) U (.yes (.tm U) (fun _ => by first | rfl | omega | (simp <;> omega))) .no Tryz.underlying25 ty39 (fun _ => ⟨by simp; omega, by simp⟩)) U ?_
    exact AWl.nil (Le.sub0 (σ' := ⟨_, [(0, _), (1, _), (2, _), (6, _), (7, _), (16, _), (20, _), (21, _), (25, _)], [(1000, _), (20001, _)]⟩) U ⟨U, U, U, U, U, U, U, U, U, Y⟩ ⟨U, U, Y⟩)
   apply Dag.old (i := 0)
   case ha | ho | hb => rfl
   case hE =>
    intro w9
    refine AWl.mv ?_
    exact AWl.nil (Le.sub0 U ⟨U, U, U, U, U, U, U, U, U, Y⟩ ⟨U, U, Y⟩)
   apply Dag.old (i := 1)
   case ha | ho | hb => rfl
   case hE =>
    intro w9
    refine AWl.mv ?_
    exact AWl.nil (Le.sub0 U ⟨U, U, U, U, U, U, U, U, U, Y⟩ ⟨U, U, Y⟩)
   apply Dag.new (i := 5)
   case ha | ho | hb => rfl
   case hE =>
    intro w9
    refine AWl.p (R_slice_vwr (n := (i + 1)) U (.no U) U (.tm U) U (.yes (.tm U) (fun _ => by first | rfl | omega | (simp <;> omega))) .no Tryz.underlying25 ty39 (fun _ => ⟨by simp; omega, by simp⟩)) U ?_
    exact AWl.nil (Le.sub0 (σ' := ⟨_, [(0, _), (1, _), (2, _), (6, _), (7, _), (16, _), (22, _), (25, _)], [(1000, _), (20001, _)]⟩) U ⟨U, U, U, U, U, U, U, U, Y⟩ ⟨U, U, Y⟩)
   apply Dag.old (i := 2)
   case ha | ho | hb => rfl
   case hE =>
    intro w9
    refine AWl.p (R_slice_pf (m := i) U (.no U) U (.tm U) U (.yes (.tm U) (fun _ => by first | rfl | omega | (simp <;> omega))) Tryz.underlying25 ty39 (fun _ => by first | omega | (simp <;> omega))) U ?_
    exact AWl.nil (Le.sub0 U ⟨U, U, U, U, U, U, U, U, Y⟩ ⟨U, U, Y⟩)
   apply Dag.new (i := 6)
   case ha | ho | hb => rfl
   case hE =>
    intro w9
    refine AWl.updput (R_append_pf U U U (.tm U) U (.tm U) (by exact .vw) (by exact isV_map (fun _ => rfl) _) (by exact isV_part (fun _ => rfl) _ _ _) Tryz.underlying25 in39 (by simp <;> omega)) U ?_
    exact AWl.nil (Le.sub0 (σ' := ⟨_, [(0, _), (1, _), (2, _), (6, _), (7, _), (16, _), (26, _)], [(1000, _), (20001, _)]⟩) U ⟨U, U, U, U, U, U, U, Y⟩ ⟨U, U, Y⟩)
   apply Dag.new (i := 7)
   case ha | ho | hb => rfl
   case hE =>
    intro w9
    refine AWl.av ?_
    exact AWl.nil (Le.sub0 (σ' := ⟨_, [(0, _), (1, _), (2, _), (6, _), (7, _), (16, _)], [(1000, _), (20001, _)]⟩) U ⟨U, U, U, U, U, U, Y⟩ ⟨U, U, Y⟩)
   refine Dag.fin (k := 26) U ?_
   refine AWl.nil (AW.sr ?_)
   refine AWl.mv ?_
   refine AWl.mv ?_
   refine AWl.p (by exact R_len_pf U (.no U) U (.tm U) Tryz.underlying25) U ?_
   refine AWl.mv ?_
   refine AWl.p (R_slice_pftl U (.no U) U (.tm U) U (.yes (.tm U) (fun _ => by first | rfl | omega | (simp <;> omega))) (.yes (.tm U) (fun _ => by first | rfl | omega | (simp <;> omega))) Tryz.underlying25 ty39 (fun _ => ⟨by first | rfl | omega | (simp <;> omega), by first | rfl | omega | (simp <;> omega)⟩)) U ?_
   refine AWl.absupd (R_clear U U U (.tm U) U Tryz.underlying25 in39 U U) ?_
   refine AWl.nil (AW.seq ?_)
   refine AW.le (σ' := ⟨_, [(0, _), (1, _), (2, _), (6, _), (7, _)], [(1000, _), (20001, _)]⟩) (Le.sub0 U ⟨U, U, U, U, U, Y⟩ ⟨U, U, Y⟩) ?_
   refine AW.region ?_
   refine AWl.mv ?_
   refine AWl.le (Le.closePf (d := 32) U U) ?_
   refine AWl.av ?_
   refine AWl.nil (AW.ret ?_)
   refine Res.one U (.tmp U .nil) U ?_
   refine congrArg (fun r => [V0.one (T.sl 4 r)]) ?_; exact del_rows hi rfl
theorem implcopyGraph (g : TGraph) (hz1 : g.Values.length ≤ 1073741824) (hz2 : g.Edges.length ≤ 1073741824) : FnT Tryz.prog 29 [.agg (cGraph g)] (.a (.agg (cGraph g))) := by
 refine FnT.walk Tryz.func29 U (by kernel_rfl) Tryz.ntmps29 U fun hlen w0 => ?_
 try simp [cPair, cToken, cExpr, cEdge, cGraph] at hlen
 refine AW.sr ?_
 refine AWl.p (R_boxz U U U (.tm U) (ts := _) (by rfl)) U ?_
 refine AWl.add (R_alloc 2 U U U in27 U U U) U ?_
 refine AWl.nil (AW.seq ?_)
 refine AW.le (σ' := ⟨_, [(0, _), (1, _), (2, _)], [(2, _)]⟩) (Le.sub0 U ⟨U, U, U, Y⟩ ⟨U, Y⟩) ?_
 refine AW.drawK 8 (nthB [[], [0], [0, 1], [], [], [4], [0, 1, 2, 3, 4, 5], [0, 1, 2, 3, 4, 5, 6]]) [(6, 6)] (by kernel_rfl) (by kernel_rfl) (by kernel_rfl) ?_
 refine DrawK.step (LocK.of U fun σ' hs => (by exact R_fieldAddr U (.no U) (hd_sup hs U) (.tm (hs.slots _ _ U)) fl27_0)) ?_
 refine DrawK.step (LocK.of U fun σ' hs => (by exact R_load U (.no U) (hd_sup hs U) (.tm (hs.slots _ _ U)) ty24 U U)) ?_
 refine DrawK.step (LocK.ofs1 U fun σ' hs hf => R_call 500 (implcopyInts g.Values hz1) U U (hd_sup hs U) (.cons (.tm (hs.slots _ _ U)) (readA_sup hs U) .nil) U (all_fresh hf)) ?_
 refine DrawK.step (LocK.of1 U fun σ' hs hf => R_empty 6 U U (hd_sup hs U) Tryz.underlying25 ty39 hf) ?_
 refine DrawK.step (LocK.of U fun σ' hs => (by exact R_fieldAddr U (.no U) (hd_sup hs U) (.tm (hs.slots _ _ U)) fl27_1)) ?_
 refine DrawK.step (LocK.of U fun σ' hs => (by exact R_load U (.no U) (hd_sup hs U) (.tm (hs.slots _ _ U)) ty25 U U)) ?_
 refine DrawK.step (LocK.ofc U U fun σ' hs => R_append (id := 6) U U (hd_sup hs U) (.tm (hs.slots _ _ U)) (hs.res _ _ U) (.tm (hs.slots _ _ U)) (by exact .t) (by exact isV_map (fun _ => rfl) _) Tryz.underlying25 in39 U (by (simp [chunk]; omega)) (by (unfold maxLen; simp [chunk]; omega))) ?_
 refine DrawK.step (LocK.of U fun σ' hs => R_build (ps := [(0, .tmp 5), (1, .tmp 9)]) U U (hd_sup hs U) in27 U U st27 (.cons (.tm (hs.slots _ _ U)) U U fp27_0 (.cons (.tm (hs.slots _ _ U)) U U fp27_1 .nil)) U) ?_
 refine DrawK.fin U U U ?_
 refine AWl.le (σ' := ⟨_, [(0, _), (1, _), (2, _), (10, _)], [(2, _), (500, _), (6, _)]⟩) (Le.sub0 U ⟨U, U, U, U, Y⟩ ⟨U, U, U, Y⟩) ?_
 refine AWl.chgb (R_store_pb U U U (.tm U) (.tm U) U ty27 U U U (by kernel_rfl) U) ?_
 refine AWl.nil (AW.ret ?_)
 refine Res.one U (.cell U U ty27 U U .nil) U ?_
 rfl
theorem implDeleteEdge (g : TGraph) (id : Int) (hz1 : g.Values.length ≤ 1073741824) (hz2 : g.Edges.length ≤ 1073741824) : FnT Tryz.prog 30 [.agg (cGraph g), .one (.v (.int .i64 id))] (.tup [.agg (cGraph (delG g id).1), .one (.v (.bool (delG g id).2))]) := by
 refine FnT.walk Tryz.func30 U (by kernel_rfl) Tryz.ntmps30 U fun hlen w0 => ?_
 try simp [cPair, cToken, cExpr, cEdge, cGraph] at hlen
 refine AW.sr ?_
 refine AWl.p (R_boxz U U U (.tm U) (ts := _) (by rfl)) U ?_
 refine AWl.add (R_alloc 4 U U U in27 U U U) U ?_
 refine AWl.ac ?_
 refine AWl.nil (AW.sr ?_)
 refine AWl.p (by exact R_load U (.no U) U (.tm U) ty27 U U) U ?_
 refine AWl.adds (R_call 900 (implcopyGraph g hz1 hz2) U U U (.cons (.tm U) U .nil) U U) U ?_
 refine AWl.add (R_alloc 6 U U U in27 U U U) U ?_
 refine AWl.chgb (R_store_pb U U U (.tm U) (.tm U) U ty27 U U U (by kernel_rfl) U) ?_
 refine AWl.nil (AW.sr ?_)
 refine AWl.p (by exact R_load U (.no U) U (.tm U) ty27 U U) U ?_
 refine AWl.mv ?_
 refine AWl.p (R_callz (FnT.fr (implEdgeIndex g id)) U (.no U) U (.cons (.tm U) U (.cons (.tm U) U .nil))) U ?_
 refine AWl.av ?_
 refine AWl.nil (AW.seq ?_)
 refine AW.sr ?_
 refine AWl.mv ?_
 refine AWl.p (R_lt U (.no U) U (.tm U) (.const U)) U ?_
 refine AWl.mv ?_
 refine AWl.p (by exact R_load U (by exact .not1 U U U U) U (.tmp U (by exact fun _ => rfl)) ty27 U U) U ?_
 refine AWl.p (R_callz (FnT.fr (implIsValidGraph g)) U (by exact .not1 U U U U) U (.cons (.tmp U (by simp)) U .nil)) U ?_
 refine AWl.p (R_not U (by exact .not1 U U U U) U (.tmp U (by simp))) U ?_
 refine AWl.p (R_or U (.no U) U (.tm U) (.tmp U (by simp))) U ?_
 refine AWl.nil ?_
 refine AW.cond (.tm U) (fun h19 => ?_) (fun h19 => ?_)
 · skip
   try simp at h19
   have hc : (validG g && decide (0 ≤ edgeIndex g id)) = false := by (rcases h19 with h | h; (rw [decide_eq_false (by omega), Bool.and_false]); (rw [h]; rfl))
   refine AW.seq ?_
   refine AW.le (σ' := ⟨_, [(0, _), (1, _), (2, _), (4, _), (5, _), (6, _), (7, _)], [(4, _), (900, _), (901, _), (6, _)]⟩) (Le.sub0 U ⟨U, U, U, U, U, U, U, Y⟩ ⟨U, U, U, U, Y⟩) ?_
   refine AW.region ?_
   refine AWl.p (by exact R_load_pp U (.no U) U (.tm U) U ty27 U U) U ?_
   refine AWl.chgb (R_store_pb U U U (.tm U) (.tm U) U ty27 U U U (by kernel_rfl) U) ?_
   refine AWl.le (σ' := ⟨_, [(0, _), (1, _), (2, _), (4, _), (5, _), (6, _), (7, _)], [(4, _), (900, _), (901, _), (6, _)]⟩) (Le.sub0 U ⟨U, U, U, U, U, U, U, Y⟩ ⟨U, U, U, U, Y⟩) ?_
   refine AWl.ac ?_
   refine AWl.nil (AW.ret ?_)
   refine Res.many U (.cell U U ty27 U U (.tmp U .nil)) U ?_ (by simp)
   unfold delG; rw [hc]; rfl
 · skip
   try simp at h19
   have hc : (validG g && decide (0 ≤ edgeIndex g id)) = true := by (rw [h19.2, decide_eq_true (by omega)]; rfl)
   obtain ⟨i, xi, hgi, hix⟩ := edgeIndex_get (g := g) (id := id) (by omega)
   have hil := (List.getElem?_eq_some_iff.1 hgi).1
   have hdel : FnC Tryz.prog 67 [(true, .one (.sl 4 (g.Edges.map cEdge))), (false, .one (.v (.int .i64 (edgeIndex g id)))), (false, .one (.v (.int .i64 (edgeIndex g id + 1))))] (.a (.one (.sl 4 ((g.Edges.take (edgeIndex g id).toNat ++ g.Edges.drop ((edgeIndex g id).toNat + 1)).map cEdge)))) := by (rw [hix, Int.toNat_natCast]; exact DeleteEdge1 g.Edges i hil (by omega))
   refine AW.skip ?_
   refine AW.seq ?_
   refine AW.le (σ' := ⟨_, [(0, _), (1, _), (2, _), (4, _), (5, _), (6, _), (7, _)], [(4, _), (900, _), (901, _), (6, _)]⟩) (Le.sub0 U ⟨U, U, U, U, U, U, U, Y⟩ ⟨U, U, U, U, Y⟩) ?_
   refine AW.region ?_
   refine AWl.p (by exact R_fieldAddr_pp U (.no U) U (.tm U) fl27_1) U ?_
   refine AWl.p (by exact R_load_pp U (.no U) U (.tm U) U ty25 U U) U ?_
   refine AWl.mv ?_
   refine AWl.mv ?_
   refine AWl.p (R_add U (.no U) U (.tm U) (.const U) (fun _ => by omega)) U ?_
   apply AWl.consume
   case ho =>
    apply R_consume (xo := .tmp 22) 2600 (hdel) rfl rfl rfl (.tm rfl)
    case ha => rfl
    case hargs => exact (ArgC.own (ArgRd.one (.tm rfl) (ArgRd.one (.tm rfl) .nil)))
    all_goals rfl
   case hd => rfl
   refine AWl.p (by exact R_fieldAddr_pp U (.no U) U (.tm U) fl27_1) U ?_
   refine AWl.chgb (R_store_pb U U U (.tm U) (.tm U) U ty25 U U U (by kernel_rfl) U) ?_
   refine AWl.nil (AW.seq ?_)
   refine AW.le (σ' := ⟨_, [(0, _), (1, _), (2, _), (4, _), (5, _), (6, _), (7, _)], [(4, _), (900, _), (6, _), (2600, _)]⟩) (Le.sub0 U ⟨U, U, U, U, U, U, U, Y⟩ ⟨U, U, U, U, Y⟩) ?_
   refine AW.region ?_
   refine AWl.p (by exact R_load_pp U (.no U) U (.tm U) U ty27 U U) U ?_
   refine AWl.chgb (R_store_pb U U U (.tm U) (.tm U) U ty27 U U U (by kernel_rfl) U) ?_
   refine AWl.le (σ' := ⟨_, [(0, _), (1, _), (2, _), (4, _), (5, _), (6, _), (7, _)], [(4, _), (900, _), (6, _), (2600, _)]⟩) (Le.sub0 U ⟨U, U, U, U, U, U, U, Y⟩ ⟨U, U, U, U, Y⟩) ?_
   refine AWl.ac ?_
   refine AWl.nil (AW.ret ?_)
   refine Res.many U (.cell U U ty27 U U (.tmp U .nil)) U ?_ (by simp)
   unfold delG; rw [hc]; rfl
theorem specl3Copy (g : TGraph) (hz1 : g.Values.length ≤ 1073741824) (hz2 : g.Edges.length ≤ 1073741824) : FnT Tryz.prog 31 [.agg (cGraph g)] (.a (.agg (cGraph g))) := by
 refine FnT.walk Tryz.func31 U (by kernel_rfl) Tryz.ntmps31 U fun hlen w0 => ?_
 try simp [cPair, cToken, cExpr, cEdge, cGraph] at hlen
 refine AW.sr ?_
 refine AWl.p (R_boxz U U U (.tm U) (ts := _) (by rfl)) U ?_
 refine AWl.add (R_alloc 2 U U U in27 U U U) U ?_
 refine AWl.nil (AW.seq ?_)
 refine AW.le (σ' := ⟨_, [(0, _), (1, _), (2, _)], [(2, _)]⟩) (Le.sub0 U ⟨U, U, U, Y⟩ ⟨U, Y⟩) ?_
 refine AW.drawK 9 (nthB [[], [], [1], [0, 1, 2], [], [], [5], [0, 1, 2, 3, 4, 5, 6], [0, 1, 2, 3, 4, 5, 6, 7]]) [(3, 3), (7, 7)] (by kernel_rfl) (by kernel_rfl) (by kernel_rfl) ?_
 refine DrawK.step (LocK.of1 U fun σ' hs hf => R_empty 3 U U (hd_sup hs U) Tryz.underlying24 ty3 hf) ?_
 refine DrawK.step (LocK.of U fun σ' hs => (by exact R_fieldAddr U (.no U) (hd_sup hs U) (.tm (hs.slots _ _ U)) fl27_0)) ?_
 refine DrawK.step (LocK.of U fun σ' hs => (by exact R_load U (.no U) (hd_sup hs U) (.tm (hs.slots _ _ U)) ty24 U U)) ?_
 refine DrawK.step (LocK.ofc U U fun σ' hs => R_append (id := 3) U U (hd_sup hs U) (.tm (hs.slots _ _ U)) (hs.res _ _ U) (.tm (hs.slots _ _ U)) (by exact .t) (by exact isV_map (fun _ => rfl) _) Tryz.underlying24 in3 U (by (simp [chunk]; omega)) (by (unfold maxLen; simp [chunk]; omega))) ?_
 refine DrawK.step (LocK.of1 U fun σ' hs hf => R_empty 7 U U (hd_sup hs U) Tryz.underlying25 ty39 hf) ?_
 refine DrawK.step (LocK.of U fun σ' hs => (by exact R_fieldAddr U (.no U) (hd_sup hs U) (.tm (hs.slots _ _ U)) fl27_1)) ?_
 refine DrawK.step (LocK.of U fun σ' hs => (by exact R_load U (.no U) (hd_sup hs U) (.tm (hs.slots _ _ U)) ty25 U U)) ?_
 refine DrawK.step (LocK.ofc U U fun σ' hs => R_append (id := 7) U U (hd_sup hs U) (.tm (hs.slots _ _ U)) (hs.res _ _ U) (.tm (hs.slots _ _ U)) (by exact .t) (by exact isV_map (fun _ => rfl) _) Tryz.underlying25 in39 U (by (simp [chunk]; omega)) (by (unfold maxLen; simp [chunk]; omega))) ?_
 refine DrawK.step (LocK.of U fun σ' hs => R_build (ps := [(0, .tmp 6), (1, .tmp 10)]) U U (hd_sup hs U) in27 U U st27 (.cons (.tm (hs.slots _ _ U)) U U fp27_0 (.cons (.tm (hs.slots _ _ U)) U U fp27_1 .nil)) U) ?_
 refine DrawK.fin U U U ?_
 refine AWl.le (σ' := ⟨_, [(0, _), (1, _), (2, _), (11, _)], [(2, _), (3, _), (7, _)]⟩) (Le.sub0 U ⟨U, U, U, U, Y⟩ ⟨U, U, U, Y⟩) ?_
 refine AWl.chgb (R_store_pb U U U (.tm U) (.tm U) U ty27 U U U (by kernel_rfl) U) ?_
 refine AWl.nil (AW.ret ?_)
 refine Res.one U (.cell U U ty27 U U .nil) U ?_
 rfl
theorem specDeleteEdge (g : TGraph) (id : Int) (hz1 : g.Values.length ≤ 1073741824) (hz2 : g.Edges.length ≤ 1073741824) : FnT Tryz.prog 12 [.agg (cGraph g), .one (.v (.int .i64 id))] (.tup [.agg (cGraph (delG g id).1), .one (.v (.bool (delG g id).2))]) := by
 refine FnT.walk Tryz.func12 U (by kernel_rfl) Tryz.ntmps12 U fun hlen w0 => ?_
 try simp [cPair, cToken, cExpr, cEdge, cGraph] at hlen
 refine AW.sr ?_
 refine AWl.p (R_boxz U U U (.tm U) (ts := _) (by rfl)) U ?_
 refine AWl.add (R_alloc 4 U U U in27 U U U) U ?_
 refine AWl.ac ?_
 refine AWl.nil (AW.sr ?_)
 refine AWl.p (by exact R_load U (.no U) U (.tm U) ty27 U U) U ?_
 refine AWl.mv ?_
 refine AWl.p (R_callz (FnT.fr (specEdgeIndex g id)) U (.no U) U (.cons (.tm U) U (.cons (.tm U) U .nil))) U ?_
 refine AWl.av ?_
 refine AWl.nil (AW.seq ?_)
 refine AW.sr ?_
 refine AWl.p (by exact R_load U (.no U) U (.tm U) ty27 U U) U ?_
 refine AWl.p (R_callz (FnT.fr (specIsValidGraph g)) U (.no U) U (.cons (.tm U) U .nil)) U ?_
 refine AWl.p (R_not U (.no U) U (.tm U)) U ?_
 refine AWl.mv ?_
 refine AWl.p (R_move U (by exact .not1 U U U U) U (.tmp U (by exact fun _ => rfl))) U ?_
 refine AWl.p (R_lt U (by exact .not1 U U U U) U (.tmp U (by simp)) (.const U)) U ?_
 refine AWl.p (R_or U (.no U) U (.tm U) (.tmp U (by simp))) U ?_
 refine AWl.nil ?_
 refine AW.cond (.tm U) (fun h17 => ?_) (fun h17 => ?_)
 · skip
   try simp at h17
   have hc : (validG g && decide (0 ≤ edgeIndex g id)) = false := by (rcases h17 with h | h; (rw [h]; rfl); (rw [decide_eq_false (by omega), Bool.and_false]))
   refine AW.seq ?_
   refine AW.le (σ' := ⟨_, [(0, _), (1, _), (2, _), (4, _), (5, _), (6, _)], [(4, _)]⟩) (Le.sub0 U ⟨U, U, U, U, U, U, Y⟩ ⟨U, Y⟩) ?_
   refine AW.region ?_
   refine AWl.p (by exact R_load U (.no U) U (.tm U) ty27 U U) U ?_
   refine AWl.adds (R_call 1900 (specl3Copy g hz1 hz2) U U U (.cons (.tm U) U .nil) U U) U ?_
   refine AWl.chgb (R_store_pb U U U (.tm U) (.tm U) U ty27 U U U (by kernel_rfl) U) ?_
   refine AWl.le (σ' := ⟨_, [(0, _), (1, _), (2, _), (4, _), (5, _), (6, _)], [(4, _), (1900, _), (1901, _)]⟩) (Le.sub0 U ⟨U, U, U, U, U, U, Y⟩ ⟨U, U, U, Y⟩) ?_
   refine AWl.ac ?_
   refine AWl.nil (AW.ret ?_)
   refine Res.many U (.cell U U ty27 U U (.tmp U .nil)) U ?_ (by simp)
   unfold delG; rw [hc]; rfl
 · skip
   try simp at h17
   have hc : (validG g && decide (0 ≤ edgeIndex g id)) = true := by (rw [h17.1, decide_eq_true (by omega)]; rfl)
   obtain ⟨i, xi, hgi, hix⟩ := edgeIndex_get (g := g) (id := id) (by omega)
   have hil := (List.getElem?_eq_some_iff.1 hgi).1
   refine AW.skip ?_
   refine AW.seq ?_
   refine AW.le (σ' := ⟨_, [(0, _), (1, _), (2, _), (4, _), (5, _), (6, _)], [(4, _)]⟩) (Le.sub0 U ⟨U, U, U, U, U, U, Y⟩ ⟨U, Y⟩) ?_
   refine AW.region ?_
   refine AWl.add (R_empty 20 U U U Tryz.underlying24 ty3 U) U ?_
   refine AWl.p (by exact R_fieldAddr U (.no U) U (.tm U) fl27_0) U ?_
   refine AWl.p (by exact R_load U (.no U) U (.tm U) ty24 U U) U ?_
   refine AWl.chgput (R_append U U U (.tm U) U (.tm U) (by exact .t) (by exact isV_map (fun _ => rfl) _) Tryz.underlying24 in3 U (by (simp [chunk]; omega)) (by (unfold maxLen; simp [chunk]; omega))) U ?_
   refine AWl.le (σ' := ⟨_, [(0, _), (1, _), (2, _), (4, _), (5, _), (6, _), (23, _)], [(4, _), (20, _)]⟩) (Le.sub0 U ⟨U, U, U, U, U, U, U, Y⟩ ⟨U, U, Y⟩) ?_
   refine AWl.p (R_build (ps := [(0, .tmp 23)]) U U U in27 U U st27 (.cons (.tm U) U U fp27_0 .nil) U) U ?_
   refine AWl.nilA (i := 24) 20001 4 1 U U U ?_
   refine AWl.add (R_alloc 7 U U U in27 U U U) U ?_
   refine AWl.chgb (R_store_pb U U U (.tm U) (.tm U) U ty27 U U U (by kernel_rfl) U) ?_
   refine AWl.nil (AW.seq ?_)
   refine AW.le (σ' := ⟨_, [(0, _), (1, _), (2, _), (4, _), (5, _), (6, _), (7, _), (23, _), (24, _)], [(4, _), (20, _), (20001, _), (7, _)]⟩) (Le.sub0 U ⟨U, U, U, U, U, U, U, U, U, Y⟩ ⟨U, U, U, U, Y⟩) ?_
   refine AW.drawK 13 (nthB [[], [], [1], [], [1, 2, 3], [0, 1, 2, 3, 4], [], [6], [], [8], [6, 7, 8, 9], [0, 1, 2, 3, 4, 5, 6, 7, 8, 9, 10], [0, 1, 2, 3, 4, 5, 6, 7, 8, 9, 10, 11]]) [(5, 25), (11, 25)] (by kernel_rfl) (by kernel_rfl) (by kernel_rfl) ?_
   refine DrawK.step (LocK.of1 U fun σ' hs hf => R_empty 25 U U (hd_sup hs U) Tryz.underlying25 ty39 hf) ?_
   refine DrawK.step (LocK.of U fun σ' hs => (by exact R_fieldAddr U (.no U) (hd_sup hs U) (.tm (hs.slots _ _ U)) fl27_1)) ?_
   refine DrawK.step (LocK.of U fun σ' hs => (by exact R_load U (.no U) (hd_sup hs U) (.tm (hs.slots _ _ U)) ty25 U U)) ?_
   refine DrawK.step (LocK.of U fun σ' hs => R_move U (.no U) (hd_sup hs U) (.tm (hs.slots _ _ U))) ?_
   refine DrawK.step (LocK.of U fun σ' hs => R_slice (m := (edgeIndex g id).toNat) U (.no U) (hd_sup hs U) (.tm (hs.slots _ _ U)) .no (.yes (.tm (hs.slots _ _ U)) (fun _ => by first | omega | (simp <;> omega))) Tryz.underlying25 ty39 (fun _ => ⟨by omega, by first | omega | (simp; omega)⟩)) ?_
   refine DrawK.step (LocK.ofc U U fun σ' hs => R_append (id := 25) U U (hd_sup hs U) (.tm (hs.slots _ _ U)) (hs.res _ _ U) (.tm (hs.slots _ _ U)) (by exact .t) (by exact isV_part (fun _ => rfl) _ _ _) Tryz.underlying25 in39 U (by (simp [chunk]; omega)) (by (unfold maxLen; simp [chunk]; omega))) ?_
   refine DrawK.step (LocK.of U fun σ' hs => (by exact R_fieldAddr U (.no U) (hd_sup hs U) (.tm (hs.slots _ _ U)) fl27_1)) ?_
   refine DrawK.step (LocK.of U fun σ' hs => (by exact R_load U (.no U) (hd_sup hs U) (.tm (hs.slots _ _ U)) ty25 U U)) ?_
   refine DrawK.step (LocK.of U fun σ' hs => R_move U (.no U) (hd_sup hs U) (.tm (hs.slots _ _ U))) ?_
   refine DrawK.step (LocK.of U fun σ' hs => R_add U (.no U) (hd_sup hs U) (.tm (hs.slots _ _ U)) (.const U) (fun _ => by omega)) ?_
   refine DrawK.step (LocK.of U fun σ' hs => R_slice (n := ((edgeIndex g id).toNat + 1)) U (.no U) (hd_sup hs U) (.tm (hs.slots _ _ U)) (.yes (.tm (hs.slots _ _ U)) (fun _ => by first | omega | (simp <;> omega))) .no Tryz.underlying25 ty39 (fun _ => ⟨by simp; omega, by simp⟩)) ?_
   refine DrawK.step (LocK.ofc U U fun σ' hs => R_append (id := 25) U U (hd_sup hs U) (.tm (hs.slots _ _ U)) (hs.res _ _ U) (.tm (hs.slots _ _ U)) (by exact .t) (by exact isV_part (fun _ => rfl) _ _ _) Tryz.underlying25 in39 U (by (simp [chunk]; omega)) (by (unfold maxLen; simp [chunk]; omega))) ?_
   refine DrawK.step (LocK.of U fun σ' hs => (by exact R_fieldAddr_pp U (.no U) (hd_sup hs U) (.tm (hs.slots _ _ U)) fl27_1)) ?_
   refine DrawK.fin U U U ?_
   refine AWl.le (σ' := ⟨_, [(0, _), (1, _), (2, _), (4, _), (5, _), (6, _), (7, _), (36, _), (37, _)], [(4, _), (20, _), (20001, _), (7, _), (25, _)]⟩) (Le.sub0 U ⟨U, U, U, U, U, U, U, U, U, Y⟩ ⟨U, U, U, U, U, Y⟩) ?_
   refine AWl.chgb (R_store_pb U U U (.tm U) (.tm U) U ty25 U U U (by kernel_rfl) U) ?_
   refine AWl.nil (AW.sr ?_)
   refine AWl.p (by exact R_load_pp U (.no U) U (.tm U) U ty27 U U) U ?_
   refine AWl.chgb (R_store_pb U U U (.tm U) (.tm U) U ty27 U U U (by kernel_rfl) U) ?_
   refine AWl.le (σ' := ⟨_, [(0, _), (1, _), (2, _), (4, _), (5, _), (6, _), (7, _)], [(4, _), (20, _), (20001, _), (7, _), (25, _)]⟩) (Le.sub0 U ⟨U, U, U, U, U, U, U, Y⟩ ⟨U, U, U, U, U, Y⟩) ?_
   refine AWl.ac ?_
   refine AWl.nil (AW.ret ?_)
   refine Res.many U (.cell U U ty27 U U (.tmp U .nil)) U ?_ (by simp)
   unfold delG; rw [hc]; refine congrArg (fun r => [V0.agg [T.sl 1 (g.Values.map cInt), T.sl 4 r], V0.one (T.v (.bool true))]) ?_; simp [List.map_take, List.map_drop]; rw [List.take_of_length_le (by simp)]
end Go.Proofs.YtbkhopfpejhnlaaGreat
