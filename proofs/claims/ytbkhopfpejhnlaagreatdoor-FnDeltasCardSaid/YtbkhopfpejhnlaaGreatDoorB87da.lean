import Derived.Test.YtbkhopfpejhnlaaGreatDoorB82da
import Derived.Test.YtbkhopfpejhnlaaGreatDoorB83da
set_option linter.unusedVariables false
set_option linter.unusedSimpArgs false
set_option maxHeartbeats 1000000
set_option maxRecDepth 100000
namespace Go.Q
open Go.D
theorem two_bytes {x : List UInt8} (h : x.length = 2) : ∃ a b, x = [a, b] := by
 match x, h with
 | [a, b], _ => exact ⟨a, b, rfl⟩
theorem all2_more {l : List (List UInt8)} {k : Nat} {x : List UInt8} (h : ∀ j y, j < k → l[j]? = some y → y.length = 2) (hx : l[k]? = some x) (h2 : x.length = 2) : ∀ j y, j < k + 1 → l[j]? = some y → y.length = 2 := fun j y hj hy => by
 by_cases e : j = k
 · subst e; rw [hx] at hy; cases hy; exact h2
 · exact h j y (by omega) hy
theorem all2_all {l : List (List UInt8)} {k : Nat} (h : ∀ j y, j < k → l[j]? = some y → y.length = 2) (hk : l.length ≤ k) : (l.all fun x => decide (x.length = 2)) = true := by
 rw [List.all_eq_true]
 intro x hx
 obtain ⟨j, hj⟩ := List.getElem?_of_mem hx
 have := (List.getElem?_eq_some_iff.1 hj).1
 exact decide_eq_true (h j x (by omega) hj)
theorem all2_not {l : List (List UInt8)} {k : Nat} {x : List UInt8} (hx : l[k]? = some x) (h : x.length ≠ 2) : (l.all fun x => decide (x.length = 2)) = false := by
 rw [List.all_eq_false]
 exact ⟨x, List.mem_of_getElem? hx, by simpa using h⟩
theorem parseP_none : parseP noneS = ([], true) := by unfold parseP; rw [if_pos rfl]
theorem parseP_bad {l : List UInt8} (h0 : l ≠ noneS) (h : ((splitL 32 l).all fun x => decide (x.length = 2)) = false) : parseP l = ([], false) := by
 unfold parseP
 rw [if_neg h0, h, if_neg (by simp)]
theorem parseP_nap {l : List UInt8} (h0 : l ≠ noneS) (h : arePairs ((splitL 32 l).map toP) = false) : parseP l = ([], false) := by
 unfold parseP
 rw [if_neg h0, h, if_neg (by simp)]
theorem parseP_yes {l : List UInt8} (h0 : l ≠ noneS) (h : ((splitL 32 l).all fun x => decide (x.length = 2)) = true) (ha : arePairs ((splitL 32 l).map toP) = true) : parseP l = ((splitL 32 l).map toP, true) := by
 unfold parseP
 rw [if_neg h0, h, ha]; rfl
end Go.Q
namespace Go.Proofs.YtbkhopfpejhnlaaGreatDoor
open Go.RowKit Go.Q Go.D
theorem implParsePairs (l : List UInt8) (hz : l.length ≤ 2000000) : FnT Tryz.prog 55 [.one (.v (.string (bs l)))] (.tup [.one (.sl 2 ((parseP l).1.map cPair)), .one (.v (.bool (parseP l).2))]) := by
 have hcs := stringsSplit (bs l) 32 (by rw [bs_size]; omega)
 rw [bs_list] at hcs
 refine FnT.walk Tryz.func55 U (by kernel_rfl) Tryz.ntmps55 U fun hlen w0 => ?_
 try simp [cPair, cToken, cExpr, cEdge, cGraph, cStep, cWalk, cChange, cBatch, cHistory, cPositions, cAutomaton, cProductStep, cPathAtom, cConjunction, cView, cDelta, cRegistered, cRegistry] at hlen
 have hsz := bs_size l
 have hn : (ByteArray.mk #[110, 111, 110, 101]) = bs noneS := rfl
 have hcl := splitL_len 32 l
 have hcl2 := List.count_le_length (a := 32) (l := l)
 refine AW.sr ?_
 refine AWl.ac U U U U U ?_
 refine AWl.nilS (i := 2) 20001 2 U U ?_
 refine AWl.ac U U U U U ?_
 refine AWl.nil (AW.sr ?_)
 refine AWl.add (R_empty 7 U U U Tryz.underlying24 ty68 U) U ?_
 refine AWl.av U U U U U ?_
 refine AWl.nil (AW.seq ?_)
 refine AW.sr ?_
 refine AWl.mv U U U U U ?_
 refine AWl.put (R_eqstr U (.no U) U (.tm U) (.const U)) U ?_
 refine AWl.nil ?_
 refine AW.cond (.tm U) (fun h9 => ?_) (fun h9 => ?_)
 · skip
   try simp at h9
   refine AW.sr ?_
   refine AWl.mv U U U U U ?_
   refine AWl.av U U U U U ?_
   refine AWl.ac U U U U U ?_
   refine AWl.nil (AW.ret ?_)
   refine Res.many U (.tmp U (.tmp U .nil)) U ?_ (by simp)
   have e : l = noneS := bs_inj (m := noneS) h9; rw [e, parseP_none]; rfl
 · skip
   try simp at h9
   have hne : l ≠ noneS := (fun e => h9 (by rw [e, hn]))
   refine AW.skip ?_
   refine AW.seq ?_
   refine AW.sr ?_
   refine AWl.mv U U U U U ?_
   refine AWl.put (R_callz (FnT.fr (hcs)) U (.no U) U (.cons (.tm U) U (.cons (.const U) U .nil))) U ?_
   refine AWl.put ((by first | exact R_lenm U (.no U) U (.tm U) (by first | exact .t | exact .rf U | exact .vw | exact .nil) Tryz.underlying87 | exact R_len U (.no U) U (.tm U) (by first | exact .t | exact .rf U | exact .vw | exact .nil) Tryz.underlying87)) U ?_
   refine AWl.put (R_move U (.no U) U (.const U)) U ?_
   refine AWl.nil (AW.block ?_)
   refine AW.loop1 (fun (k : Nat) => (k ≤ (splitL 32 l).length ∧ (∀ j y, j < k → (splitL 32 l)[j]? = some y → y.length = 2)) ∧ True) (fun (k : Nat) => ⟨_, [(14, (true, .a (.one (.t (.v (.int .i64 (k : Nat))))))), (4, (true, .a (.one (.rf 7)))), (0, _), (12, _), (13, _)], [(7, .row 2 ((((splitL 32 l).take k).map toP).map cPair))]⟩) (fun (k : Nat) => (splitL 32 l).length - k) (0) ⟨⟨Nat.zero_le _, fun j c hj => by omega⟩, trivial⟩ (Le.sub0 U ⟨U, U, U, U, U, trivial⟩ ⟨U, trivial⟩) ?_
   rintro k ⟨hk, he⟩
   refine AW.sr ?_
   refine AWl.put (R_lt U (.no U) U (.tm U) (.tm U)) U ?_
   refine AWl.nil (AW.seq ?_)
   refine AW.cond (.tm U) (fun h15 => ?_) (fun h15 => ?_)
   · skip
     try simp at h15
     obtain ⟨x, hx⟩ : ∃ ξ, (splitL 32 l)[k]? = some ξ := ⟨_, List.getElem?_eq_getElem (by omega)⟩
     have hxs := bs_size x
     refine AW.skip ?_
     refine AW.seq ?_
     refine AW.block ?_
     refine AW.sr ?_
     refine AWl.put ((by first | exact R_indexAddr U (.no U) U (.tm U) (.tm U) Tryz.underlying87 ty9 (fun _ => ⟨by omega, (map_get hx)⟩) | exact R_indexAddr_vw U (.no U) U (.tm U) (.tm U) Tryz.underlying87 ty9 (fun _ => ⟨by omega, (map_get hx)⟩) | exact R_indexAddr_rf U (.no U) U (.tm U) U (.tm U) Tryz.underlying87 ty9 (fun _ => ⟨by omega, (map_get hx)⟩))) U ?_
     refine AWl.put ((by first | exact R_load U (.no U) U (.tm U) ty9 U U | exact R_load_pp U (.no U) U (.tm U) U ty9 U U | exact R_load_vw U (.no U) U (.tm U) ty9 U U | exact R_load_pr U (.no U) U (.tm U) U (map_get hx) ty9 U U)) U ?_
     refine AWl.av U U U U U ?_
     refine AWl.nil (AW.seq ?_)
     refine AW.sr ?_
     refine AWl.mv U U U U U ?_
     refine AWl.put (R_len_s U (.no U) U (.tm U) Tryz.underlying9) U ?_
     refine AWl.put (R_ne U (.no U) U (.tm U) (.const U)) U ?_
     refine AWl.nil ?_
     refine AW.cond (.tm U) (fun h20 => ?_) (fun h20 => ?_)
     · skip
       try simp at h20
       refine AW.seq ?_
       refine AW.le (σ' := ⟨_, [(0, _), (4, _), (6, _), (12, _), (13, _), (14, _)], [(7, _)]⟩) (Le.sub0 U ⟨U, U, U, U, U, U, trivial⟩ ⟨U, trivial⟩) ?_
       refine AW.region ?_
       refine AWl.ac U U U U U ?_
       refine AWl.nilS (i := 2) 20002 2 U U ?_
       refine AWl.ac U U U U U ?_
       refine AWl.nil (AW.ret ?_)
       refine Res.many U (.tmp U (.tmp U .nil)) U ?_ (by simp)
       rw [parseP_bad hne (all2_not hx (by rw [← hxs]; omega))]; rfl
     · skip
       try simp at h20
       have h2 : x.length = 2 := by (first | omega | (simp at h20; omega))
       obtain ⟨a, b, hab⟩ := two_bytes h2
       have ha8 : a.toNat < 256 := a.toNat_lt
       have hb8 : b.toNat < 256 := b.toNat_lt
       refine AW.skip ?_
       refine AW.le (σ' := ⟨_, [(0, _), (4, _), (6, _), (12, _), (13, _), (14, _)], [(7, _)]⟩) (Le.sub0 U ⟨U, U, U, U, U, U, trivial⟩ ⟨U, trivial⟩) ?_
       refine AW.dagn 13 55 [[], [0], [1], [5], [0, 1], [0, 5], [1, 2], [1, 5], [5, 6], [0, 1, 2], [0, 1, 5], [0, 5, 6], [1, 2, 3], [1, 2, 5], [1, 5, 6], [5, 6, 7], [0, 1, 2, 3], [0, 1, 2, 5], [0, 1, 5, 6], [0, 5, 6, 7], [1, 2, 3, 4], [1, 2, 3, 5], [1, 2, 5, 6], [1, 5, 6, 7], [5, 6, 7, 8], [0, 1, 2, 3, 4], [0, 1, 2, 3, 5], [0, 1, 2, 5, 6], [0, 1, 5, 6, 7], [0, 5, 6, 7, 8], [1, 2, 3, 4, 5], [1, 2, 3, 5, 6], [1, 2, 5, 6, 7], [1, 5, 6, 7, 8], [0, 1, 2, 3, 4, 5], [0, 1, 2, 3, 5, 6], [0, 1, 2, 5, 6, 7], [0, 1, 5, 6, 7, 8], [1, 2, 3, 4, 5, 6], [1, 2, 3, 5, 6, 7], [1, 2, 5, 6, 7, 8], [0, 1, 2, 3, 4, 5, 6], [0, 1, 2, 3, 5, 6, 7], [0, 1, 2, 5, 6, 7, 8], [1, 2, 3, 4, 5, 6, 7], [1, 2, 3, 5, 6, 7, 8], [0, 1, 2, 3, 4, 5, 6, 7], [0, 1, 2, 3, 5, 6, 7, 8], [1, 2, 3, 4, 5, 6, 7, 8], [0, 1, 2, 3, 4, 5, 6, 7, 8], [1, 2, 3, 4, 5, 6, 7, 8, 9], [0, 1, 2, 3, 4, 5, 6, 7, 8, 9], [1, 2, 3, 4, 5, 6, 7, 8, 9, 10], [0, 1, 2, 3, 4, 5, 6, 7, 8, 9, 10], [0, 1, 2, 3, 4, 5, 6, 7, 8, 9, 10, 11], [0, 1, 2, 3, 4, 5, 6, 7, 8, 9, 10, 11, 12]] [(0, 0, 1), (0, 1, 2), (0, 5, 3), (1, 1, 4), (2, 0, 4), (1, 5, 5), (3, 0, 5), (2, 2, 6), (2, 5, 7), (3, 1, 7), (3, 6, 8), (4, 2, 9), (6, 0, 9), (4, 5, 10), (7, 0, 10), (5, 1, 10), (5, 6, 11), (8, 0, 11), (6, 3, 12), (6, 5, 13), (7, 2, 13), (7, 6, 14), (8, 1, 14), (8, 7, 15), (9, 3, 16), (12, 0, 16), (9, 5, 17), (13, 0, 17), (10, 2, 17), (10, 6, 18), (14, 0, 18), (11, 1, 18), (11, 7, 19), (15, 0, 19), (12, 4, 20), (12, 5, 21), (13, 3, 21), (13, 6, 22), (14, 2, 22), (14, 7, 23), (15, 1, 23), (15, 8, 24), (16, 4, 25), (20, 0, 25), (16, 5, 26), (21, 0, 26), (17, 3, 26), (17, 6, 27), (22, 0, 27), (18, 2, 27), (18, 7, 28), (23, 0, 28), (19, 1, 28), (19, 8, 29), (24, 0, 29), (20, 5, 30), (21, 4, 30), (21, 6, 31), (22, 3, 31), (22, 7, 32), (23, 2, 32), (23, 8, 33), (24, 1, 33), (25, 5, 34), (30, 0, 34), (26, 4, 34), (26, 6, 35), (31, 0, 35), (27, 3, 35), (27, 7, 36), (32, 0, 36), (28, 2, 36), (28, 8, 37), (33, 0, 37), (29, 1, 37), (30, 6, 38), (31, 4, 38), (31, 7, 39), (32, 3, 39), (32, 8, 40), (33, 2, 40), (34, 6, 41), (38, 0, 41), (35, 4, 41), (35, 7, 42), (39, 0, 42), (36, 3, 42), (36, 8, 43), (40, 0, 43), (37, 2, 43), (38, 7, 44), (39, 4, 44), (39, 8, 45), (40, 3, 45), (41, 7, 46), (44, 0, 46), (42, 4, 46), (42, 8, 47), (45, 0, 47), (43, 3, 47), (44, 8, 48), (45, 4, 48), (46, 8, 49), (48, 0, 49), (47, 4, 49), (48, 9, 50), (49, 9, 51), (50, 0, 51), (50, 10, 52), (51, 10, 53), (52, 0, 53), (53, 11, 54), (54, 12, 55)] (by kernel_rfl) (by kernel_rfl) (by kernel_rfl) ?_
       apply Dag.new (i := 0)
       case ha | ho | hb => rfl
       case hE =>
        intro w9
        refine AWl.mv U U U U U ?_
        exact AWl.nil (Le.sub0 (σ' := ⟨_, [(0, _), (4, _), (6, _), (12, _), (13, _), (14, _), (21, _)], [(7, _)]⟩) U ⟨U, U, U, U, U, U, U, trivial⟩ ⟨U, trivial⟩)
       apply Dag.new (i := 1)
       case ha | ho | hb => rfl
       case hE =>
        intro w9
        refine AWl.mv U U U U U ?_
        exact AWl.nil (Le.sub0 (σ' := ⟨_, [(0, _), (4, _), (6, _), (12, _), (13, _), (14, _), (22, _)], [(7, _)]⟩) U ⟨U, U, U, U, U, U, U, trivial⟩ ⟨U, trivial⟩)
       apply Dag.new (i := 5)
       case ha | ho | hb => rfl
       case hE =>
        intro w9
        refine AWl.mv U U U U U ?_
        exact AWl.nil (Le.sub0 (σ' := ⟨_, [(0, _), (4, _), (6, _), (12, _), (13, _), (14, _), (26, _)], [(7, _)]⟩) U ⟨U, U, U, U, U, U, U, trivial⟩ ⟨U, trivial⟩)
       apply Dag.new (i := 1)
       case ha | ho | hb => rfl
       case hE =>
        intro w9
        refine AWl.mv U U U U U ?_
        exact AWl.nil (Le.sub0 (σ' := ⟨_, [(0, _), (4, _), (6, _), (12, _), (13, _), (14, _), (21, _), (22, _)], [(7, _)]⟩) U ⟨U, U, U, U, U, U, U, U, trivial⟩ ⟨U, trivial⟩)
       apply Dag.old (i := 0)
       case ha | ho | hb => rfl
       case hE =>
        intro w9
        refine AWl.mv U U U U U ?_
        exact AWl.nil (Le.sub0 U ⟨U, U, U, U, U, U, U, U, trivial⟩ ⟨U, trivial⟩)
       apply Dag.new (i := 5)
       case ha | ho | hb => rfl
       case hE =>
        intro w9
        refine AWl.mv U U U U U ?_
        exact AWl.nil (Le.sub0 (σ' := ⟨_, [(0, _), (4, _), (6, _), (12, _), (13, _), (14, _), (21, _), (26, _)], [(7, _)]⟩) U ⟨U, U, U, U, U, U, U, U, trivial⟩ ⟨U, trivial⟩)
       apply Dag.old (i := 0)
       case ha | ho | hb => rfl
       case hE =>
        intro w9
        refine AWl.mv U U U U U ?_
        exact AWl.nil (Le.sub0 U ⟨U, U, U, U, U, U, U, U, trivial⟩ ⟨U, trivial⟩)
       apply Dag.new (i := 2)
       case ha | ho | hb => rfl
       case hE =>
        intro w9
        refine AWl.put (R_strIndex U (.no U) U (.tm U) (.const U) Tryz.underlying9 (fun _ => ⟨by omega, (by rw [bs_get, hab]; rfl)⟩)) U ?_
        exact AWl.nil (Le.sub0 (σ' := ⟨_, [(0, _), (4, _), (6, _), (12, _), (13, _), (14, _), (23, _)], [(7, _)]⟩) U ⟨U, U, U, U, U, U, U, trivial⟩ ⟨U, trivial⟩)
       apply Dag.new (i := 5)
       case ha | ho | hb => rfl
       case hE =>
        intro w9
        refine AWl.mv U U U U U ?_
        exact AWl.nil (Le.sub0 (σ' := ⟨_, [(0, _), (4, _), (6, _), (12, _), (13, _), (14, _), (22, _), (26, _)], [(7, _)]⟩) U ⟨U, U, U, U, U, U, U, U, trivial⟩ ⟨U, trivial⟩)
       apply Dag.old (i := 1)
       case ha | ho | hb => rfl
       case hE =>
        intro w9
        refine AWl.mv U U U U U ?_
        exact AWl.nil (Le.sub0 U ⟨U, U, U, U, U, U, U, U, trivial⟩ ⟨U, trivial⟩)
       apply Dag.new (i := 6)
       case ha | ho | hb => rfl
       case hE =>
        intro w9
        refine AWl.put (R_strIndex U (.no U) U (.tm U) (.const U) Tryz.underlying9 (fun _ => ⟨by omega, (by rw [bs_get, hab]; rfl)⟩)) U ?_
        exact AWl.nil (Le.sub0 (σ' := ⟨_, [(0, _), (4, _), (6, _), (12, _), (13, _), (14, _), (27, _)], [(7, _)]⟩) U ⟨U, U, U, U, U, U, U, trivial⟩ ⟨U, trivial⟩)
       apply Dag.new (i := 2)
       case ha | ho | hb => rfl
       case hE =>
        intro w9
        refine AWl.put (R_strIndex U (.no U) U (.tm U) (.const U) Tryz.underlying9 (fun _ => ⟨by omega, (by rw [bs_get, hab]; rfl)⟩)) U ?_
        exact AWl.nil (Le.sub0 (σ' := ⟨_, [(0, _), (4, _), (6, _), (12, _), (13, _), (14, _), (21, _), (23, _)], [(7, _)]⟩) U ⟨U, U, U, U, U, U, U, U, trivial⟩ ⟨U, trivial⟩)
       apply Dag.old (i := 0)
       case ha | ho | hb => rfl
       case hE =>
        intro w9
        refine AWl.mv U U U U U ?_
        exact AWl.nil (Le.sub0 U ⟨U, U, U, U, U, U, U, U, trivial⟩ ⟨U, trivial⟩)
       apply Dag.new (i := 5)
       case ha | ho | hb => rfl
       case hE =>
        intro w9
        refine AWl.mv U U U U U ?_
        exact AWl.nil (Le.sub0 (σ' := ⟨_, [(0, _), (4, _), (6, _), (12, _), (13, _), (14, _), (21, _), (22, _), (26, _)], [(7, _)]⟩) U ⟨U, U, U, U, U, U, U, U, U, trivial⟩ ⟨U, trivial⟩)
       apply Dag.old (i := 0)
       case ha | ho | hb => rfl
       case hE =>
        intro w9
        refine AWl.mv U U U U U ?_
        exact AWl.nil (Le.sub0 U ⟨U, U, U, U, U, U, U, U, U, trivial⟩ ⟨U, trivial⟩)
       apply Dag.old (i := 1)
       case ha | ho | hb => rfl
       case hE =>
        intro w9
        refine AWl.mv U U U U U ?_
        exact AWl.nil (Le.sub0 U ⟨U, U, U, U, U, U, U, U, U, trivial⟩ ⟨U, trivial⟩)
       apply Dag.new (i := 6)
       case ha | ho | hb => rfl
       case hE =>
        intro w9
        refine AWl.put (R_strIndex U (.no U) U (.tm U) (.const U) Tryz.underlying9 (fun _ => ⟨by omega, (by rw [bs_get, hab]; rfl)⟩)) U ?_
        exact AWl.nil (Le.sub0 (σ' := ⟨_, [(0, _), (4, _), (6, _), (12, _), (13, _), (14, _), (21, _), (27, _)], [(7, _)]⟩) U ⟨U, U, U, U, U, U, U, U, trivial⟩ ⟨U, trivial⟩)
       apply Dag.old (i := 0)
       case ha | ho | hb => rfl
       case hE =>
        intro w9
        refine AWl.mv U U U U U ?_
        exact AWl.nil (Le.sub0 U ⟨U, U, U, U, U, U, U, U, trivial⟩ ⟨U, trivial⟩)
       apply Dag.new (i := 3)
       case ha | ho | hb => rfl
       case hE =>
        intro w9
        refine AWl.put (R_conv U (.no U) U (.tm U) (by rw [Tryz.underlying5]; rfl) Tryz.underlying3 (fun _ => (show IntKind.i64.wrap (a.toNat : Int) = (a.toNat : Int) by simp [IntKind.wrap, IntKind.bits]; omega))) U ?_
        exact AWl.nil (Le.sub0 (σ' := ⟨_, [(0, _), (4, _), (6, _), (12, _), (13, _), (14, _), (24, _)], [(7, _)]⟩) U ⟨U, U, U, U, U, U, U, trivial⟩ ⟨U, trivial⟩)
       apply Dag.new (i := 5)
       case ha | ho | hb => rfl
       case hE =>
        intro w9
        refine AWl.mv U U U U U ?_
        exact AWl.nil (Le.sub0 (σ' := ⟨_, [(0, _), (4, _), (6, _), (12, _), (13, _), (14, _), (23, _), (26, _)], [(7, _)]⟩) U ⟨U, U, U, U, U, U, U, U, trivial⟩ ⟨U, trivial⟩)
       apply Dag.old (i := 2)
       case ha | ho | hb => rfl
       case hE =>
        intro w9
        refine AWl.put (R_strIndex U (.no U) U (.tm U) (.const U) Tryz.underlying9 (fun _ => ⟨by omega, (by rw [bs_get, hab]; rfl)⟩)) U ?_
        exact AWl.nil (Le.sub0 U ⟨U, U, U, U, U, U, U, U, trivial⟩ ⟨U, trivial⟩)
       apply Dag.new (i := 6)
       case ha | ho | hb => rfl
       case hE =>
        intro w9
        refine AWl.put (R_strIndex U (.no U) U (.tm U) (.const U) Tryz.underlying9 (fun _ => ⟨by omega, (by rw [bs_get, hab]; rfl)⟩)) U ?_
        exact AWl.nil (Le.sub0 (σ' := ⟨_, [(0, _), (4, _), (6, _), (12, _), (13, _), (14, _), (22, _), (27, _)], [(7, _)]⟩) U ⟨U, U, U, U, U, U, U, U, trivial⟩ ⟨U, trivial⟩)
       apply Dag.old (i := 1)
       case ha | ho | hb => rfl
       case hE =>
        intro w9
        refine AWl.mv U U U U U ?_
        exact AWl.nil (Le.sub0 U ⟨U, U, U, U, U, U, U, U, trivial⟩ ⟨U, trivial⟩)
       apply Dag.new (i := 7)
       case ha | ho | hb => rfl
       case hE =>
        intro w9
        refine AWl.put (R_conv U (.no U) U (.tm U) (by rw [Tryz.underlying5]; rfl) Tryz.underlying3 (fun _ => (show IntKind.i64.wrap (b.toNat : Int) = (b.toNat : Int) by simp [IntKind.wrap, IntKind.bits]; omega))) U ?_
        exact AWl.nil (Le.sub0 (σ' := ⟨_, [(0, _), (4, _), (6, _), (12, _), (13, _), (14, _), (28, _)], [(7, _)]⟩) U ⟨U, U, U, U, U, U, U, trivial⟩ ⟨U, trivial⟩)
       apply Dag.new (i := 3)
       case ha | ho | hb => rfl
       case hE =>
        intro w9
        refine AWl.put (R_conv U (.no U) U (.tm U) (by rw [Tryz.underlying5]; rfl) Tryz.underlying3 (fun _ => (show IntKind.i64.wrap (a.toNat : Int) = (a.toNat : Int) by simp [IntKind.wrap, IntKind.bits]; omega))) U ?_
        exact AWl.nil (Le.sub0 (σ' := ⟨_, [(0, _), (4, _), (6, _), (12, _), (13, _), (14, _), (21, _), (24, _)], [(7, _)]⟩) U ⟨U, U, U, U, U, U, U, U, trivial⟩ ⟨U, trivial⟩)
       apply Dag.old (i := 0)
       case ha | ho | hb => rfl
       case hE =>
        intro w9
        refine AWl.mv U U U U U ?_
        exact AWl.nil (Le.sub0 U ⟨U, U, U, U, U, U, U, U, trivial⟩ ⟨U, trivial⟩)
       apply Dag.new (i := 5)
       case ha | ho | hb => rfl
       case hE =>
        intro w9
        refine AWl.mv U U U U U ?_
        exact AWl.nil (Le.sub0 (σ' := ⟨_, [(0, _), (4, _), (6, _), (12, _), (13, _), (14, _), (21, _), (23, _), (26, _)], [(7, _)]⟩) U ⟨U, U, U, U, U, U, U, U, U, trivial⟩ ⟨U, trivial⟩)
       apply Dag.old (i := 0)
       case ha | ho | hb => rfl
       case hE =>
        intro w9
        refine AWl.mv U U U U U ?_
        exact AWl.nil (Le.sub0 U ⟨U, U, U, U, U, U, U, U, U, trivial⟩ ⟨U, trivial⟩)
       apply Dag.old (i := 2)
       case ha | ho | hb => rfl
       case hE =>
        intro w9
        refine AWl.put (R_strIndex U (.no U) U (.tm U) (.const U) Tryz.underlying9 (fun _ => ⟨by omega, (by rw [bs_get, hab]; rfl)⟩)) U ?_
        exact AWl.nil (Le.sub0 U ⟨U, U, U, U, U, U, U, U, U, trivial⟩ ⟨U, trivial⟩)
       apply Dag.new (i := 6)
       case ha | ho | hb => rfl
       case hE =>
        intro w9
        refine AWl.put (R_strIndex U (.no U) U (.tm U) (.const U) Tryz.underlying9 (fun _ => ⟨by omega, (by rw [bs_get, hab]; rfl)⟩)) U ?_
        exact AWl.nil (Le.sub0 (σ' := ⟨_, [(0, _), (4, _), (6, _), (12, _), (13, _), (14, _), (21, _), (22, _), (27, _)], [(7, _)]⟩) U ⟨U, U, U, U, U, U, U, U, U, trivial⟩ ⟨U, trivial⟩)
       apply Dag.old (i := 0)
       case ha | ho | hb => rfl
       case hE =>
        intro w9
        refine AWl.mv U U U U U ?_
        exact AWl.nil (Le.sub0 U ⟨U, U, U, U, U, U, U, U, U, trivial⟩ ⟨U, trivial⟩)
       apply Dag.old (i := 1)
       case ha | ho | hb => rfl
       case hE =>
        intro w9
        refine AWl.mv U U U U U ?_
        exact AWl.nil (Le.sub0 U ⟨U, U, U, U, U, U, U, U, U, trivial⟩ ⟨U, trivial⟩)
       apply Dag.new (i := 7)
       case ha | ho | hb => rfl
       case hE =>
        intro w9
        refine AWl.put (R_conv U (.no U) U (.tm U) (by rw [Tryz.underlying5]; rfl) Tryz.underlying3 (fun _ => (show IntKind.i64.wrap (b.toNat : Int) = (b.toNat : Int) by simp [IntKind.wrap, IntKind.bits]; omega))) U ?_
        exact AWl.nil (Le.sub0 (σ' := ⟨_, [(0, _), (4, _), (6, _), (12, _), (13, _), (14, _), (21, _), (28, _)], [(7, _)]⟩) U ⟨U, U, U, U, U, U, U, U, trivial⟩ ⟨U, trivial⟩)
       apply Dag.old (i := 0)
       case ha | ho | hb => rfl
       case hE =>
        intro w9
        refine AWl.mv U U U U U ?_
        exact AWl.nil (Le.sub0 U ⟨U, U, U, U, U, U, U, U, trivial⟩ ⟨U, trivial⟩)
       apply Dag.new (i := 4)
       case ha | ho | hb => rfl
       case hE =>
        intro w9
        refine AWl.put (R_sub U (.no U) U (.tm U) (.const U) (fun _ => by omega)) U ?_
        exact AWl.nil (Le.sub0 (σ' := ⟨_, [(0, _), (4, _), (6, _), (12, _), (13, _), (14, _), (25, _)], [(7, _)]⟩) U ⟨U, U, U, U, U, U, U, trivial⟩ ⟨U, trivial⟩)
       apply Dag.new (i := 5)
       case ha | ho | hb => rfl
       case hE =>
        intro w9
        refine AWl.mv U U U U U ?_
        exact AWl.nil (Le.sub0 (σ' := ⟨_, [(0, _), (4, _), (6, _), (12, _), (13, _), (14, _), (24, _), (26, _)], [(7, _)]⟩) U ⟨U, U, U, U, U, U, U, U, trivial⟩ ⟨U, trivial⟩)
       apply Dag.old (i := 3)
       case ha | ho | hb => rfl
       case hE =>
        intro w9
        refine AWl.put (R_conv U (.no U) U (.tm U) (by rw [Tryz.underlying5]; rfl) Tryz.underlying3 (fun _ => (show IntKind.i64.wrap (a.toNat : Int) = (a.toNat : Int) by simp [IntKind.wrap, IntKind.bits]; omega))) U ?_
        exact AWl.nil (Le.sub0 U ⟨U, U, U, U, U, U, U, U, trivial⟩ ⟨U, trivial⟩)
       apply Dag.new (i := 6)
       case ha | ho | hb => rfl
       case hE =>
        intro w9
        refine AWl.put (R_strIndex U (.no U) U (.tm U) (.const U) Tryz.underlying9 (fun _ => ⟨by omega, (by rw [bs_get, hab]; rfl)⟩)) U ?_
        exact AWl.nil (Le.sub0 (σ' := ⟨_, [(0, _), (4, _), (6, _), (12, _), (13, _), (14, _), (23, _), (27, _)], [(7, _)]⟩) U ⟨U, U, U, U, U, U, U, U, trivial⟩ ⟨U, trivial⟩)
       apply Dag.old (i := 2)
       case ha | ho | hb => rfl
       case hE =>
        intro w9
        refine AWl.put (R_strIndex U (.no U) U (.tm U) (.const U) Tryz.underlying9 (fun _ => ⟨by omega, (by rw [bs_get, hab]; rfl)⟩)) U ?_
        exact AWl.nil (Le.sub0 U ⟨U, U, U, U, U, U, U, U, trivial⟩ ⟨U, trivial⟩)
       apply Dag.new (i := 7)
       case ha | ho | hb => rfl
       case hE =>
        intro w9
        refine AWl.put (R_conv U (.no U) U (.tm U) (by rw [Tryz.underlying5]; rfl) Tryz.underlying3 (fun _ => (show IntKind.i64.wrap (b.toNat : Int) = (b.toNat : Int) by simp [IntKind.wrap, IntKind.bits]; omega))) U ?_
        exact AWl.nil (Le.sub0 (σ' := ⟨_, [(0, _), (4, _), (6, _), (12, _), (13, _), (14, _), (22, _), (28, _)], [(7, _)]⟩) U ⟨U, U, U, U, U, U, U, U, trivial⟩ ⟨U, trivial⟩)
       apply Dag.old (i := 1)
       case ha | ho | hb => rfl
       case hE =>
        intro w9
        refine AWl.mv U U U U U ?_
        exact AWl.nil (Le.sub0 U ⟨U, U, U, U, U, U, U, U, trivial⟩ ⟨U, trivial⟩)
       apply Dag.new (i := 8)
       case ha | ho | hb => rfl
       case hE =>
        intro w9
        refine AWl.put (R_sub U (.no U) U (.tm U) (.const U) (fun _ => by omega)) U ?_
        exact AWl.nil (Le.sub0 (σ' := ⟨_, [(0, _), (4, _), (6, _), (12, _), (13, _), (14, _), (29, _)], [(7, _)]⟩) U ⟨U, U, U, U, U, U, U, trivial⟩ ⟨U, trivial⟩)
       apply Dag.new (i := 4)
       case ha | ho | hb => rfl
       case hE =>
        intro w9
        refine AWl.put (R_sub U (.no U) U (.tm U) (.const U) (fun _ => by omega)) U ?_
        exact AWl.nil (Le.sub0 (σ' := ⟨_, [(0, _), (4, _), (6, _), (12, _), (13, _), (14, _), (21, _), (25, _)], [(7, _)]⟩) U ⟨U, U, U, U, U, U, U, U, trivial⟩ ⟨U, trivial⟩)
       apply Dag.old (i := 0)
       case ha | ho | hb => rfl
       case hE =>
        intro w9
        refine AWl.mv U U U U U ?_
        exact AWl.nil (Le.sub0 U ⟨U, U, U, U, U, U, U, U, trivial⟩ ⟨U, trivial⟩)
       apply Dag.new (i := 5)
       case ha | ho | hb => rfl
       case hE =>
        intro w9
        refine AWl.mv U U U U U ?_
        exact AWl.nil (Le.sub0 (σ' := ⟨_, [(0, _), (4, _), (6, _), (12, _), (13, _), (14, _), (21, _), (24, _), (26, _)], [(7, _)]⟩) U ⟨U, U, U, U, U, U, U, U, U, trivial⟩ ⟨U, trivial⟩)
       apply Dag.old (i := 0)
       case ha | ho | hb => rfl
       case hE =>
        intro w9
        refine AWl.mv U U U U U ?_
        exact AWl.nil (Le.sub0 U ⟨U, U, U, U, U, U, U, U, U, trivial⟩ ⟨U, trivial⟩)
       apply Dag.old (i := 3)
       case ha | ho | hb => rfl
       case hE =>
        intro w9
        refine AWl.put (R_conv U (.no U) U (.tm U) (by rw [Tryz.underlying5]; rfl) Tryz.underlying3 (fun _ => (show IntKind.i64.wrap (a.toNat : Int) = (a.toNat : Int) by simp [IntKind.wrap, IntKind.bits]; omega))) U ?_
        exact AWl.nil (Le.sub0 U ⟨U, U, U, U, U, U, U, U, U, trivial⟩ ⟨U, trivial⟩)
       apply Dag.new (i := 6)
       case ha | ho | hb => rfl
       case hE =>
        intro w9
        refine AWl.put (R_strIndex U (.no U) U (.tm U) (.const U) Tryz.underlying9 (fun _ => ⟨by omega, (by rw [bs_get, hab]; rfl)⟩)) U ?_
        exact AWl.nil (Le.sub0 (σ' := ⟨_, [(0, _), (4, _), (6, _), (12, _), (13, _), (14, _), (21, _), (23, _), (27, _)], [(7, _)]⟩) U ⟨U, U, U, U, U, U, U, U, U, trivial⟩ ⟨U, trivial⟩)
       apply Dag.old (i := 0)
       case ha | ho | hb => rfl
       case hE =>
        intro w9
        refine AWl.mv U U U U U ?_
        exact AWl.nil (Le.sub0 U ⟨U, U, U, U, U, U, U, U, U, trivial⟩ ⟨U, trivial⟩)
       apply Dag.old (i := 2)
       case ha | ho | hb => rfl
       case hE =>
        intro w9
        refine AWl.put (R_strIndex U (.no U) U (.tm U) (.const U) Tryz.underlying9 (fun _ => ⟨by omega, (by rw [bs_get, hab]; rfl)⟩)) U ?_
        exact AWl.nil (Le.sub0 U ⟨U, U, U, U, U, U, U, U, U, trivial⟩ ⟨U, trivial⟩)
       apply Dag.new (i := 7)
       case ha | ho | hb => rfl
       case hE =>
        intro w9
        refine AWl.put (R_conv U (.no U) U (.tm U) (by rw [Tryz.underlying5]; rfl) Tryz.underlying3 (fun _ => (show IntKind.i64.wrap (b.toNat : Int) = (b.toNat : Int) by simp [IntKind.wrap, IntKind.bits]; omega))) U ?_
        exact AWl.nil (Le.sub0 (σ' := ⟨_, [(0, _), (4, _), (6, _), (12, _), (13, _), (14, _), (21, _), (22, _), (28, _)], [(7, _)]⟩) U ⟨U, U, U, U, U, U, U, U, U, trivial⟩ ⟨U, trivial⟩)
       apply Dag.old (i := 0)
       case ha | ho | hb => rfl
       case hE =>
        intro w9
        refine AWl.mv U U U U U ?_
        exact AWl.nil (Le.sub0 U ⟨U, U, U, U, U, U, U, U, U, trivial⟩ ⟨U, trivial⟩)
       apply Dag.old (i := 1)
       case ha | ho | hb => rfl
       case hE =>
        intro w9
        refine AWl.mv U U U U U ?_
        exact AWl.nil (Le.sub0 U ⟨U, U, U, U, U, U, U, U, U, trivial⟩ ⟨U, trivial⟩)
       apply Dag.new (i := 8)
       case ha | ho | hb => rfl
       case hE =>
        intro w9
        refine AWl.put (R_sub U (.no U) U (.tm U) (.const U) (fun _ => by omega)) U ?_
        exact AWl.nil (Le.sub0 (σ' := ⟨_, [(0, _), (4, _), (6, _), (12, _), (13, _), (14, _), (21, _), (29, _)], [(7, _)]⟩) U ⟨U, U, U, U, U, U, U, U, trivial⟩ ⟨U, trivial⟩)
       apply Dag.old (i := 0)
       case ha | ho | hb => rfl
       case hE =>
        intro w9
        refine AWl.mv U U U U U ?_
        exact AWl.nil (Le.sub0 U ⟨U, U, U, U, U, U, U, U, trivial⟩ ⟨U, trivial⟩)
       apply Dag.new (i := 5)
       case ha | ho | hb => rfl
       case hE =>
        intro w9
        refine AWl.mv U U U U U ?_
        exact AWl.nil (Le.sub0 (σ' := ⟨_, [(0, _), (4, _), (6, _), (12, _), (13, _), (14, _), (25, _), (26, _)], [(7, _)]⟩) U ⟨U, U, U, U, U, U, U, U, trivial⟩ ⟨U, trivial⟩)
       apply Dag.old (i := 4)
       case ha | ho | hb => rfl
       case hE =>
        intro w9
        refine AWl.put (R_sub U (.no U) U (.tm U) (.const U) (fun _ => by omega)) U ?_
        exact AWl.nil (Le.sub0 U ⟨U, U, U, U, U, U, U, U, trivial⟩ ⟨U, trivial⟩)
       apply Dag.new (i := 6)
       case ha | ho | hb => rfl
       case hE =>
        intro w9
        refine AWl.put (R_strIndex U (.no U) U (.tm U) (.const U) Tryz.underlying9 (fun _ => ⟨by omega, (by rw [bs_get, hab]; rfl)⟩)) U ?_
        exact AWl.nil (Le.sub0 (σ' := ⟨_, [(0, _), (4, _), (6, _), (12, _), (13, _), (14, _), (24, _), (27, _)], [(7, _)]⟩) U ⟨U, U, U, U, U, U, U, U, trivial⟩ ⟨U, trivial⟩)
       apply Dag.old (i := 3)
       case ha | ho | hb => rfl
       case hE =>
        intro w9
        refine AWl.put (R_conv U (.no U) U (.tm U) (by rw [Tryz.underlying5]; rfl) Tryz.underlying3 (fun _ => (show IntKind.i64.wrap (a.toNat : Int) = (a.toNat : Int) by simp [IntKind.wrap, IntKind.bits]; omega))) U ?_
        exact AWl.nil (Le.sub0 U ⟨U, U, U, U, U, U, U, U, trivial⟩ ⟨U, trivial⟩)
       apply Dag.new (i := 7)
       case ha | ho | hb => rfl
       case hE =>
        intro w9
        refine AWl.put (R_conv U (.no U) U (.tm U) (by rw [Tryz.underlying5]; rfl) Tryz.underlying3 (fun _ => (show IntKind.i64.wrap (b.toNat : Int) = (b.toNat : Int) by simp [IntKind.wrap, IntKind.bits]; omega))) U ?_
        exact AWl.nil (Le.sub0 (σ' := ⟨_, [(0, _), (4, _), (6, _), (12, _), (13, _), (14, _), (23, _), (28, _)], [(7, _)]⟩) U ⟨U, U, U, U, U, U, U, U, trivial⟩ ⟨U, trivial⟩)
       apply Dag.old (i := 2)
       case ha | ho | hb => rfl
       case hE =>
        intro w9
        refine AWl.put (R_strIndex U (.no U) U (.tm U) (.const U) Tryz.underlying9 (fun _ => ⟨by omega, (by rw [bs_get, hab]; rfl)⟩)) U ?_
        exact AWl.nil (Le.sub0 U ⟨U, U, U, U, U, U, U, U, trivial⟩ ⟨U, trivial⟩)
       apply Dag.new (i := 8)
       case ha | ho | hb => rfl
       case hE =>
        intro w9
        refine AWl.put (R_sub U (.no U) U (.tm U) (.const U) (fun _ => by omega)) U ?_
        exact AWl.nil (Le.sub0 (σ' := ⟨_, [(0, _), (4, _), (6, _), (12, _), (13, _), (14, _), (22, _), (29, _)], [(7, _)]⟩) U ⟨U, U, U, U, U, U, U, U, trivial⟩ ⟨U, trivial⟩)
       apply Dag.old (i := 1)
       case ha | ho | hb => rfl
       case hE =>
        intro w9
        refine AWl.mv U U U U U ?_
        exact AWl.nil (Le.sub0 U ⟨U, U, U, U, U, U, U, U, trivial⟩ ⟨U, trivial⟩)
       apply Dag.new (i := 5)
       case ha | ho | hb => rfl
       case hE =>
        intro w9
        refine AWl.mv U U U U U ?_
        exact AWl.nil (Le.sub0 (σ' := ⟨_, [(0, _), (4, _), (6, _), (12, _), (13, _), (14, _), (21, _), (25, _), (26, _)], [(7, _)]⟩) U ⟨U, U, U, U, U, U, U, U, U, trivial⟩ ⟨U, trivial⟩)
       apply Dag.old (i := 0)
       case ha | ho | hb => rfl
       case hE =>
        intro w9
        refine AWl.mv U U U U U ?_
        exact AWl.nil (Le.sub0 U ⟨U, U, U, U, U, U, U, U, U, trivial⟩ ⟨U, trivial⟩)
       apply Dag.old (i := 4)
       case ha | ho | hb => rfl
       case hE =>
        intro w9
        refine AWl.put (R_sub U (.no U) U (.tm U) (.const U) (fun _ => by omega)) U ?_
        exact AWl.nil (Le.sub0 U ⟨U, U, U, U, U, U, U, U, U, trivial⟩ ⟨U, trivial⟩)
       apply Dag.new (i := 6)
       case ha | ho | hb => rfl
       case hE =>
        intro w9
        refine AWl.put (R_strIndex U (.no U) U (.tm U) (.const U) Tryz.underlying9 (fun _ => ⟨by omega, (by rw [bs_get, hab]; rfl)⟩)) U ?_
        exact AWl.nil (Le.sub0 (σ' := ⟨_, [(0, _), (4, _), (6, _), (12, _), (13, _), (14, _), (21, _), (24, _), (27, _)], [(7, _)]⟩) U ⟨U, U, U, U, U, U, U, U, U, trivial⟩ ⟨U, trivial⟩)
       apply Dag.old (i := 0)
       case ha | ho | hb => rfl
       case hE =>
        intro w9
        refine AWl.mv U U U U U ?_
        exact AWl.nil (Le.sub0 U ⟨U, U, U, U, U, U, U, U, U, trivial⟩ ⟨U, trivial⟩)
       apply Dag.old (i := 3)
       case ha | ho | hb => rfl
       case hE =>
        intro w9
        refine AWl.put (R_conv U (.no U) U (.tm U) (by rw [Tryz.underlying5]; rfl) Tryz.underlying3 (fun _ => (show IntKind.i64.wrap (a.toNat : Int) = (a.toNat : Int) by simp [IntKind.wrap, IntKind.bits]; omega))) U ?_
        exact AWl.nil (Le.sub0 U ⟨U, U, U, U, U, U, U, U, U, trivial⟩ ⟨U, trivial⟩)
       apply Dag.new (i := 7)
       case ha | ho | hb => rfl
       case hE =>
        intro w9
        refine AWl.put (R_conv U (.no U) U (.tm U) (by rw [Tryz.underlying5]; rfl) Tryz.underlying3 (fun _ => (show IntKind.i64.wrap (b.toNat : Int) = (b.toNat : Int) by simp [IntKind.wrap, IntKind.bits]; omega))) U ?_
        exact AWl.nil (Le.sub0 (σ' := ⟨_, [(0, _), (4, _), (6, _), (12, _), (13, _), (14, _), (21, _), (23, _), (28, _)], [(7, _)]⟩) U ⟨U, U, U, U, U, U, U, U, U, trivial⟩ ⟨U, trivial⟩)
       apply Dag.old (i := 0)
       case ha | ho | hb => rfl
       case hE =>
        intro w9
        refine AWl.mv U U U U U ?_
        exact AWl.nil (Le.sub0 U ⟨U, U, U, U, U, U, U, U, U, trivial⟩ ⟨U, trivial⟩)
       apply Dag.old (i := 2)
       case ha | ho | hb => rfl
       case hE =>
        intro w9
        refine AWl.put (R_strIndex U (.no U) U (.tm U) (.const U) Tryz.underlying9 (fun _ => ⟨by omega, (by rw [bs_get, hab]; rfl)⟩)) U ?_
        exact AWl.nil (Le.sub0 U ⟨U, U, U, U, U, U, U, U, U, trivial⟩ ⟨U, trivial⟩)
       apply Dag.new (i := 8)
       case ha | ho | hb => rfl
       case hE =>
        intro w9
        refine AWl.put (R_sub U (.no U) U (.tm U) (.const U) (fun _ => by omega)) U ?_
        exact AWl.nil (Le.sub0 (σ' := ⟨_, [(0, _), (4, _), (6, _), (12, _), (13, _), (14, _), (21, _), (22, _), (29, _)], [(7, _)]⟩) U ⟨U, U, U, U, U, U, U, U, U, trivial⟩ ⟨U, trivial⟩)
       apply Dag.old (i := 0)
       case ha | ho | hb => rfl
       case hE =>
        intro w9
        refine AWl.mv U U U U U ?_
        exact AWl.nil (Le.sub0 U ⟨U, U, U, U, U, U, U, U, U, trivial⟩ ⟨U, trivial⟩)
       apply Dag.old (i := 1)
       case ha | ho | hb => rfl
       case hE =>
        intro w9
        refine AWl.mv U U U U U ?_
        exact AWl.nil (Le.sub0 U ⟨U, U, U, U, U, U, U, U, U, trivial⟩ ⟨U, trivial⟩)
       apply Dag.new (i := 6)
       case ha | ho | hb => rfl
       case hE =>
        intro w9
        refine AWl.put (R_strIndex U (.no U) U (.tm U) (.const U) Tryz.underlying9 (fun _ => ⟨by omega, (by rw [bs_get, hab]; rfl)⟩)) U ?_
        exact AWl.nil (Le.sub0 (σ' := ⟨_, [(0, _), (4, _), (6, _), (12, _), (13, _), (14, _), (25, _), (27, _)], [(7, _)]⟩) U ⟨U, U, U, U, U, U, U, U, trivial⟩ ⟨U, trivial⟩)
       apply Dag.old (i := 4)
       case ha | ho | hb => rfl
       case hE =>
        intro w9
        refine AWl.put (R_sub U (.no U) U (.tm U) (.const U) (fun _ => by omega)) U ?_
        exact AWl.nil (Le.sub0 U ⟨U, U, U, U, U, U, U, U, trivial⟩ ⟨U, trivial⟩)
       apply Dag.new (i := 7)
       case ha | ho | hb => rfl
       case hE =>
        intro w9
        refine AWl.put (R_conv U (.no U) U (.tm U) (by rw [Tryz.underlying5]; rfl) Tryz.underlying3 (fun _ => (show IntKind.i64.wrap (b.toNat : Int) = (b.toNat : Int) by simp [IntKind.wrap, IntKind.bits]; omega))) U ?_
        exact AWl.nil (Le.sub0 (σ' := ⟨_, [(0, _), (4, _), (6, _), (12, _), (13, _), (14, _), (24, _), (28, _)], [(7, _)]⟩) U ⟨U, U, U, U, U, U, U, U, trivial⟩ ⟨U, trivial⟩)
       apply Dag.old (i := 3)
       case ha | ho | hb => rfl
       case hE =>
        intro w9
        refine AWl.put (R_conv U (.no U) U (.tm U) (by rw [Tryz.underlying5]; rfl) Tryz.underlying3 (fun _ => (show IntKind.i64.wrap (a.toNat : Int) = (a.toNat : Int) by simp [IntKind.wrap, IntKind.bits]; omega))) U ?_
        exact AWl.nil (Le.sub0 U ⟨U, U, U, U, U, U, U, U, trivial⟩ ⟨U, trivial⟩)
       apply Dag.new (i := 8)
       case ha | ho | hb => rfl
       case hE =>
        intro w9
        refine AWl.put (R_sub U (.no U) U (.tm U) (.const U) (fun _ => by omega)) U ?_
        exact AWl.nil (Le.sub0 (σ' := ⟨_, [(0, _), (4, _), (6, _), (12, _), (13, _), (14, _), (23, _), (29, _)], [(7, _)]⟩) U ⟨U, U, U, U, U, U, U, U, trivial⟩ ⟨U, trivial⟩)
       apply Dag.old (i := 2)
       case ha | ho | hb => rfl
       case hE =>
        intro w9
        refine AWl.put (R_strIndex U (.no U) U (.tm U) (.const U) Tryz.underlying9 (fun _ => ⟨by omega, (by rw [bs_get, hab]; rfl)⟩)) U ?_
        exact AWl.nil (Le.sub0 U ⟨U, U, U, U, U, U, U, U, trivial⟩ ⟨U, trivial⟩)
       apply Dag.new (i := 6)
       case ha | ho | hb => rfl
       case hE =>
        intro w9
        refine AWl.put (R_strIndex U (.no U) U (.tm U) (.const U) Tryz.underlying9 (fun _ => ⟨by omega, (by rw [bs_get, hab]; rfl)⟩)) U ?_
        exact AWl.nil (Le.sub0 (σ' := ⟨_, [(0, _), (4, _), (6, _), (12, _), (13, _), (14, _), (21, _), (25, _), (27, _)], [(7, _)]⟩) U ⟨U, U, U, U, U, U, U, U, U, trivial⟩ ⟨U, trivial⟩)
       apply Dag.old (i := 0)
       case ha | ho | hb => rfl
       case hE =>
        intro w9
        refine AWl.mv U U U U U ?_
        exact AWl.nil (Le.sub0 U ⟨U, U, U, U, U, U, U, U, U, trivial⟩ ⟨U, trivial⟩)
       apply Dag.old (i := 4)
       case ha | ho | hb => rfl
       case hE =>
        intro w9
        refine AWl.put (R_sub U (.no U) U (.tm U) (.const U) (fun _ => by omega)) U ?_
        exact AWl.nil (Le.sub0 U ⟨U, U, U, U, U, U, U, U, U, trivial⟩ ⟨U, trivial⟩)
       apply Dag.new (i := 7)
       case ha | ho | hb => rfl
       case hE =>
        intro w9
        refine AWl.put (R_conv U (.no U) U (.tm U) (by rw [Tryz.underlying5]; rfl) Tryz.underlying3 (fun _ => (show IntKind.i64.wrap (b.toNat : Int) = (b.toNat : Int) by simp [IntKind.wrap, IntKind.bits]; omega))) U ?_
        exact AWl.nil (Le.sub0 (σ' := ⟨_, [(0, _), (4, _), (6, _), (12, _), (13, _), (14, _), (21, _), (24, _), (28, _)], [(7, _)]⟩) U ⟨U, U, U, U, U, U, U, U, U, trivial⟩ ⟨U, trivial⟩)
       apply Dag.old (i := 0)
       case ha | ho | hb => rfl
       case hE =>
        intro w9
        refine AWl.mv U U U U U ?_
        exact AWl.nil (Le.sub0 U ⟨U, U, U, U, U, U, U, U, U, trivial⟩ ⟨U, trivial⟩)
       apply Dag.old (i := 3)
       case ha | ho | hb => rfl
       case hE =>
        intro w9
        refine AWl.put (R_conv U (.no U) U (.tm U) (by rw [Tryz.underlying5]; rfl) Tryz.underlying3 (fun _ => (show IntKind.i64.wrap (a.toNat : Int) = (a.toNat : Int) by simp [IntKind.wrap, IntKind.bits]; omega))) U ?_
        exact AWl.nil (Le.sub0 U ⟨U, U, U, U, U, U, U, U, U, trivial⟩ ⟨U, trivial⟩)
       apply Dag.new (i := 8)
       case ha | ho | hb => rfl
       case hE =>
        intro w9
        refine AWl.put (R_sub U (.no U) U (.tm U) (.const U) (fun _ => by omega)) U ?_
        exact AWl.nil (Le.sub0 (σ' := ⟨_, [(0, _), (4, _), (6, _), (12, _), (13, _), (14, _), (21, _), (23, _), (29, _)], [(7, _)]⟩) U ⟨U, U, U, U, U, U, U, U, U, trivial⟩ ⟨U, trivial⟩)
       apply Dag.old (i := 0)
       case ha | ho | hb => rfl
       case hE =>
        intro w9
        refine AWl.mv U U U U U ?_
        exact AWl.nil (Le.sub0 U ⟨U, U, U, U, U, U, U, U, U, trivial⟩ ⟨U, trivial⟩)
       apply Dag.old (i := 2)
       case ha | ho | hb => rfl
       case hE =>
        intro w9
        refine AWl.put (R_strIndex U (.no U) U (.tm U) (.const U) Tryz.underlying9 (fun _ => ⟨by omega, (by rw [bs_get, hab]; rfl)⟩)) U ?_
        exact AWl.nil (Le.sub0 U ⟨U, U, U, U, U, U, U, U, U, trivial⟩ ⟨U, trivial⟩)
       apply Dag.new (i := 7)
       case ha | ho | hb => rfl
       case hE =>
        intro w9
        refine AWl.put (R_conv U (.no U) U (.tm U) (by rw [Tryz.underlying5]; rfl) Tryz.underlying3 (fun _ => (show IntKind.i64.wrap (b.toNat : Int) = (b.toNat : Int) by simp [IntKind.wrap, IntKind.bits]; omega))) U ?_
        exact AWl.nil (Le.sub0 (σ' := ⟨_, [(0, _), (4, _), (6, _), (12, _), (13, _), (14, _), (25, _), (28, _)], [(7, _)]⟩) U ⟨U, U, U, U, U, U, U, U, trivial⟩ ⟨U, trivial⟩)
       apply Dag.old (i := 4)
       case ha | ho | hb => rfl
       case hE =>
        intro w9
        refine AWl.put (R_sub U (.no U) U (.tm U) (.const U) (fun _ => by omega)) U ?_
        exact AWl.nil (Le.sub0 U ⟨U, U, U, U, U, U, U, U, trivial⟩ ⟨U, trivial⟩)
       apply Dag.new (i := 8)
       case ha | ho | hb => rfl
       case hE =>
        intro w9
        refine AWl.put (R_sub U (.no U) U (.tm U) (.const U) (fun _ => by omega)) U ?_
        exact AWl.nil (Le.sub0 (σ' := ⟨_, [(0, _), (4, _), (6, _), (12, _), (13, _), (14, _), (24, _), (29, _)], [(7, _)]⟩) U ⟨U, U, U, U, U, U, U, U, trivial⟩ ⟨U, trivial⟩)
       apply Dag.old (i := 3)
       case ha | ho | hb => rfl
       case hE =>
        intro w9
        refine AWl.put (R_conv U (.no U) U (.tm U) (by rw [Tryz.underlying5]; rfl) Tryz.underlying3 (fun _ => (show IntKind.i64.wrap (a.toNat : Int) = (a.toNat : Int) by simp [IntKind.wrap, IntKind.bits]; omega))) U ?_
        exact AWl.nil (Le.sub0 U ⟨U, U, U, U, U, U, U, U, trivial⟩ ⟨U, trivial⟩)
       apply Dag.new (i := 7)
       case ha | ho | hb => rfl
       case hE =>
        intro w9
        refine AWl.put (R_conv U (.no U) U (.tm U) (by rw [Tryz.underlying5]; rfl) Tryz.underlying3 (fun _ => (show IntKind.i64.wrap (b.toNat : Int) = (b.toNat : Int) by simp [IntKind.wrap, IntKind.bits]; omega))) U ?_
        exact AWl.nil (Le.sub0 (σ' := ⟨_, [(0, _), (4, _), (6, _), (12, _), (13, _), (14, _), (21, _), (25, _), (28, _)], [(7, _)]⟩) U ⟨U, U, U, U, U, U, U, U, U, trivial⟩ ⟨U, trivial⟩)
       apply Dag.old (i := 0)
       case ha | ho | hb => rfl
       case hE =>
        intro w9
        refine AWl.mv U U U U U ?_
        exact AWl.nil (Le.sub0 U ⟨U, U, U, U, U, U, U, U, U, trivial⟩ ⟨U, trivial⟩)
       apply Dag.old (i := 4)
       case ha | ho | hb => rfl
       case hE =>
        intro w9
        refine AWl.put (R_sub U (.no U) U (.tm U) (.const U) (fun _ => by omega)) U ?_
        exact AWl.nil (Le.sub0 U ⟨U, U, U, U, U, U, U, U, U, trivial⟩ ⟨U, trivial⟩)
       apply Dag.new (i := 8)
       case ha | ho | hb => rfl
       case hE =>
        intro w9
        refine AWl.put (R_sub U (.no U) U (.tm U) (.const U) (fun _ => by omega)) U ?_
        exact AWl.nil (Le.sub0 (σ' := ⟨_, [(0, _), (4, _), (6, _), (12, _), (13, _), (14, _), (21, _), (24, _), (29, _)], [(7, _)]⟩) U ⟨U, U, U, U, U, U, U, U, U, trivial⟩ ⟨U, trivial⟩)
       apply Dag.old (i := 0)
       case ha | ho | hb => rfl
       case hE =>
        intro w9
        refine AWl.mv U U U U U ?_
        exact AWl.nil (Le.sub0 U ⟨U, U, U, U, U, U, U, U, U, trivial⟩ ⟨U, trivial⟩)
       apply Dag.old (i := 3)
       case ha | ho | hb => rfl
       case hE =>
        intro w9
        refine AWl.put (R_conv U (.no U) U (.tm U) (by rw [Tryz.underlying5]; rfl) Tryz.underlying3 (fun _ => (show IntKind.i64.wrap (a.toNat : Int) = (a.toNat : Int) by simp [IntKind.wrap, IntKind.bits]; omega))) U ?_
        exact AWl.nil (Le.sub0 U ⟨U, U, U, U, U, U, U, U, U, trivial⟩ ⟨U, trivial⟩)
       apply Dag.new (i := 8)
       case ha | ho | hb => rfl
       case hE =>
        intro w9
        refine AWl.put (R_sub U (.no U) U (.tm U) (.const U) (fun _ => by omega)) U ?_
        exact AWl.nil (Le.sub0 (σ' := ⟨_, [(0, _), (4, _), (6, _), (12, _), (13, _), (14, _), (25, _), (29, _)], [(7, _)]⟩) U ⟨U, U, U, U, U, U, U, U, trivial⟩ ⟨U, trivial⟩)
       apply Dag.old (i := 4)
       case ha | ho | hb => rfl
       case hE =>
        intro w9
        refine AWl.put (R_sub U (.no U) U (.tm U) (.const U) (fun _ => by omega)) U ?_
        exact AWl.nil (Le.sub0 U ⟨U, U, U, U, U, U, U, U, trivial⟩ ⟨U, trivial⟩)
       apply Dag.new (i := 8)
       case ha | ho | hb => rfl
       case hE =>
        intro w9
        refine AWl.put (R_sub U (.no U) U (.tm U) (.const U) (fun _ => by omega)) U ?_
        exact AWl.nil (Le.sub0 (σ' := ⟨_, [(0, _), (4, _), (6, _), (12, _), (13, _), (14, _), (21, _), (25, _), (29, _)], [(7, _)]⟩) U ⟨U, U, U, U, U, U, U, U, U, trivial⟩ ⟨U, trivial⟩)
       apply Dag.old (i := 0)
       case ha | ho | hb => rfl
       case hE =>
        intro w9
        refine AWl.mv U U U U U ?_
        exact AWl.nil (Le.sub0 U ⟨U, U, U, U, U, U, U, U, U, trivial⟩ ⟨U, trivial⟩)
       apply Dag.old (i := 4)
       case ha | ho | hb => rfl
       case hE =>
        intro w9
        refine AWl.put (R_sub U (.no U) U (.tm U) (.const U) (fun _ => by omega)) U ?_
        exact AWl.nil (Le.sub0 U ⟨U, U, U, U, U, U, U, U, U, trivial⟩ ⟨U, trivial⟩)
       apply Dag.new (i := 9)
       case ha | ho | hb => rfl
       case hE =>
        intro w9
        refine AWl.put (R_build (ps := [(0, .tmp 25), (1, .tmp 29)]) U U U in68 U U st68 (.cons (.tm U) U U fp68_0 (.cons (.tm U) U U fp68_1 .nil)) U) U ?_
        exact AWl.nil (Le.sub0 (σ' := ⟨_, [(0, _), (4, _), (6, _), (12, _), (13, _), (14, _), (30, _)], [(7, _)]⟩) U ⟨U, U, U, U, U, U, U, trivial⟩ ⟨U, trivial⟩)
       apply Dag.new (i := 9)
       case ha | ho | hb => rfl
       case hE =>
        intro w9
        refine AWl.put (R_build (ps := [(0, .tmp 25), (1, .tmp 29)]) U U U in68 U U st68 (.cons (.tm U) U U fp68_0 (.cons (.tm U) U U fp68_1 .nil)) U) U ?_
        exact AWl.nil (Le.sub0 (σ' := ⟨_, [(0, _), (4, _), (6, _), (12, _), (13, _), (14, _), (21, _), (30, _)], [(7, _)]⟩) U ⟨U, U, U, U, U, U, U, U, trivial⟩ ⟨U, trivial⟩)
       apply Dag.old (i := 0)
       case ha | ho | hb => rfl
       case hE =>
        intro w9
        refine AWl.mv U U U U U ?_
        exact AWl.nil (Le.sub0 U ⟨U, U, U, U, U, U, U, U, trivial⟩ ⟨U, trivial⟩)
       apply Dag.new (i := 10)
       case ha | ho | hb => rfl
       case hE =>
        intro w9
        refine AWl.absadd (R_list (xs := [.tmp 30]) 31 U U U (.cons (.tm U) U U .nil) Tryz.underlying24 in68 U U U U) U ?_
        exact AWl.nil (Le.sub0 (σ' := ⟨_, [(0, _), (4, _), (6, _), (12, _), (13, _), (14, _), (31, _)], [(7, _), (31, _)]⟩) U ⟨U, U, U, U, U, U, U, trivial⟩ ⟨U, U, trivial⟩)
       apply Dag.new (i := 10)
       case ha | ho | hb => rfl
       case hE =>
        intro w9
        refine AWl.absadd (R_list (xs := [.tmp 30]) 31 U U U (.cons (.tm U) U U .nil) Tryz.underlying24 in68 U U U U) U ?_
        exact AWl.nil (Le.sub0 (σ' := ⟨_, [(0, _), (4, _), (6, _), (12, _), (13, _), (14, _), (21, _), (31, _)], [(7, _), (31, _)]⟩) U ⟨U, U, U, U, U, U, U, U, trivial⟩ ⟨U, U, trivial⟩)
       apply Dag.old (i := 0)
       case ha | ho | hb => rfl
       case hE =>
        intro w9
        refine AWl.mv U U U U U ?_
        exact AWl.nil (Le.sub0 U ⟨U, U, U, U, U, U, U, U, trivial⟩ ⟨U, U, trivial⟩)
       apply Dag.new (i := 11)
       case ha | ho | hb => rfl
       case hE =>
        intro w9
        refine AWl.chgput (R_append U U U (.tm U) U (.tm U) (by first | exact .t | exact .rf U | exact .vw | exact .nil) (by first | rfl | exact isV_map (fun _ => rfl) _ | exact isV_part (fun _ => rfl) _ _ _) Tryz.underlying24 in68 U (by first | omega | (simp [chunk]; omega) | (simp only [List.length_map, List.length_append, List.length_cons, List.length_nil, chunk]; omega)) (by first | omega | (unfold maxLen; omega) | (unfold maxLen; simp [chunk]; omega) | (unfold maxLen; simp only [List.length_map, List.length_append, List.length_cons, List.length_nil, chunk]; omega))) U ?_
        exact AWl.nil (Le.sub0 (σ' := ⟨_, [(0, _), (4, _), (6, _), (12, _), (13, _), (14, _), (32, _)], [(7, _), (31, _)]⟩) U ⟨U, U, U, U, U, U, U, trivial⟩ ⟨U, U, trivial⟩)
       apply Dag.new (i := 12)
       case ha | ho | hb => rfl
       case hE =>
        intro w9
        refine AWl.av U U U U U ?_
        exact AWl.nil (Le.sub0 (σ' := ⟨_, [(0, _), (4, _), (6, _), (12, _), (13, _), (14, _)], [(7, _), (31, _)]⟩) U ⟨U, U, U, U, U, U, trivial⟩ ⟨U, U, trivial⟩)
       refine Dag.fin (k := 55) U ?_
       refine AWl.nil (AW.region ?_)
       refine AWl.put (R_add U (.no U) U (.tm U) (.const U) (fun _ => by omega)) U ?_
       refine AWl.mv U U U U U ?_
       refine AWl.nil ?_
       repeat (with_reducible refine BlockQ.nor ?_)
       refine Round1.next (k + 1) ⟨⟨by omega, all2_more hk.2 hx h2⟩, trivial⟩ (by omega) (Le.sub0 rfl ⟨rfl, rfl, rfl, rfl, rfl, trivial⟩ ⟨(by refine congrArg (fun r => some (R.row 2 r)) ?_; rw [take_at hx, hab]; simp [chunk, cPair, toP]; done), trivial⟩)
   · skip
     try simp at h15
     refine AW.exit ?_
     refine AW.seq ?_
     refine AW.seq ?_
     refine AW.le (σ' := ⟨_, [(0, _), (4, _), (12, _), (13, _), (14, _)], [(7, .row 2 (((splitL 32 l).map toP).map cPair))]⟩) (Le.sub0 U ⟨U, U, U, U, U, trivial⟩ ⟨by rw [List.take_of_length_le (l := splitL 32 l) (by omega)]; rfl, trivial⟩) ?_
     refine AW.region ?_
     refine AWl.mv U U U U U ?_
     refine AWl.put (R_callz (FnT.fr (implFormatPairs ((splitL 32 l).map toP) (by rw [List.length_map]; omega))) U (.no U) U (.cons (.tm U) U .nil)) U ?_
     refine AWl.mv U U U U U ?_
     refine AWl.put (R_nestr U (.no U) U (.tm U) (.tm U)) U ?_
     refine AWl.nil ?_
     refine AW.cond (.tm U) (fun h37 => ?_) (fun h37 => ?_)
     · skip
       try simp at h37
       refine AW.sr ?_
       refine AWl.ac U U U U U ?_
       refine AWl.nilS (i := 2) 20003 2 U U ?_
       refine AWl.ac U U U U U ?_
       refine AWl.nil (AW.ret ?_)
       refine Res.many U (.tmp U (.tmp U .nil)) U ?_ (by simp)
       have hall := all2_all hk.2 (by omega); cases hap : arePairs ((splitL 32 l).map toP) with | true => exact absurd (congrArg bs (read_back hall hap)) (by simpa using h37) | false => rw [parseP_nap hne hap]; rfl
     · skip
       try simp at h37
       refine AW.skip ?_
       refine AW.sr ?_
       refine AWl.mv U U U U U ?_
       refine AWl.av U U U U U ?_
       refine AWl.ac U U U U U ?_
       refine AWl.nil (AW.ret ?_)
       refine Res.many U (.tmp U (.tmp U .nil)) U ?_ (by simp)
       have hall := all2_all hk.2 (by omega); cases hap : arePairs ((splitL 32 l).map toP) with | true => rw [parseP_yes hne hall hap]; rfl | false => exact absurd (bs_inj (by simpa using h37)) (read_not hall hap)
end Go.Proofs.YtbkhopfpejhnlaaGreatDoor
