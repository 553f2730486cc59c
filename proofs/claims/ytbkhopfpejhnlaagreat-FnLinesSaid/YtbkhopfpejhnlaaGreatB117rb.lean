import Derived.Test.YtbkhopfpejhnlaaGreatB31rb
set_option linter.unusedVariables false
set_option linter.unusedSimpArgs false
set_option maxHeartbeats 1000000
set_option maxRecDepth 100000
namespace Go.Q
open Go.RowKit Go.D
def gridTo (n : Nat) (b : Bool) (k : Nat) : List (List Bool) := (List.range k).map fun x => (List.range n).map (diagR b x)
theorem gridTo_succ (n : Nat) (b : Bool) (k : Nat) : gridTo n b (k + 1) = gridTo n b k ++ [(List.range n).map (diagR b k)] := by
 unfold gridTo
 rw [List.range_succ, List.map_append]; rfl
theorem gridTo_len (n : Nat) (b : Bool) (k : Nat) : (gridTo n b k).length = k := by simp [gridTo]
def eO (f g : GR) (i j : Nat) : GR := fun x y => if x < i ∨ (x = i ∧ y < j) then decide (x ≤ y) && (f x y || g x y) else false
theorem eO_zero (f g : GR) : diagR false = eO f g 0 0 := by funext x y; simp [diagR, eO]
theorem eO_start (f g : GR) (i : Nat) : eO f g i 0 = eO f g i i := by
 funext x y
 unfold eO
 by_cases h1 : x < i
 · simp [h1]
 · by_cases h2 : x = i
   · subst h2
     by_cases h3 : y < x
     · simp [h3, show ¬ x ≤ y by omega]
     · simp [h3]
   · simp [h1, h2]
theorem eO_step (f g : GR) {i j : Nat} (h : i ≤ j) : setF (eO f g i j) i j (f i j || g i j) = eO f g i (j + 1) := by
 funext x y
 unfold setF eO
 by_cases h1 : x = i <;> by_cases h2 : y = j
 · subst h1; subst h2; simp [h]
 · subst h1
   simp only [h2, and_false, if_false]
   by_cases h3 : y < j
   · simp [h3, show y < j + 1 by omega]
   · simp [h3, show ¬ y < j + 1 by omega]
 · simp [h1]
 · simp [h1]
theorem eO_next {n : Nat} (f g : GR) (i : Nat) : gridF n (eO f g i n) = gridF n (eO f g (i + 1) 0) := gridF_ext fun x y _ hy => by
 unfold eO
 by_cases h1 : x < i
 · simp [h1, show x < i + 1 by omega]
 · by_cases h2 : x = i
   · subst h2; simp [hy]
   · simp [h1, h2, show ¬ x < i + 1 by omega]
theorem eO_end {n : Nat} {f g : GR} (hf : upR f) (hg : upR g) : gridF n (eO f g n 0) = gridF n (orR f g) := gridF_ext fun x y hx _ => by
 unfold eO orR
 rw [if_pos (.inl hx)]
 cases h : (f x y || g x y) with
 | false => simp
 | true =>
  rcases Bool.or_eq_true _ _ ▸ h with h | h
  · simp [hf x y h]
  · simp [hg x y h]
def jn (f g : GR) (i k y : Nat) : Bool := (List.range k).any fun z => decide (i ≤ z) && decide (z ≤ y) && (f i z && g z y)
theorem jn_succ (f g : GR) (i k y : Nat) : jn f g i (k + 1) y = (jn f g i k y || (decide (i ≤ k) && decide (k ≤ y) && (f i k && g k y))) := by simp [jn, List.range_succ]
theorem jn_none (f g : GR) {i k : Nat} (h : k ≤ i) (y : Nat) : jn f g i k y = false := by
 unfold jn
 rw [List.any_eq_false]
 intro z hz
 have := List.mem_range.1 hz
 simp [show ¬ i ≤ z by omega]
def tO (f g : GR) (n i k j : Nat) : GR := fun x y => if x < i then jn f g x n y else if x = i then jn f g i k y || (decide (k ≤ y) && decide (y < j) && (f i k && g k y)) else false
theorem tO_zero (f g : GR) (n : Nat) : diagR false = tO f g n 0 0 0 := by
 funext x y
 unfold diagR tO jn
 simp
theorem tO_start (f g : GR) (n i : Nat) : tO f g n i 0 0 = tO f g n i i i := by
 funext x y
 unfold tO
 by_cases h1 : x < i
 · simp [h1]
 · by_cases h2 : x = i
   · subst h2
     simp only [h1, if_false, if_true]
     rw [jn_none f g (Nat.zero_le x) y, jn_none f g (Nat.le_refl x) y]
     by_cases h3 : x ≤ y
     · simp [h3, show ¬ y < x by omega]
     · simp [h3]
   · simp [h1, h2]
theorem tO_step {f g : GR} {n i k j : Nat} (hf : f i k = true) (hk : k ≤ j) : setF (tO f g n i k j) i j (tO f g n i k j i j || g k j) = tO f g n i k (j + 1) := by
 funext x y
 unfold setF tO
 by_cases h1 : x = i <;> by_cases h2 : y = j
 · subst h1; subst h2; simp [hf, hk]
 · subst h1
   simp only [h2, and_false, if_false]
   by_cases h3 : y < j
   · simp [h3, show y < j + 1 by omega]
   · simp [h3, show ¬ y < j + 1 by omega]
 · simp [h1]
 · simp [h1]
theorem tO_nextk {n : Nat} {f g : GR} {i k j : Nat} (hi : i ≤ k) (h : j = n ∨ f i k = false) : gridF n (tO f g n i k j) = gridF n (tO f g n i (k + 1) (k + 1)) := gridF_ext fun x y _ hy => by
 unfold tO
 rw [jn_succ]
 by_cases h1 : x < i
 · simp [h1]
 · by_cases h2 : x = i
   · subst h2
     simp only [h1, if_false, if_true]
     have e : (decide (k + 1 ≤ y) && decide (y < k + 1) && (f x (k + 1) && g (k + 1) y)) = false := by
      by_cases h3 : k + 1 ≤ y
      · simp [show ¬ y < k + 1 by omega]
      · simp [h3]
     rw [e, Bool.or_false]
     congr 1
     rcases h with h | h
     · subst h; simp [hy, hi]
     · simp [h]
   · simp [h1, h2]
theorem tO_nexti {n : Nat} (f g : GR) (i : Nat) : gridF n (tO f g n i n n) = gridF n (tO f g n (i + 1) 0 0) := gridF_ext fun x y _ hy => by
 unfold tO
 by_cases h1 : x < i
 · simp [h1, show x < i + 1 by omega]
 · by_cases h2 : x = i
   · subst h2
     simp [show ¬ n ≤ y by omega]
   · simp only [h1, h2, show ¬ x < i + 1 by omega, if_false]
     by_cases h3 : x = i + 1
     · subst h3
       rw [if_pos rfl, jn_none f g (Nat.zero_le _) y]
       simp
     · rw [if_neg h3]
theorem tO_end {n : Nat} {f g : GR} (hf : upR f) (hg : upR g) : gridF n (tO f g n n 0 0) = gridF n (thenR n f g) := gridF_ext fun x y hx _ => by
 unfold tO
 rw [if_pos hx]
 unfold jn thenR
 congr 1
 funext z
 cases h : (f x z && g z y) with
 | false => simp
 | true =>
  have h := Bool.and_eq_true _ _ ▸ h
  simp [hf x z h.1, hg z y h.2]
end Go.Q
namespace Go.Proofs.YtbkhopfpejhnlaaGreat
open Go.RowKit Go.Q Go.D
theorem specl9Grid (m : Int) (n : Nat) (b : Bool) (R : GR) (hm : m = n) (hR : diagR b = R) (hn : n ≤ 4096) : FnT Tryz.prog 87 [.one (.v (.int .i64 m)), .one (.v (.bool b))] (.a (.one (.sl 1 ((gridF n R).map cBoolS)))) := by
 subst hm
 subst hR
 refine FnT.walk Tryz.func87 U (by kernel_rfl) Tryz.ntmps87 U fun hlen w0 => ?_
 try simp [cPair, cToken, cExpr, cEdge, cGraph, cStep, cWalk, cChange, cBatch, cHistory, cPositions, cAutomaton, cProductStep, cPathAtom, cConjunction, cView, cDelta, cRegistered, cRegistry] at hlen
 refine AW.sr ?_
 refine AWl.ac U U U U U ?_
 refine AWl.nilS (i := 4) 20001 1 U U ?_
 refine AWl.nil (AW.sr ?_)
 refine AWl.add (R_empty 8 U U U Tryz.underlying109 ty71 U) U ?_
 refine AWl.av U U U U U ?_
 refine AWl.nil (AW.seq ?_)
 refine AW.sr ?_
 refine AWl.ac U U U U U ?_
 refine AWl.nil (AW.block ?_)
 refine AW.loop1 (fun (k : Nat) => (k ≤ n) ∧ True) (fun (k : Nat) => ⟨_, [(6, (true, .a (.one (.t (.v (.int .i64 (k : Nat))))))), (5, (true, .a (.one (.rf 8)))), (0, _), (1, _), (4, _)], [(8, .row 1 ((gridTo n b k).map cBoolS))]⟩) (fun (k : Nat) => n - k) (0) ⟨Nat.zero_le _, trivial⟩ (Le.sub0 U ⟨U, U, U, U, U, trivial⟩ ⟨U, trivial⟩) ?_
 rintro k ⟨hk, he⟩
 refine AW.seq ?_
 refine AW.sr ?_
 refine AWl.mv U U U U U ?_
 refine AWl.mv U U U U U ?_
 refine AWl.put (R_lt U (.no U) U (.tm U) (.tm U)) U ?_
 refine AWl.nil ?_
 refine AW.cond (.tm U) (fun h11 => ?_) (fun h11 => ?_)
 · skip
   try simp at h11
   have hkn : k < n := (by omega)
   have hgl := gridTo_len n b k
   refine AW.skip ?_
   refine AW.seq ?_
   refine AW.block ?_
   refine AW.sr ?_
   refine AWl.mv U U U U U ?_
   refine AWl.add (R_makeSlice 15 U U U (.tm U) Tryz.underlying71 in4 U U U U (by omega)) U ?_
   refine AWl.av U U U U U ?_
   refine AWl.nil (AW.sr ?_)
   refine AWl.mv U U U U U ?_
   refine AWl.mv U U U U U ?_
   refine AWl.mv U U U U U ?_
   refine AWl.put (by exact R_indexAddr_rf U (.no U) U (.tm U) U (.tm U) Tryz.underlying71 ty4 (fun _ => ⟨by omega, List.getElem?_replicate_of_lt (by simpa using hkn)⟩)) U ?_
   refine AWl.absupd (R_store_pr U U U (.tm U) U (.tm U) U (List.getElem?_replicate_of_lt (by simpa using hkn)) ty4 U U U U) ?_
   refine AWl.nil ?_
   refine AW.le (σ' := ⟨_, [(0, _), (1, _), (4, _), (5, _), (6, _), (7, _)], [(8, _), (15, _)]⟩) (Le.sub0 U ⟨U, U, U, U, U, U, trivial⟩ ⟨U, U, trivial⟩) ?_
   refine AW.region ?_
   refine AWl.mv U U U U U ?_
   refine AWl.mv U U U U U ?_
   refine AWl.absadd (R_list (xs := [.tmp 21]) 22 U U U (.cons (.tm U) U U .nil) Tryz.underlying109 in71 U U U U) U ?_
   refine AWl.abschgput (R_append_own U U U (.tm U) U (.tm U) U U Tryz.underlying109 in71 U (by (simp [chunk]; omega)) (by (unfold maxLen; simp [chunk]; omega))) U ?_
   refine AWl.le (σ' := ⟨_, [(0, _), (1, _), (4, _), (5, _), (6, _), (7, _), (23, _)], [(8, _)]⟩) (Le.sub0 U ⟨U, U, U, U, U, U, U, trivial⟩ ⟨U, trivial⟩) ?_
   refine AWl.av U U U U U ?_
   refine AWl.nil (AW.region ?_)
   refine AWl.mv U U U U U ?_
   refine AWl.put (R_add U (.no U) U (.tm U) (.const U) (fun _ => by omega)) U ?_
   refine AWl.av U U U U U ?_
   refine AWl.nil ?_
   repeat (with_reducible refine BlockQ.nor ?_)
   refine Round1.next (k + 1) ⟨by omega, trivial⟩ (by omega) (Le.sub0 rfl ⟨rfl, rfl, rfl, rfl, rfl, trivial⟩ ⟨(by refine congrArg (fun r => some (R.row 1 r)) ?_; rw [gridTo_succ, List.map_append, show [(List.range n).map (diagR b k)].map cBoolS = [[T.sl 1 ((List.replicate n (cBool false)).set k (cBool b))]] from by (rw [diag_row hkn]; rfl)]; simp [chunk]; rfl), trivial⟩)
 · skip
   try simp at h11
   refine AW.exit ?_
   refine AW.sr ?_
   refine AWl.mv U U U U U ?_
   refine AWl.av U U U U U ?_
   refine AWl.nil (AW.ret ?_)
   refine Res.one U (.tmp U .nil) U ?_
   rw [show k = n by first | omega | (simp at h11; omega)]; rfl
theorem specl9Either (n : Nat) (f g : GR) (hf : upR f) (hg : upR g) (hn : n ≤ 4096) : FnT Tryz.prog 89 [.one (.sl 1 ((gridF n f).map cBoolS)), .one (.sl 1 ((gridF n g).map cBoolS))] (.a (.one (.sl 1 ((gridF n (orR f g)).map cBoolS)))) := by
 refine FnT.walk Tryz.func89 U (by kernel_rfl) Tryz.ntmps89 U fun hlen w0 => ?_
 try simp [cPair, cToken, cExpr, cEdge, cGraph, cStep, cWalk, cChange, cBatch, cHistory, cPositions, cAutomaton, cProductStep, cPathAtom, cConjunction, cView, cDelta, cRegistered, cRegistry] at hlen
 have hgl := gridF_len n f
 refine AW.sr ?_
 refine AWl.ac U U U U U ?_
 refine AWl.nilS (i := 4) 20001 1 U U ?_
 refine AWl.nil (AW.sr ?_)
 refine AWl.mv U U U U U ?_
 refine AWl.put (by exact R_lenm U (.no U) U (.tm U) (by exact .t) Tryz.underlying109) U ?_
 refine AWl.adds (R_call 1000 (specl9Grid _ n false _ (by simp [gridF_len]) (eO_zero f g) hn) U U U (.cons (.tm U) U (.cons (.const U) U .nil)) U U) U ?_
 refine AWl.av U U U U U ?_
 refine AWl.nil (AW.seq ?_)
 refine AW.sr ?_
 refine AWl.ac U U U U U ?_
 refine AWl.nil (AW.block ?_)
 refine AW.loop1 (fun (i : Nat) => (i ≤ n) ∧ True) (fun (i : Nat) => ⟨_, [(6, (true, .a (.one (.t (.v (.int .i64 (i : Nat))))))), (5, (true, .a (.one (.rf 1000)))), (0, _), (1, _), (4, _)], [(1000, .row 1 ((gridF n (eO f g i 0)).map cBoolS))]⟩) (fun (i : Nat) => n - i) (0) ⟨Nat.zero_le _, trivial⟩ (Le.sub0 U ⟨U, U, U, U, U, trivial⟩ ⟨(by refine congrArg (fun r => some (R.row 1 r)) ?_; first | rfl | rw [eO_start f g i]), trivial⟩) ?_
 rintro i ⟨hk, he⟩
 refine AW.seq ?_
 refine AW.sr ?_
 refine AWl.mv U U U U U ?_
 refine AWl.mv U U U U U ?_
 refine AWl.put (by exact R_lenm U (.no U) U (.tm U) (by exact .t) Tryz.underlying109) U ?_
 refine AWl.put (R_lt U (.no U) U (.tm U) (.tm U)) U ?_
 refine AWl.nil ?_
 refine AW.cond (.tm U) (fun h14 => ?_) (fun h14 => ?_)
 · skip
   try simp at h14
   have hi : i < n := (by omega)
   refine AW.skip ?_
   refine AW.seq ?_
   refine AW.block ?_
   refine AW.sr ?_
   refine AWl.mv U U U U U ?_
   refine AWl.av U U U U U ?_
   refine AWl.nil (AW.block ?_)
   refine AW.loop1 (fun (j : Nat) => ((i ≤ j ∧ j ≤ n)) ∧ True) (fun (j : Nat) => ⟨_, [(7, (true, .a (.one (.t (.v (.int .i64 (j : Nat))))))), (5, (true, .a (.one (.rf 1000)))), (0, _), (1, _), (4, _), (6, _)], [(1000, .row 1 ((gridF n (eO f g i j)).map cBoolS))]⟩) (fun (j : Nat) => n - j) (i) ⟨⟨Nat.le_refl _, by omega⟩, trivial⟩ (Le.sub0 U ⟨U, U, U, U, U, U, trivial⟩ ⟨(by refine congrArg (fun r => some (R.row 1 r)) ?_; first | rfl | rw [eO_start f g i]), trivial⟩) ?_
   rintro j ⟨hk1, he1⟩
   refine AW.seq ?_
   refine AW.sr ?_
   refine AWl.mv U U U U U ?_
   refine AWl.mv U U U U U ?_
   refine AWl.put (by exact R_lenm U (.no U) U (.tm U) (by exact .t) Tryz.underlying109) U ?_
   refine AWl.put (R_lt U (.no U) U (.tm U) (.tm U)) U ?_
   refine AWl.nil ?_
   refine AW.cond (.tm U) (fun h21 => ?_) (fun h21 => ?_)
   · skip
     try simp at h21
     have hj : j < n := (by omega)
     refine AW.skip ?_
     refine AW.seq ?_
     refine AW.block ?_
     refine AW.takeR (id := 1000) (i := i) (p := 0) 721 722 U (map_get (gridF_row hi)) U (fun _ => rfl) (fun _ => rfl) fun c721 => ?_
     refine AW.drawn 22 (nthB [[], [], [0, 1], [0, 1, 2], [], [], [], [5, 6], [5, 6, 7], [], [5, 6, 7, 8, 9], [5, 6, 7, 8, 9, 10], [5, 6, 7, 8, 9, 10, 11], [5, 6, 7, 8, 9, 10, 11, 12], [5, 6, 7, 8, 9, 10, 11, 12], [5, 6, 7, 8, 9, 10, 11, 12, 13, 14], [5, 6, 7, 8, 9, 10, 11, 12, 13, 14, 15], [5, 6, 7, 8, 9, 10, 11, 12], [5, 6, 7, 8, 9, 10, 11, 12, 13, 14, 15, 16, 17], [5, 6, 7, 8, 9, 10, 11, 12, 13, 14, 15, 16, 17, 18], [5, 6, 7, 8, 9, 10, 11, 12, 13, 14, 15, 16, 17, 18, 19], [0, 1, 2, 3, 4, 5, 6, 7, 8, 9, 10, 11, 12, 13, 14, 15, 16, 17, 18, 19, 20]]) (by kernel_rfl) (by kernel_rfl) (by kernel_rfl) ?_
     refine DrawC.step U U U (Loc.of U fun σ' hs => R_move U (.no U) (hd_sup hs U) (.tm (hs.slots _ _ U))) ?_
     refine DrawC.step U U U (Loc.of U fun σ' hs => R_move U (.no U) (hd_sup hs U) (.tm (hs.slots _ _ U))) ?_
     refine DrawC.step U U U (Loc.of U fun σ' hs => (by exact R_indexAddr_rf U (.no U) (hd_sup hs U) (.tm (hs.slots _ _ U)) (hs.res _ _ U) (.tm (hs.slots _ _ U)) Tryz.underlying109 ty71 (fun _ => ⟨by omega, set_self (by simp [gridF_len]; exact hi)⟩))) ?_
     refine DrawC.step U U U (Loc.of U fun σ' hs => R_load_hdr (nid := 721) (hid := 722) U (.no U) (hd_sup hs U) (.tm (hs.slots _ _ U)) (hs.res _ _ U) (set_self (by simp [gridF_len]; exact hi)) ty71 U U U U (hs.res _ _ U) (hs.res _ _ U)) ?_
     refine DrawC.step U U U (Loc.of U fun σ' hs => R_move U (.no U) (hd_sup hs U) (.tm (hs.slots _ _ U))) ?_
     refine DrawC.step U U U (Loc.of U fun σ' hs => R_move U (.no U) (hd_sup hs U) (.tm (hs.slots _ _ U))) ?_
     refine DrawC.step U U U (Loc.of U fun σ' hs => R_move U (.no U) (hd_sup hs U) (.tm (hs.slots _ _ U))) ?_
     refine DrawC.step U U U (Loc.of U fun σ' hs => (by exact R_indexAddr U (.no U) (hd_sup hs U) (.tm (hs.slots _ _ U)) (.tm (hs.slots _ _ U)) Tryz.underlying109 ty71 (fun _ => ⟨by omega, (by exact map_get (gridF_row (f := f) hi))⟩))) ?_
     refine DrawC.step U U U (Loc.of U fun σ' hs => (by exact R_load U (.no U) (hd_sup hs U) (.tm (hs.slots _ _ U)) ty71 U U)) ?_
     refine DrawC.step U U U (Loc.of U fun σ' hs => R_move U (.no U) (hd_sup hs U) (.tm (hs.slots _ _ U))) ?_
     refine DrawC.step U U U (Loc.of U fun σ' hs => (by exact R_indexAddr U (.no U) (hd_sup hs U) (.tm (hs.slots _ _ U)) (.tm (hs.slots _ _ U)) Tryz.underlying71 ty4 (fun _ => ⟨by omega, (by exact map_get (row_at hj))⟩))) ?_
     refine DrawC.step U U U (Loc.of U fun σ' hs => (by exact R_load U (.no U) (hd_sup hs U) (.tm (hs.slots _ _ U)) ty4 U U)) ?_
     refine DrawC.step U U U (Loc.of U fun σ' hs => R_move U (.no U) (hd_sup hs U) (.tm (hs.slots _ _ U))) ?_
     refine DrawC.step U U U (Loc.of U fun σ' hs => R_move U (by exact .not1 U U (hs.slots _ _ U) (by rw [hs.n]; rfl)) (hd_sup hs U) (.tmp (hs.slots _ _ U) (by exact fun _ => rfl))) ?_
     refine DrawC.step U U U (Loc.of U fun σ' hs => R_move U (by exact .not1 U U (hs.slots _ _ U) (by rw [hs.n]; rfl)) (hd_sup hs U) (.tmp (hs.slots _ _ U) (by exact fun _ => rfl))) ?_
     refine DrawC.step U U U (Loc.of U fun σ' hs => (by exact R_indexAddr U (by exact .not1 U U (hs.slots _ _ U) (by rw [hs.n]; rfl)) (hd_sup hs U) (.tmp (hs.slots _ _ U) (by exact id)) (.tmp (hs.slots _ _ U) (by exact id)) Tryz.underlying109 ty71 (fun hq => by (try simp at hq); exact ⟨by omega, (by exact map_get (gridF_row (f := g) hi))⟩))) ?_
     refine DrawC.step U U U (Loc.of U fun σ' hs => (by exact R_load U (by exact .not1 U U (hs.slots _ _ U) (by rw [hs.n]; rfl)) (hd_sup hs U) (.tmp (hs.slots _ _ U) (by exact id)) ty71 U U)) ?_
     refine DrawC.step U U U (Loc.of U fun σ' hs => R_move U (by exact .not1 U U (hs.slots _ _ U) (by rw [hs.n]; rfl)) (hd_sup hs U) (.tmp (hs.slots _ _ U) (by exact fun _ => rfl))) ?_
     refine DrawC.step U U U (Loc.of U fun σ' hs => (by exact R_indexAddr U (by exact .not1 U U (hs.slots _ _ U) (by rw [hs.n]; rfl)) (hd_sup hs U) (.tmp (hs.slots _ _ U) (by exact id)) (.tmp (hs.slots _ _ U) (by exact id)) Tryz.underlying71 ty4 (fun hq => by (try simp at hq); exact ⟨by omega, (by exact map_get (row_at hj))⟩))) ?_
     refine DrawC.step U U U (Loc.of U fun σ' hs => (by exact R_load U (by exact .not1 U U (hs.slots _ _ U) (by rw [hs.n]; rfl)) (hd_sup hs U) (.tmp (hs.slots _ _ U) (by exact id)) ty4 U U)) ?_
     refine DrawC.step U U U (Loc.of U fun σ' hs => R_or U (.no U) (hd_sup hs U) (.tm (hs.slots _ _ U)) (.tmp (hs.slots _ _ U) (by exact id))) ?_
     refine DrawC.step U U U (Loc.of U fun σ' hs => (by exact R_indexAddr_rf U (.no U) (hd_sup hs U) (.tm (hs.slots _ _ U)) (hs.res _ _ U) (.tm (hs.slots _ _ U)) Tryz.underlying71 ty4 (fun _ => ⟨by omega, (by exact map_get (row_at hj))⟩))) ?_
     refine DrawC.fin U U ?_
     refine AWl.absupd (R_store_pr U U U (.tm U) U (.tm U) U (map_get (row_at hj)) ty4 U U U U) ?_
     refine AWl.nil ?_
     refine AW.le (Le.putR (nid := 721) (hid := 722) (id := 1000) (i := i) (p := 0) U U U (set_self (by simp [gridF_len]; exact hi)) U U U U) ?_
     refine AW.le (σ' := ⟨_, [(0, _), (1, _), (4, _), (5, _), (6, _), (7, _)], [(1000, _)]⟩) (Le.sub0 U ⟨U, U, U, U, U, U, trivial⟩ ⟨U, trivial⟩) ?_
     refine AW.region ?_
     refine AWl.mv U U U U U ?_
     refine AWl.put (R_add U (.no U) U (.tm U) (.const U) (fun _ => by omega)) U ?_
     refine AWl.av U U U U U ?_
     refine AWl.nil ?_
     repeat (with_reducible refine BlockQ.nor ?_)
     refine Round1.next (j + 1) ⟨⟨by omega, by omega⟩, trivial⟩ (by omega) (Le.sub0 rfl ⟨rfl, rfl, rfl, rfl, rfl, rfl, trivial⟩ ⟨(by refine congrArg (fun r => some (R.row 1 r)) ?_; first | (rw [← eO_step f g hk1.1]; exact grid_put) | (rw [hjn, eO_next])), trivial⟩)
   · skip
     try simp at h21
     have hjn : j = n := (by omega)
     refine AW.exit ?_
     refine AW.region ?_
     refine AWl.mv U U U U U ?_
     refine AWl.put (R_add U (.no U) U (.tm U) (.const U) (fun _ => by omega)) U ?_
     refine AWl.av U U U U U ?_
     refine AWl.nil ?_
     repeat (with_reducible refine BlockQ.nor ?_)
     refine Round1.next (i + 1) ⟨by omega, trivial⟩ (by omega) (Le.sub0 rfl ⟨rfl, rfl, rfl, rfl, rfl, trivial⟩ ⟨(by refine congrArg (fun r => some (R.row 1 r)) ?_; first | (rw [← eO_step f g hk1.1]; exact grid_put) | (rw [hjn, eO_next])), trivial⟩)
 · skip
   try simp at h14
   refine AW.exit ?_
   refine AW.sr ?_
   refine AWl.mv U U U U U ?_
   refine AWl.av U U U U U ?_
   refine AWl.nil (AW.ret ?_)
   refine Res.one U (.tmp U .nil) U ?_
   rw [show i = n by first | omega | (simp [gridF_len] at h14; omega), eO_end hf hg]; rfl
theorem specl9Joined (n : Nat) (f g : GR) (hf : upR f) (hg : upR g) (hn : n ≤ 4096) : FnT Tryz.prog 88 [.one (.sl 1 ((gridF n f).map cBoolS)), .one (.sl 1 ((gridF n g).map cBoolS))] (.a (.one (.sl 1 ((gridF n (thenR n f g)).map cBoolS)))) := by
 refine FnT.walk Tryz.func88 U (by kernel_rfl) Tryz.ntmps88 U fun hlen w0 => ?_
 try simp [cPair, cToken, cExpr, cEdge, cGraph, cStep, cWalk, cChange, cBatch, cHistory, cPositions, cAutomaton, cProductStep, cPathAtom, cConjunction, cView, cDelta, cRegistered, cRegistry] at hlen
 have hgl := gridF_len n f
 refine AW.sr ?_
 refine AWl.ac U U U U U ?_
 refine AWl.nilS (i := 4) 20001 1 U U ?_
 refine AWl.nil (AW.sr ?_)
 refine AWl.mv U U U U U ?_
 refine AWl.put (by exact R_lenm U (.no U) U (.tm U) (by exact .t) Tryz.underlying109) U ?_
 refine AWl.adds (R_call 1100 (specl9Grid _ n false _ (by simp [gridF_len]) (tO_zero f g n) hn) U U U (.cons (.tm U) U (.cons (.const U) U .nil)) U U) U ?_
 refine AWl.av U U U U U ?_
 refine AWl.nil (AW.seq ?_)
 refine AW.sr ?_
 refine AWl.ac U U U U U ?_
 refine AWl.nil (AW.block ?_)
 refine AW.loop1 (fun (i : Nat) => (i ≤ n) ∧ True) (fun (i : Nat) => ⟨_, [(6, (true, .a (.one (.t (.v (.int .i64 (i : Nat))))))), (5, (true, .a (.one (.rf 1100)))), (0, _), (1, _), (4, _)], [(1100, .row 1 ((gridF n (tO f g n i 0 0)).map cBoolS))]⟩) (fun (i : Nat) => n - i) (0) ⟨Nat.zero_le _, trivial⟩ (Le.sub0 U ⟨U, U, U, U, U, trivial⟩ ⟨(by refine congrArg (fun r => some (R.row 1 r)) ?_; first | rfl | rw [tO_start f g n i]), trivial⟩) ?_
 rintro i ⟨hk, he⟩
 refine AW.seq ?_
 refine AW.sr ?_
 refine AWl.mv U U U U U ?_
 refine AWl.mv U U U U U ?_
 refine AWl.put (by exact R_lenm U (.no U) U (.tm U) (by exact .t) Tryz.underlying109) U ?_
 refine AWl.put (R_lt U (.no U) U (.tm U) (.tm U)) U ?_
 refine AWl.nil ?_
 refine AW.cond (.tm U) (fun h15 => ?_) (fun h15 => ?_)
 · skip
   try simp at h15
   have hi : i < n := (by omega)
   refine AW.skip ?_
   refine AW.seq ?_
   refine AW.block ?_
   refine AW.sr ?_
   refine AWl.mv U U U U U ?_
   refine AWl.av U U U U U ?_
   refine AWl.nil (AW.block ?_)
   refine AW.loop1 (fun (k : Nat) => ((i ≤ k ∧ k ≤ n)) ∧ True) (fun (k : Nat) => ⟨_, [(7, (true, .a (.one (.t (.v (.int .i64 (k : Nat))))))), (5, (true, .a (.one (.rf 1100)))), (0, _), (1, _), (4, _), (6, _)], [(1100, .row 1 ((gridF n (tO f g n i k k)).map cBoolS))]⟩) (fun (k : Nat) => n - k) (i) ⟨⟨Nat.le_refl _, by omega⟩, trivial⟩ (Le.sub0 U ⟨U, U, U, U, U, U, trivial⟩ ⟨(by refine congrArg (fun r => some (R.row 1 r)) ?_; first | rfl | rw [tO_start f g n i]), trivial⟩) ?_
   rintro k ⟨hk1, he1⟩
   refine AW.seq ?_
   refine AW.sr ?_
   refine AWl.mv U U U U U ?_
   refine AWl.mv U U U U U ?_
   refine AWl.put (by exact R_lenm U (.no U) U (.tm U) (by exact .t) Tryz.underlying109) U ?_
   refine AWl.put (R_lt U (.no U) U (.tm U) (.tm U)) U ?_
   refine AWl.nil ?_
   refine AW.cond (.tm U) (fun h22 => ?_) (fun h22 => ?_)
   · skip
     try simp at h22
     have hk0 : k < n := (by omega)
     refine AW.skip ?_
     refine AW.seq ?_
     refine AW.block ?_
     refine AW.sr ?_
     refine AWl.mv U U U U U ?_
     refine AWl.av U U U U U ?_
     refine AWl.nil (AW.block ?_)
     refine AW.loop1 (fun (j : Nat) => ((k ≤ j ∧ j ≤ n)) ∧ True) (fun (j : Nat) => ⟨_, [(8, (true, .a (.one (.t (.v (.int .i64 (j : Nat))))))), (5, (true, .a (.one (.rf 1100)))), (0, _), (1, _), (4, _), (6, _), (7, _)], [(1100, .row 1 ((gridF n (tO f g n i k j)).map cBoolS))]⟩) (fun (j : Nat) => n - j) (k) ⟨⟨Nat.le_refl _, by omega⟩, trivial⟩ (Le.sub0 U ⟨U, U, U, U, U, U, U, trivial⟩ ⟨(by refine congrArg (fun r => some (R.row 1 r)) ?_; first | rfl | rw [tO_start f g n i]), trivial⟩) ?_
     rintro j ⟨hk2, he2⟩
     refine AW.seq ?_
     refine AW.sr ?_
     refine AWl.mv U U U U U ?_
     refine AWl.mv U U U U U ?_
     refine AWl.put (by exact R_lenm U (.no U) U (.tm U) (by exact .t) Tryz.underlying109) U ?_
     refine AWl.put (R_lt U (.no U) U (.tm U) (.tm U)) U ?_
     refine AWl.mv U U U U U ?_
     refine AWl.put (R_move U (by exact .yes1 U U U U) U (.tmp U (by exact fun _ => rfl))) U ?_
     refine AWl.put (R_move U (by exact .yes1 U U U U) U (.tmp U (by exact fun _ => rfl))) U ?_
     refine AWl.put ((by exact R_indexAddr U (by exact .yes1 U U U U) U (.tmp U (by exact id)) (.tmp U (by exact id)) Tryz.underlying109 ty71 (fun _ => ⟨by omega, map_get (gridF_row (f := f) hi)⟩))) U ?_
     refine AWl.put (by exact R_load U (by exact .yes1 U U U U) U (.tmp U (by exact id)) ty71 U U) U ?_
     refine AWl.put (R_move U (by exact .yes1 U U U U) U (.tmp U (by exact fun _ => rfl))) U ?_
     refine AWl.put (by exact R_indexAddr U (by exact .yes1 U U U U) U (.tmp U (by exact id)) (.tmp U (by exact id)) Tryz.underlying71 ty4 (fun _ => ⟨by omega, map_get (row_at hk0)⟩)) U ?_
     refine AWl.put (by exact R_load U (by exact .yes1 U U U U) U (.tmp U (by exact id)) ty4 U U) U ?_
     refine AWl.put (R_and U (.no U) U (.tm U) (.tmp U (by exact id))) U ?_
     refine AWl.nil ?_
     refine AW.cond (.tm U) (fun h38 => ?_) (fun h38 => ?_)
     · skip
       skip
       have h38' : j < n ∧ f i k = true := (by simpa [gridF_len] using h38)
       have hj := h38'.1
       refine AW.skip ?_
       refine AW.seq ?_
       refine AW.block ?_
       refine AW.le (σ' := ⟨_, [(0, _), (1, _), (4, _), (5, _), (6, _), (7, _), (8, _)], [(1100, _)]⟩) (Le.sub0 U ⟨U, U, U, U, U, U, U, trivial⟩ ⟨U, trivial⟩) ?_
       refine AW.takeR (id := 1100) (i := i) (p := 0) 721 722 U (map_get (gridF_row hi)) U (fun _ => rfl) (fun _ => rfl) fun c721 => ?_
       refine AW.drawn 22 (nthB [[], [], [0, 1], [0, 1, 2], [], [], [], [5, 6], [5, 6, 7], [], [5, 6, 7, 8, 9], [5, 6, 7, 8, 9, 10], [5, 6, 7, 8, 9, 10, 11], [5, 6, 7, 8, 9, 10, 11, 12], [5, 6, 7, 8, 9, 10, 11, 12], [5, 6, 7, 8, 9, 10, 11, 12, 13, 14], [5, 6, 7, 8, 9, 10, 11, 12, 13, 14, 15], [5, 6, 7, 8, 9, 10, 11, 12], [5, 6, 7, 8, 9, 10, 11, 12, 13, 14, 15, 16, 17], [5, 6, 7, 8, 9, 10, 11, 12, 13, 14, 15, 16, 17, 18], [5, 6, 7, 8, 9, 10, 11, 12, 13, 14, 15, 16, 17, 18, 19], [0, 1, 2, 3, 4, 5, 6, 7, 8, 9, 10, 11, 12, 13, 14, 15, 16, 17, 18, 19, 20]]) (by kernel_rfl) (by kernel_rfl) (by kernel_rfl) ?_
       refine DrawC.step U U U (Loc.of U fun σ' hs => R_move U (.no U) (hd_sup hs U) (.tm (hs.slots _ _ U))) ?_
       refine DrawC.step U U U (Loc.of U fun σ' hs => R_move U (.no U) (hd_sup hs U) (.tm (hs.slots _ _ U))) ?_
       refine DrawC.step U U U (Loc.of U fun σ' hs => (by exact R_indexAddr_rf U (.no U) (hd_sup hs U) (.tm (hs.slots _ _ U)) (hs.res _ _ U) (.tm (hs.slots _ _ U)) Tryz.underlying109 ty71 (fun _ => ⟨by omega, set_self (by simp [gridF_len]; exact hi)⟩))) ?_
       refine DrawC.step U U U (Loc.of U fun σ' hs => R_load_hdr (nid := 721) (hid := 722) U (.no U) (hd_sup hs U) (.tm (hs.slots _ _ U)) (hs.res _ _ U) (set_self (by simp [gridF_len]; exact hi)) ty71 U U U U (hs.res _ _ U) (hs.res _ _ U)) ?_
       refine DrawC.step U U U (Loc.of U fun σ' hs => R_move U (.no U) (hd_sup hs U) (.tm (hs.slots _ _ U))) ?_
       refine DrawC.step U U U (Loc.of U fun σ' hs => R_move U (.no U) (hd_sup hs U) (.tm (hs.slots _ _ U))) ?_
       refine DrawC.step U U U (Loc.of U fun σ' hs => R_move U (.no U) (hd_sup hs U) (.tm (hs.slots _ _ U))) ?_
       refine DrawC.step U U U (Loc.of U fun σ' hs => (by exact R_indexAddr_rf U (.no U) (hd_sup hs U) (.tm (hs.slots _ _ U)) (hs.res _ _ U) (.tm (hs.slots _ _ U)) Tryz.underlying109 ty71 (fun _ => ⟨by omega, set_self (by simp [gridF_len]; exact hi)⟩))) ?_
       refine DrawC.step U U U (Loc.of U fun σ' hs => R_load_hdr (nid := 721) (hid := 722) U (.no U) (hd_sup hs U) (.tm (hs.slots _ _ U)) (hs.res _ _ U) (set_self (by simp [gridF_len]; exact hi)) ty71 U U U U (hs.res _ _ U) (hs.res _ _ U)) ?_
       refine DrawC.step U U U (Loc.of U fun σ' hs => R_move U (.no U) (hd_sup hs U) (.tm (hs.slots _ _ U))) ?_
       refine DrawC.step U U U (Loc.of U fun σ' hs => (by exact R_indexAddr_rf U (.no U) (hd_sup hs U) (.tm (hs.slots _ _ U)) (hs.res _ _ U) (.tm (hs.slots _ _ U)) Tryz.underlying71 ty4 (fun _ => ⟨by omega, (by exact map_get (row_at hj))⟩))) ?_
       refine DrawC.step U U U (Loc.of U fun σ' hs => (by exact R_load_pr U (.no U) (hd_sup hs U) (.tm (hs.slots _ _ U)) (hs.res _ _ U) (by exact map_get (row_at hj)) ty4 U U)) ?_
       refine DrawC.step U U U (Loc.of U fun σ' hs => R_move U (.no U) (hd_sup hs U) (.tm (hs.slots _ _ U))) ?_
       refine DrawC.step U U U (Loc.of U fun σ' hs => R_move U (by exact .not1 U U (hs.slots _ _ U) (by rw [hs.n]; rfl)) (hd_sup hs U) (.tmp (hs.slots _ _ U) (by exact fun _ => rfl))) ?_
       refine DrawC.step U U U (Loc.of U fun σ' hs => R_move U (by exact .not1 U U (hs.slots _ _ U) (by rw [hs.n]; rfl)) (hd_sup hs U) (.tmp (hs.slots _ _ U) (by exact fun _ => rfl))) ?_
       refine DrawC.step U U U (Loc.of U fun σ' hs => (by exact R_indexAddr U (by exact .not1 U U (hs.slots _ _ U) (by rw [hs.n]; rfl)) (hd_sup hs U) (.tmp (hs.slots _ _ U) (by exact id)) (.tmp (hs.slots _ _ U) (by exact id)) Tryz.underlying109 ty71 (fun hq => by (try simp at hq); exact ⟨by omega, (by exact map_get (gridF_row (f := g) hk0))⟩))) ?_
       refine DrawC.step U U U (Loc.of U fun σ' hs => (by exact R_load U (by exact .not1 U U (hs.slots _ _ U) (by rw [hs.n]; rfl)) (hd_sup hs U) (.tmp (hs.slots _ _ U) (by exact id)) ty71 U U)) ?_
       refine DrawC.step U U U (Loc.of U fun σ' hs => R_move U (by exact .not1 U U (hs.slots _ _ U) (by rw [hs.n]; rfl)) (hd_sup hs U) (.tmp (hs.slots _ _ U) (by exact fun _ => rfl))) ?_
       refine DrawC.step U U U (Loc.of U fun σ' hs => (by exact R_indexAddr U (by exact .not1 U U (hs.slots _ _ U) (by rw [hs.n]; rfl)) (hd_sup hs U) (.tmp (hs.slots _ _ U) (by exact id)) (.tmp (hs.slots _ _ U) (by exact id)) Tryz.underlying71 ty4 (fun hq => by (try simp at hq); exact ⟨by omega, (by exact map_get (row_at hj))⟩))) ?_
       refine DrawC.step U U U (Loc.of U fun σ' hs => (by exact R_load U (by exact .not1 U U (hs.slots _ _ U) (by rw [hs.n]; rfl)) (hd_sup hs U) (.tmp (hs.slots _ _ U) (by exact id)) ty4 U U)) ?_
       refine DrawC.step U U U (Loc.of U fun σ' hs => R_or U (.no U) (hd_sup hs U) (.tm (hs.slots _ _ U)) (.tmp (hs.slots _ _ U) (by exact id))) ?_
       refine DrawC.step U U U (Loc.of U fun σ' hs => (by exact R_indexAddr_rf U (.no U) (hd_sup hs U) (.tm (hs.slots _ _ U)) (hs.res _ _ U) (.tm (hs.slots _ _ U)) Tryz.underlying71 ty4 (fun _ => ⟨by omega, (by exact map_get (row_at hj))⟩))) ?_
       refine DrawC.fin U U ?_
       refine AWl.absupd (R_store_pr U U U (.tm U) U (.tm U) U (map_get (row_at hj)) ty4 U U U U) ?_
       refine AWl.nil ?_
       refine AW.le (Le.putR (nid := 721) (hid := 722) (id := 1100) (i := i) (p := 0) U U U (set_self (by simp [gridF_len]; exact hi)) U U U U) ?_
       refine AW.le (σ' := ⟨_, [(0, _), (1, _), (4, _), (5, _), (6, _), (7, _), (8, _)], [(1100, _)]⟩) (Le.sub0 U ⟨U, U, U, U, U, U, U, trivial⟩ ⟨U, trivial⟩) ?_
       refine AW.region ?_
       refine AWl.mv U U U U U ?_
       refine AWl.put (R_add U (.no U) U (.tm U) (.const U) (fun _ => by omega)) U ?_
       refine AWl.av U U U U U ?_
       refine AWl.nil ?_
       repeat (with_reducible refine BlockQ.nor ?_)
       refine Round1.next (j + 1) ⟨⟨by omega, by omega⟩, trivial⟩ (by omega) (Le.sub0 rfl ⟨rfl, rfl, rfl, rfl, rfl, rfl, rfl, trivial⟩ ⟨(by refine congrArg (fun r => some (R.row 1 r)) ?_; first | (rw [← tO_step h38'.2 hk2.1]; exact grid_put) | (rw [tO_nextk hk1.1 hout]) | (rw [hkn, tO_nexti])), trivial⟩)
     · skip
       skip
       have hout : j = n ∨ f i k = false := (by rcases Nat.lt_or_ge j n with hlt | hge; (right; simpa [gridF_len, hlt] using h38); (left; omega))
       refine AW.exit ?_
       refine AW.le (σ' := ⟨_, [(0, _), (1, _), (4, _), (5, _), (6, _), (7, _), (8, _)], [(1100, _)]⟩) (Le.sub0 U ⟨U, U, U, U, U, U, U, trivial⟩ ⟨U, trivial⟩) ?_
       refine AW.region ?_
       refine AWl.mv U U U U U ?_
       refine AWl.put (R_add U (.no U) U (.tm U) (.const U) (fun _ => by omega)) U ?_
       refine AWl.av U U U U U ?_
       refine AWl.nil ?_
       repeat (with_reducible refine BlockQ.nor ?_)
       refine Round1.next (k + 1) ⟨⟨by omega, by omega⟩, trivial⟩ (by omega) (Le.sub0 rfl ⟨rfl, rfl, rfl, rfl, rfl, rfl, trivial⟩ ⟨(by refine congrArg (fun r => some (R.row 1 r)) ?_; first | (rw [← tO_step h38'.2 hk2.1]; exact grid_put) | (rw [tO_nextk hk1.1 hout]) | (rw [hkn, tO_nexti])), trivial⟩)
   · skip
     try simp at h22
     have hkn : k = n := (by omega)
     refine AW.exit ?_
     refine AW.region ?_
     refine AWl.mv U U U U U ?_
     refine AWl.put (R_add U (.no U) U (.tm U) (.const U) (fun _ => by omega)) U ?_
     refine AWl.av U U U U U ?_
     refine AWl.nil ?_
     repeat (with_reducible refine BlockQ.nor ?_)
     refine Round1.next (i + 1) ⟨by omega, trivial⟩ (by omega) (Le.sub0 rfl ⟨rfl, rfl, rfl, rfl, rfl, trivial⟩ ⟨(by refine congrArg (fun r => some (R.row 1 r)) ?_; first | (rw [← tO_step h38'.2 hk2.1]; exact grid_put) | (rw [tO_nextk hk1.1 hout]) | (rw [hkn, tO_nexti])), trivial⟩)
 · skip
   try simp at h15
   refine AW.exit ?_
   refine AW.sr ?_
   refine AWl.mv U U U U U ?_
   refine AWl.av U U U U U ?_
   refine AWl.nil (AW.ret ?_)
   refine Res.one U (.tmp U .nil) U ?_
   rw [show i = n by first | omega | (simp [gridF_len] at h15; omega), tO_end hf hg]; rfl
theorem specl9Repeated (n : Nat) (f : GR) (hf : upR f) (low high : Int) (h1 : 0 ≤ high ∧ high ≤ 4096) (hn : n ≤ 4096) : FnT Tryz.prog 90 [.one (.sl 1 ((gridF n f).map cBoolS)), .one (.v (.int .i64 low)), .one (.v (.int .i64 high))] (.a (.one (.sl 1 ((gridF n (repR n f low (high.toNat + 1))).map cBoolS)))) := by
 refine FnT.walk Tryz.func90 U (by kernel_rfl) Tryz.ntmps90 U fun hlen w0 => ?_
 try simp [cPair, cToken, cExpr, cEdge, cGraph, cStep, cWalk, cChange, cBatch, cHistory, cPositions, cAutomaton, cProductStep, cPathAtom, cConjunction, cView, cDelta, cRegistered, cRegistry] at hlen
 have hgl := gridF_len n f
 refine AW.sr ?_
 refine AWl.ac U U U U U ?_
 refine AWl.nilS (i := 6) 20001 1 U U ?_
 refine AWl.nil (AW.sr ?_)
 refine AWl.mv U U U U U ?_
 refine AWl.put (by exact R_lenm U (.no U) U (.tm U) (by exact .t) Tryz.underlying109) U ?_
 refine AWl.adds (R_call 1200 (specl9Grid _ n false _ (by simp [gridF_len]) diag_no hn) U U U (.cons (.tm U) U (.cons (.const U) U .nil)) U U) U ?_
 refine AWl.av U U U U U ?_
 refine AWl.nil (AW.sr ?_)
 refine AWl.mv U U U U U ?_
 refine AWl.put (by exact R_lenm U (.no U) U (.tm U) (by exact .t) Tryz.underlying109) U ?_
 refine AWl.adds (R_call 1500 (specl9Grid _ n true _ (by simp [gridF_len]) diag_id hn) U U U (.cons (.tm U) U (.cons (.const U) U .nil)) U U) U ?_
 refine AWl.av U U U U U ?_
 refine AWl.nil (AW.seq ?_)
 refine AW.seq ?_
 refine AW.le (σ' := ⟨_, [(0, _), (1, _), (2, _), (6, _), (7, _), (8, _)], [(20001, _), (1200, _), (1500, _)]⟩) (Le.sub0 U ⟨U, U, U, U, U, U, trivial⟩ ⟨U, U, U, trivial⟩) ?_
 refine AW.region ?_
 refine AWl.ac U U U U U ?_
 refine AWl.nil (AW.block ?_)
 refine AW.loop1 (fun (k : Nat) => (k ≤ high.toNat + 1) ∧ True) (fun (k : Nat) => ⟨_, [(9, (true, .a (.one (.t (.v (.int .i64 (k : Nat))))))), (7, (true, .a (.one (.rf 1200)))), (8, (true, .a (.one (.rf 1500)))), (0, _), (1, _), (2, _), (6, _)], [(1200, .row 1 ((gridF n (repR n f low k)).map cBoolS)), (1500, .row 1 ((gridF n (powR n f k)).map cBoolS))]⟩) (fun (k : Nat) => high.toNat + 1 - k) (0) ⟨by omega, trivial⟩ (Le.sub0 U ⟨U, U, U, U, U, U, U, trivial⟩ ⟨U, U, trivial⟩) ?_
 rintro k ⟨hk, he⟩
 refine AW.seq ?_
 refine AW.sr ?_
 refine AWl.mv U U U U U ?_
 refine AWl.mv U U U U U ?_
 refine AWl.put (R_le U (.no U) U (.tm U) (.tm U)) U ?_
 refine AWl.nil ?_
 refine AW.cond (.tm U) (fun h18 => ?_) (fun h18 => ?_)
 · skip
   try simp at h18
   have hkh : (k : Int) ≤ high := by (have h := h18; first | omega | (simp at h; omega))
   refine AW.skip ?_
   refine AW.seq ?_
   refine AW.block ?_
   refine AW.seq ?_
   refine AW.sr ?_
   refine AWl.mv U U U U U ?_
   refine AWl.mv U U U U U ?_
   refine AWl.put (R_ge U (.no U) U (.tm U) (.tm U)) U ?_
   refine AWl.nil ?_
   refine AW.cond (.tm U) (fun h23 => ?_) (fun h23 => ?_)
   · skip
     try simp at h23
     have hlk : low ≤ (k : Int) := by (have h := h23; first | omega | (simp at h; omega))
     refine AW.le (σ' := ⟨_, [(0, _), (1, _), (2, _), (6, _), (7, _), (8, _), (9, _)], [(1200, _), (1500, _)]⟩) (Le.sub0 U ⟨U, U, U, U, U, U, U, trivial⟩ ⟨U, U, trivial⟩) ?_
     refine AW.region ?_
     refine AWl.mv U U U U U ?_
     refine AWl.mv U U U U U ?_
     refine AWl.adds (R_call 2600 (specl9Either n (repR n f low k) (powR n f k) (up_rep hf low k) (up_pow hf k) hn) U U U (.cons (.tm U) U (.cons (.tm U) U .nil)) U U) U ?_
     refine AWl.av U U U U U ?_
     refine AWl.nil ?_
     refine AW.le (Le.sw 1200 2600 _) ?_
     refine AW.region ?_
     refine AWl.mv U U U U U ?_
     refine AWl.mv U U U U U ?_
     refine AWl.adds (R_call 2900 (specl9Joined n (powR n f k) f (up_pow hf k) hf hn) U U U (.cons (.tm U) U (.cons (.tm U) U .nil)) U U) U ?_
     refine AWl.av U U U U U ?_
     refine AWl.nil ?_
     refine AW.le (Le.sw 1500 2900 _) ?_
     refine AW.le (σ' := ⟨_, [(0, _), (1, _), (2, _), (6, _), (7, _), (8, _), (9, _)], [(2600, _), (2900, _), (1200, _), (1500, _)]⟩) (Le.sub0 U ⟨U, U, U, U, U, U, U, trivial⟩ ⟨U, U, U, U, trivial⟩) ?_
     refine AW.region ?_
     refine AWl.mv U U U U U ?_
     refine AWl.put (R_add U (.no U) U (.tm U) (.const U) (fun _ => by omega)) U ?_
     refine AWl.av U U U U U ?_
     refine AWl.nil ?_
     repeat (with_reducible refine BlockQ.nor ?_)
     refine Round1.next (k + 1) ⟨by omega, trivial⟩ (by omega) (Le.sub0 rfl ⟨rfl, rfl, rfl, rfl, rfl, rfl, rfl, trivial⟩ ⟨(by refine congrArg (fun r => some (R.row 1 r)) ?_; first | (rw [repR, if_pos hlk]; done) | (rw [repR, if_neg hlk]; done)), (by rfl), trivial⟩)
   · skip
     try simp at h23
     have hlk : ¬ low ≤ (k : Int) := by (have h := h23; first | omega | (simp at h; omega))
     refine AW.skip ?_
     refine AW.le (σ' := ⟨_, [(0, _), (1, _), (2, _), (6, _), (7, _), (8, _), (9, _)], [(1200, _), (1500, _)]⟩) (Le.sub0 U ⟨U, U, U, U, U, U, U, trivial⟩ ⟨U, U, trivial⟩) ?_
     refine AW.region ?_
     refine AWl.mv U U U U U ?_
     refine AWl.mv U U U U U ?_
     refine AWl.adds (R_call 2900 (specl9Joined n (powR n f k) f (up_pow hf k) hf hn) U U U (.cons (.tm U) U (.cons (.tm U) U .nil)) U U) U ?_
     refine AWl.av U U U U U ?_
     refine AWl.nil ?_
     refine AW.le (Le.sw 1500 2900 _) ?_
     refine AW.region ?_
     refine AWl.mv U U U U U ?_
     refine AWl.put (R_add U (.no U) U (.tm U) (.const U) (fun _ => by omega)) U ?_
     refine AWl.av U U U U U ?_
     refine AWl.nil ?_
     repeat (with_reducible refine BlockQ.nor ?_)
     refine Round1.next (k + 1) ⟨by omega, trivial⟩ (by omega) (Le.sub0 rfl ⟨rfl, rfl, rfl, rfl, rfl, rfl, rfl, trivial⟩ ⟨(by refine congrArg (fun r => some (R.row 1 r)) ?_; first | (rw [repR, if_pos hlk]; done) | (rw [repR, if_neg hlk]; done)), (by rfl), trivial⟩)
 · skip
   try simp at h18
   refine AW.exit ?_
   refine AW.sr ?_
   refine AWl.mv U U U U U ?_
   refine AWl.av U U U U U ?_
   refine AWl.nil (AW.ret ?_)
   refine Res.one U (.tmp U .nil) U ?_
   rw [show k = high.toNat + 1 by have h := h18; first | omega | (simp at h; omega)]; rfl
end Go.Proofs.YtbkhopfpejhnlaaGreat
