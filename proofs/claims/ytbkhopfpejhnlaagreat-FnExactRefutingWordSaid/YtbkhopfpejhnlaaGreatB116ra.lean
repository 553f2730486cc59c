import Derived.Test.YtbkhopfpejhnlaaGreatB114ra
import Derived.Test.YtbkhopfpejhnlaaGreatPutra
set_option linter.unusedVariables false
set_option linter.unusedSimpArgs false
set_option maxHeartbeats 1000000
set_option maxRecDepth 100000
namespace Go.Q
open Go.RowKit Go.D
theorem grid_put {n : Nat} {F : GR} {i j : Nat} {b : Bool} {c : List T} : (((gridF n F).map cBoolS).set i c).set i [.sl 1 ((((List.range n).map (F i)).map cBool).set j (cBool b))] = (gridF n (setF F i j b)).map cBoolS := by
 rw [List.set_set, ← gridF_set, List.map_set]
 congr 1
 show _ = [T.sl 1 _]
 rw [List.map_set]
def diagR (b : Bool) : GR := fun i j => b && decide (i = j)
theorem diag_id : diagR true = idR := by funext i j; simp [diagR, idR]
theorem diag_no : diagR false = noR := by funext i j; simp [diagR, noR]
theorem diag_row {n k : Nat} {b : Bool} (hk : k < n) : (List.replicate n (cBool false)).set k (cBool b) = ((List.range n).map (diagR b k)).map cBool := by
 apply List.ext_getElem?
 intro y
 rw [List.getElem?_set, List.getElem?_map]
 by_cases hy : y < n
 · rw [row_at hy]
   by_cases e : k = y
   · subst e; simp [hk, diagR]
   · rw [if_neg e]; simp [hy, diagR, e]
 · rw [List.getElem?_eq_none (l := (List.range n).map (diagR b k)) (by simp; omega)]
   by_cases e : k = y
   · subst e; omega
   · rw [if_neg e, List.getElem?_eq_none (by simp; omega)]; rfl
def waysTo (n : Nat) (b : Bool) (k : Nat) : List (List T) := (List.range n).map fun x => if x < k then cBoolS ((List.range n).map (diagR b x)) else [.v (.slice none 0 0)]
theorem waysTo_zero (n : Nat) (b : Bool) : waysTo n b 0 = List.replicate n [.v (.slice none 0 0)] := by
 unfold waysTo
 apply List.ext_getElem?
 intro i
 by_cases h : i < n
 · rw [List.getElem?_map, List.getElem?_range h]; simp [h]
 · rw [List.getElem?_eq_none (by simp; omega), List.getElem?_eq_none (by simp; omega)]
theorem waysTo_end (n : Nat) (b : Bool) : waysTo n b n = (gridF n (diagR b)).map cBoolS := by
 unfold waysTo gridF
 rw [List.map_map]
 refine List.map_congr_left fun x hx => ?_
 rw [if_pos (List.mem_range.1 hx)]; rfl
theorem waysTo_len (n : Nat) (b : Bool) (k : Nat) : (waysTo n b k).length = n := by simp [waysTo]
theorem waysTo_step {n k : Nat} {b : Bool} (hk : k < n) : (waysTo n b k).set k (cBoolS ((List.range n).map (diagR b k))) = waysTo n b (k + 1) := by
 unfold waysTo
 apply List.ext_getElem?
 intro i
 rw [List.getElem?_set]
 by_cases hi : i < n
 · rw [List.getElem?_map, List.getElem?_range hi, List.getElem?_map, List.getElem?_range hi]
   by_cases e : k = i
   · subst e; simp [hk]
   · rw [if_neg e]
     simp only [Option.map_some]
     by_cases h2 : i < k
     · rw [if_pos h2, if_pos (by omega)]
     · rw [if_neg h2, if_neg (by omega)]
 · by_cases e : k = i
   · omega
   · rw [if_neg e, List.getElem?_eq_none (by simp; omega), List.getElem?_eq_none (by simp; omega)]
theorem waysTo_self {n k : Nat} {b : Bool} (hk : k < n) : (waysTo n b k)[k]? = some [.v (.slice none 0 0)] := by
 unfold waysTo
 rw [List.getElem?_map, List.getElem?_range hk]; simp
def eTo (f g : GR) (i j : Nat) : GR := fun x y => if x < i ∨ (x = i ∧ y < j) then f x y || g x y else false
theorem eTo_zero (f g : GR) : diagR false = eTo f g 0 0 := by funext x y; simp [diagR, eTo]
theorem eTo_step (f g : GR) (i j : Nat) : setF (eTo f g i j) i j (f i j || g i j) = eTo f g i (j + 1) := by
 funext x y
 unfold setF eTo
 by_cases h1 : x = i <;> by_cases h2 : y = j
 · subst h1; subst h2; simp
 · subst h1; simp only [h2, and_false, if_false]
   by_cases h3 : y < j
   · simp [h3, show y < j + 1 by omega]
   · simp [h3, show ¬ y < j + 1 by omega]
 · simp [h1]
 · simp [h1]
theorem eTo_next {n : Nat} (f g : GR) (i : Nat) : gridF n (eTo f g i n) = gridF n (eTo f g (i + 1) 0) := gridF_ext fun x y _ hy => by
 unfold eTo
 by_cases h1 : x < i
 · simp [h1, show x < i + 1 by omega]
 · by_cases h2 : x = i
   · subst h2; simp [hy]
   · simp [h1, h2, show ¬ x < i + 1 by omega]
theorem eTo_end {n : Nat} (f g : GR) : gridF n (eTo f g n 0) = gridF n (orR f g) := gridF_ext fun x y hx _ => by simp [eTo, orR, hx]
def jTo (f g : GR) (i k y : Nat) : Bool := (List.range k).any fun z => f i z && g z y
theorem jTo_succ (f g : GR) (i k y : Nat) : jTo f g i (k + 1) y = (jTo f g i k y || (f i k && g k y)) := by simp [jTo, List.range_succ]
def tTo (f g : GR) (n i k j : Nat) : GR := fun x y => if x < i then jTo f g x n y else if x = i then jTo f g i k y || (decide (y < j) && (f i k && g k y)) else false
theorem tTo_zero (f g : GR) (n : Nat) : diagR false = tTo f g n 0 0 0 := by
 funext x y
 unfold diagR tTo jTo
 simp
theorem tTo_step {f g : GR} {n i k j : Nat} (hf : f i k = true) : setF (tTo f g n i k j) i j (tTo f g n i k j i j || g k j) = tTo f g n i k (j + 1) := by
 funext x y
 unfold setF tTo
 by_cases h1 : x = i <;> by_cases h2 : y = j
 · subst h1; subst h2; simp [hf]
 · subst h1
   simp only [h2, and_false, if_false]
   by_cases h3 : y < j
   · simp [h3, show y < j + 1 by omega]
   · simp [h3, show ¬ y < j + 1 by omega]
 · simp [h1]
 · simp [h1]
theorem tTo_nextk {n : Nat} (f g : GR) (i k : Nat) : gridF n (tTo f g n i k n) = gridF n (tTo f g n i (k + 1) 0) := gridF_ext fun x y _ hy => by
 unfold tTo
 rw [jTo_succ]
 simp [hy]
theorem tTo_skip {n : Nat} {f g : GR} {i k : Nat} (hf : f i k = false) : tTo f g n i k 0 = tTo f g n i (k + 1) 0 := by
 funext x y
 unfold tTo
 rw [jTo_succ]
 simp [hf]
theorem tTo_nexti {n : Nat} (f g : GR) (i : Nat) : tTo f g n i n 0 = tTo f g n (i + 1) 0 0 := by
 funext x y
 unfold tTo
 by_cases h1 : x < i
 · simp [h1, show x < i + 1 by omega]
 · by_cases h2 : x = i
   · subst h2; simp
   · simp [h1, h2, show ¬ x < i + 1 by omega, jTo]
theorem tTo_end {n : Nat} (f g : GR) : gridF n (tTo f g n n 0 0) = gridF n (thenR n f g) := gridF_ext fun x y hx _ => by simp [tTo, hx, jTo, thenR]
theorem set_self {α : Type} {l : List α} {k : Nat} {x : α} (h : k < l.length) : (l.set k x)[k]? = some x := List.getElem?_set_self h
end Go.Q
namespace Go.Proofs.YtbkhopfpejhnlaaGreat
open Go.RowKit Go.Q Go.D
theorem implways (n : Nat) (b : Bool) (hn : n ≤ 4096) : FnT Tryz.prog 131 [.one (.v (.int .i64 (n : Int))), .one (.v (.bool b))] (.a (.one (.sl 1 ((gridF n (diagR b)).map cBoolS)))) := by
 refine FnT.walk Tryz.func131 rfl (by kernel_rfl) Tryz.ntmps131 rfl fun hlen w0 => ?_
 try simp [cPair, cToken, cExpr, cEdge, cGraph, cStep, cWalk, cChange, cBatch, cHistory, cPositions, cAutomaton, cProductStep, cPathAtom, cConjunction, cView, cDelta, cRegistered, cRegistry] at hlen
 refine AW.sr ?_
 refine AWl.ac rfl rfl rfl rfl rfl ?_
 refine AWl.nilS (i := 4) 20001 1 rfl rfl ?_
 refine AWl.nil (AW.sr ?_)
 refine AWl.mv rfl rfl rfl rfl rfl ?_
 refine AWl.add (R_makeSlice 8 rfl rfl rfl (.tm rfl) Tryz.underlying109 in71 rfl rfl rfl rfl (by omega)) rfl ?_
 refine AWl.av rfl rfl rfl rfl rfl ?_
 refine AWl.nil (AW.seq ?_)
 refine AW.sr ?_
 refine AWl.mv rfl rfl rfl rfl rfl ?_
 refine AWl.put (by exact R_len rfl (.no rfl) rfl (.tm rfl) (by exact .rf rfl) Tryz.underlying109) rfl ?_
 refine AWl.put (R_move rfl (.no rfl) rfl (.const rfl)) rfl ?_
 refine AWl.nil (AW.block ?_)
 refine AW.loop1 (fun (k : Nat) => (k ≤ n) ∧ True) (fun (k : Nat) => ⟨_, [(11, (true, .a (.one (.t (.v (.int .i64 (k : Nat))))))), (5, (true, .a (.one (.rf 8)))), (0, _), (1, _), (4, _), (10, _)], [(8, .row 1 (waysTo n b k))]⟩) (fun (k : Nat) => n - k) (0) ⟨Nat.zero_le _, trivial⟩ (Le.sub0 rfl ⟨rfl, rfl, rfl, rfl, rfl, rfl, trivial⟩ ⟨(by refine congrArg (fun r => some (R.row 1 r)) ?_; rw [waysTo_zero]; simp), trivial⟩) ?_
 rintro k ⟨hk, he⟩
 refine AW.sr ?_
 refine AWl.put (R_lt rfl (.no rfl) rfl (.tm rfl) (.tm rfl)) rfl ?_
 refine AWl.nil (AW.seq ?_)
 refine AW.cond (.tm rfl) (fun h12 => ?_) (fun h12 => ?_)
 · skip
   try simp at h12
   have hkn : k < n := (by omega)
   refine AW.skip ?_
   refine AW.seq ?_
   refine AW.block ?_
   refine AW.sr ?_
   refine AWl.mv rfl rfl rfl rfl rfl ?_
   refine AWl.av rfl rfl rfl rfl rfl ?_
   refine AWl.nil (AW.sr ?_)
   refine AWl.mv rfl rfl rfl rfl rfl ?_
   refine AWl.mv rfl rfl rfl rfl rfl ?_
   refine AWl.mv rfl rfl rfl rfl rfl ?_
   refine AWl.add (R_makeSlice 17 rfl rfl rfl (.tm rfl) Tryz.underlying71 in4 rfl rfl rfl rfl (by omega)) rfl ?_
   refine AWl.put (by exact R_indexAddr_rf rfl (.no rfl) rfl (.tm rfl) rfl (.tm rfl) Tryz.underlying109 ty71 (fun _ => ⟨by omega, waysTo_self hkn⟩)) rfl ?_
   refine AWl.absupd (R_store_pr rfl rfl rfl (.tm rfl) rfl (.tm rfl) rfl (waysTo_self hkn) ty71 rfl rfl rfl rfl) ?_
   refine AWl.nil ?_
   refine AW.le (σ' := ⟨_, [(0, _), (1, _), (4, _), (5, _), (6, _), (10, _), (11, _)], [(8, _)]⟩) (Le.sub0 rfl ⟨rfl, rfl, rfl, rfl, rfl, rfl, rfl, trivial⟩ ⟨rfl, trivial⟩) ?_
   refine AW.takeR (id := 8) (i := k) (p := 0) 701 702 rfl (set_self (by rw [waysTo_len]; exact hkn)) rfl (fun _ => rfl) (fun _ => rfl) fun c701 => ?_
   refine AW.region ?_
   refine AWl.mv rfl rfl rfl rfl rfl ?_
   refine AWl.mv rfl rfl rfl rfl rfl ?_
   refine AWl.put (by exact R_indexAddr_rf rfl (.no rfl) rfl (.tm rfl) rfl (.tm rfl) Tryz.underlying109 ty71 (fun _ => ⟨by omega, set_self (by simp [waysTo_len]; exact hkn)⟩)) rfl ?_
   refine AWl.put (R_load_hdr (nid := 701) (hid := 702) rfl (.no rfl) rfl (.tm rfl) rfl (set_self (by simp [waysTo_len]; exact hkn)) ty71 rfl rfl rfl rfl rfl rfl) rfl ?_
   refine AWl.mv rfl rfl rfl rfl rfl ?_
   refine AWl.mv rfl rfl rfl rfl rfl ?_
   refine AWl.put (by exact R_indexAddr_rf rfl (.no rfl) rfl (.tm rfl) rfl (.tm rfl) Tryz.underlying71 ty4 (fun _ => ⟨by omega, List.getElem?_replicate_of_lt (by simpa using hkn)⟩)) rfl ?_
   refine AWl.absupd (R_store_pr rfl rfl rfl (.tm rfl) rfl (.tm rfl) rfl (List.getElem?_replicate_of_lt (by simpa using hkn)) ty4 rfl rfl rfl rfl) ?_
   refine AWl.nil ?_
   refine AW.le (Le.putR (nid := 701) (hid := 702) (id := 8) (i := k) (p := 0) rfl rfl rfl (set_self (by simp [waysTo_len]; exact hkn)) rfl rfl rfl rfl) ?_
   refine AW.le (σ' := ⟨_, [(0, _), (1, _), (4, _), (5, _), (6, _), (10, _), (11, _)], [(8, _)]⟩) (Le.sub0 rfl ⟨rfl, rfl, rfl, rfl, rfl, rfl, rfl, trivial⟩ ⟨rfl, trivial⟩) ?_
   refine AW.region ?_
   refine AWl.put (R_add rfl (.no rfl) rfl (.tm rfl) (.const rfl) (fun _ => by omega)) rfl ?_
   refine AWl.mv rfl rfl rfl rfl rfl ?_
   refine AWl.nil ?_
   repeat (with_reducible refine BlockQ.nor ?_)
   refine Round1.next (k + 1) ⟨by omega, trivial⟩ (by omega) (Le.sub0 rfl ⟨rfl, rfl, rfl, rfl, rfl, rfl, trivial⟩ ⟨(by refine congrArg (fun r => some (R.row 1 r)) ?_; rw [← waysTo_step hkn, show cBoolS ((List.range n).map (diagR b k)) = [T.sl 1 ((List.replicate n (cBool false)).set k (cBool b))] from by (rw [diag_row hkn]; rfl)]; simp; rfl), trivial⟩)
 · skip
   try simp at h12
   refine AW.exit ?_
   refine AW.sr ?_
   refine AWl.mv rfl rfl rfl rfl rfl ?_
   refine AWl.av rfl rfl rfl rfl rfl ?_
   refine AWl.nil (AW.ret ?_)
   refine Res.one rfl (.tmp rfl .nil) rfl ?_
   rw [show k = n by first | omega | (simp [waysTo_len] at h12; omega), waysTo_end]; rfl
theorem implways' (m : Int) (n : Nat) (b : Bool) (hm : m = n) (hn : n ≤ 4096) : FnT Tryz.prog 131 [.one (.v (.int .i64 m)), .one (.v (.bool b))] (.a (.one (.sl 1 ((gridF n (diagR b)).map cBoolS)))) := by
 subst hm; exact implways n b hn
theorem impleither (n : Nat) (f g : GR) (hn : n ≤ 4096) : FnT Tryz.prog 133 [.one (.sl 1 ((gridF n f).map cBoolS)), .one (.sl 1 ((gridF n g).map cBoolS))] (.a (.one (.sl 1 ((gridF n (orR f g)).map cBoolS)))) := by
 refine FnT.walk Tryz.func133 rfl (by kernel_rfl) Tryz.ntmps133 rfl fun hlen w0 => ?_
 try simp [cPair, cToken, cExpr, cEdge, cGraph, cStep, cWalk, cChange, cBatch, cHistory, cPositions, cAutomaton, cProductStep, cPathAtom, cConjunction, cView, cDelta, cRegistered, cRegistry] at hlen
 have hgl := gridF_len n f
 refine AW.sr ?_
 refine AWl.ac rfl rfl rfl rfl rfl ?_
 refine AWl.nilS (i := 4) 20001 1 rfl rfl ?_
 refine AWl.nil (AW.sr ?_)
 refine AWl.mv rfl rfl rfl rfl rfl ?_
 refine AWl.put (by exact R_lenm rfl (.no rfl) rfl (.tm rfl) (by exact .t) Tryz.underlying109) rfl ?_
 refine AWl.adds (R_call 1000 (implways' _ n false (by simp [gridF_len]) hn) rfl rfl rfl (.cons (.tm rfl) rfl (.cons (.const rfl) rfl .nil)) rfl rfl) rfl ?_
 refine AWl.av rfl rfl rfl rfl rfl ?_
 refine AWl.nil (AW.seq ?_)
 refine AW.sr ?_
 refine AWl.mv rfl rfl rfl rfl rfl ?_
 refine AWl.put (by exact R_lenm rfl (.no rfl) rfl (.tm rfl) (by exact .t) Tryz.underlying109) rfl ?_
 refine AWl.put (R_move rfl (.no rfl) rfl (.const rfl)) rfl ?_
 refine AWl.nil (AW.block ?_)
 refine AW.loop1 (fun (i : Nat) => (i ≤ n) ∧ True) (fun (i : Nat) => ⟨_, [(13, (true, .a (.one (.t (.v (.int .i64 (i : Nat))))))), (5, (true, .a (.one (.rf 1000)))), (0, _), (1, _), (4, _), (12, _)], [(1000, .row 1 ((gridF n (eTo f g i 0)).map cBoolS))]⟩) (fun (i : Nat) => n - i) (0) ⟨Nat.zero_le _, trivial⟩ (Le.sub0 rfl ⟨rfl, rfl, rfl, rfl, rfl, rfl, trivial⟩ ⟨(by refine congrArg (fun r => some (R.row 1 r)) ?_; first | rfl | rw [eTo_zero f g]), trivial⟩) ?_
 rintro i ⟨hk, he⟩
 refine AW.sr ?_
 refine AWl.put (R_lt rfl (.no rfl) rfl (.tm rfl) (.tm rfl)) rfl ?_
 refine AWl.nil (AW.seq ?_)
 refine AW.cond (.tm rfl) (fun h14 => ?_) (fun h14 => ?_)
 · skip
   try simp at h14
   have hi : i < n := (by omega)
   refine AW.skip ?_
   refine AW.seq ?_
   refine AW.block ?_
   refine AW.sr ?_
   refine AWl.mv rfl rfl rfl rfl rfl ?_
   refine AWl.av rfl rfl rfl rfl rfl ?_
   refine AWl.nil (AW.sr ?_)
   refine AWl.mv rfl rfl rfl rfl rfl ?_
   refine AWl.mv rfl rfl rfl rfl rfl ?_
   refine AWl.put ((by exact R_indexAddr rfl (.no rfl) rfl (.tm rfl) (.tm rfl) Tryz.underlying109 ty71 (fun _ => ⟨by omega, (by exact map_get (gridF_row (f := f) hi))⟩))) rfl ?_
   refine AWl.put (by exact R_load rfl (.no rfl) rfl (.tm rfl) ty71 rfl rfl) rfl ?_
   refine AWl.put (by exact R_lenm rfl (.no rfl) rfl (.tm rfl) (by exact .t) Tryz.underlying71) rfl ?_
   refine AWl.put (R_move rfl (.no rfl) rfl (.const rfl)) rfl ?_
   refine AWl.nil (AW.block ?_)
   refine AW.loop1 (fun (j : Nat) => (j ≤ n) ∧ True) (fun (j : Nat) => ⟨_, [(21, (true, .a (.one (.t (.v (.int .i64 (j : Nat))))))), (5, (true, .a (.one (.rf 1000)))), (0, _), (1, _), (4, _), (6, _), (12, _), (13, _), (20, _)], [(1000, .row 1 ((gridF n (eTo f g i j)).map cBoolS))]⟩) (fun (j : Nat) => n - j) (0) ⟨Nat.zero_le _, trivial⟩ (Le.sub0 rfl ⟨rfl, rfl, rfl, rfl, rfl, rfl, rfl, rfl, rfl, trivial⟩ ⟨(by refine congrArg (fun r => some (R.row 1 r)) ?_; first | rfl | rw [eTo_zero f g]), trivial⟩) ?_
   rintro j ⟨hk1, he1⟩
   refine AW.sr ?_
   refine AWl.put (R_lt rfl (.no rfl) rfl (.tm rfl) (.tm rfl)) rfl ?_
   refine AWl.nil (AW.seq ?_)
   refine AW.cond (.tm rfl) (fun h22 => ?_) (fun h22 => ?_)
   · skip
     try simp at h22
     have hj : j < n := (by omega)
     refine AW.skip ?_
     refine AW.seq ?_
     refine AW.block ?_
     refine AW.sr ?_
     refine AWl.mv rfl rfl rfl rfl rfl ?_
     refine AWl.av rfl rfl rfl rfl rfl ?_
     refine AWl.nil ?_
     refine AW.takeR (id := 1000) (i := i) (p := 0) 721 722 rfl (map_get (gridF_row hi)) rfl (fun _ => rfl) (fun _ => rfl) fun c721 => ?_
     refine AW.drawn 22 (nthB [[], [], [0, 1], [0, 1, 2], [], [], [], [5, 6], [5, 6, 7], [], [5, 6, 7, 8, 9], [5, 6, 7, 8, 9, 10], [5, 6, 7, 8, 9, 10, 11], [5, 6, 7, 8, 9, 10, 11, 12], [5, 6, 7, 8, 9, 10, 11, 12], [5, 6, 7, 8, 9, 10, 11, 12, 13, 14], [5, 6, 7, 8, 9, 10, 11, 12, 13, 14, 15], [5, 6, 7, 8, 9, 10, 11, 12], [5, 6, 7, 8, 9, 10, 11, 12, 13, 14, 15, 16, 17], [5, 6, 7, 8, 9, 10, 11, 12, 13, 14, 15, 16, 17, 18], [5, 6, 7, 8, 9, 10, 11, 12, 13, 14, 15, 16, 17, 18, 19], [0, 1, 2, 3, 4, 5, 6, 7, 8, 9, 10, 11, 12, 13, 14, 15, 16, 17, 18, 19, 20]]) (by kernel_rfl) (by kernel_rfl) (by kernel_rfl) ?_
     refine DrawC.step rfl rfl rfl (Loc.of rfl fun σ' hs => R_move rfl (.no rfl) (hd_sup hs rfl) (.tm (hs.slots _ _ rfl))) ?_
     refine DrawC.step rfl rfl rfl (Loc.of rfl fun σ' hs => R_move rfl (.no rfl) (hd_sup hs rfl) (.tm (hs.slots _ _ rfl))) ?_
     refine DrawC.step rfl rfl rfl (Loc.of rfl fun σ' hs => (by exact R_indexAddr_rf rfl (.no rfl) (hd_sup hs rfl) (.tm (hs.slots _ _ rfl)) (hs.res _ _ rfl) (.tm (hs.slots _ _ rfl)) Tryz.underlying109 ty71 (fun _ => ⟨by omega, set_self (by simp [gridF_len]; exact hi)⟩))) ?_
     refine DrawC.step rfl rfl rfl (Loc.of rfl fun σ' hs => R_load_hdr (nid := 721) (hid := 722) rfl (.no rfl) (hd_sup hs rfl) (.tm (hs.slots _ _ rfl)) (hs.res _ _ rfl) (set_self (by simp [gridF_len]; exact hi)) ty71 rfl rfl rfl rfl (hs.res _ _ rfl) (hs.res _ _ rfl)) ?_
     refine DrawC.step rfl rfl rfl (Loc.of rfl fun σ' hs => R_move rfl (.no rfl) (hd_sup hs rfl) (.tm (hs.slots _ _ rfl))) ?_
     refine DrawC.step rfl rfl rfl (Loc.of rfl fun σ' hs => R_move rfl (.no rfl) (hd_sup hs rfl) (.tm (hs.slots _ _ rfl))) ?_
     refine DrawC.step rfl rfl rfl (Loc.of rfl fun σ' hs => R_move rfl (.no rfl) (hd_sup hs rfl) (.tm (hs.slots _ _ rfl))) ?_
     refine DrawC.step rfl rfl rfl (Loc.of rfl fun σ' hs => (by exact R_indexAddr rfl (.no rfl) (hd_sup hs rfl) (.tm (hs.slots _ _ rfl)) (.tm (hs.slots _ _ rfl)) Tryz.underlying109 ty71 (fun _ => ⟨by omega, (by exact map_get (gridF_row (f := f) hi))⟩))) ?_
     refine DrawC.step rfl rfl rfl (Loc.of rfl fun σ' hs => (by exact R_load rfl (.no rfl) (hd_sup hs rfl) (.tm (hs.slots _ _ rfl)) ty71 rfl rfl)) ?_
     refine DrawC.step rfl rfl rfl (Loc.of rfl fun σ' hs => R_move rfl (.no rfl) (hd_sup hs rfl) (.tm (hs.slots _ _ rfl))) ?_
     refine DrawC.step rfl rfl rfl (Loc.of rfl fun σ' hs => (by exact R_indexAddr rfl (.no rfl) (hd_sup hs rfl) (.tm (hs.slots _ _ rfl)) (.tm (hs.slots _ _ rfl)) Tryz.underlying71 ty4 (fun _ => ⟨by omega, (by exact map_get (row_at hj))⟩))) ?_
     refine DrawC.step rfl rfl rfl (Loc.of rfl fun σ' hs => (by exact R_load rfl (.no rfl) (hd_sup hs rfl) (.tm (hs.slots _ _ rfl)) ty4 rfl rfl)) ?_
     refine DrawC.step rfl rfl rfl (Loc.of rfl fun σ' hs => R_move rfl (.no rfl) (hd_sup hs rfl) (.tm (hs.slots _ _ rfl))) ?_
     refine DrawC.step rfl rfl rfl (Loc.of rfl fun σ' hs => R_move rfl (by exact .not1 rfl rfl (hs.slots _ _ rfl) (by rw [hs.n]; rfl)) (hd_sup hs rfl) (.tmp (hs.slots _ _ rfl) (by exact fun _ => rfl))) ?_
     refine DrawC.step rfl rfl rfl (Loc.of rfl fun σ' hs => R_move rfl (by exact .not1 rfl rfl (hs.slots _ _ rfl) (by rw [hs.n]; rfl)) (hd_sup hs rfl) (.tmp (hs.slots _ _ rfl) (by exact fun _ => rfl))) ?_
     refine DrawC.step rfl rfl rfl (Loc.of rfl fun σ' hs => (by exact R_indexAddr rfl (by exact .not1 rfl rfl (hs.slots _ _ rfl) (by rw [hs.n]; rfl)) (hd_sup hs rfl) (.tmp (hs.slots _ _ rfl) (by exact id)) (.tmp (hs.slots _ _ rfl) (by exact id)) Tryz.underlying109 ty71 (fun hq => by (try simp at hq); exact ⟨by omega, (by exact map_get (gridF_row (f := g) hi))⟩))) ?_
     refine DrawC.step rfl rfl rfl (Loc.of rfl fun σ' hs => (by exact R_load rfl (by exact .not1 rfl rfl (hs.slots _ _ rfl) (by rw [hs.n]; rfl)) (hd_sup hs rfl) (.tmp (hs.slots _ _ rfl) (by exact id)) ty71 rfl rfl)) ?_
     refine DrawC.step rfl rfl rfl (Loc.of rfl fun σ' hs => R_move rfl (by exact .not1 rfl rfl (hs.slots _ _ rfl) (by rw [hs.n]; rfl)) (hd_sup hs rfl) (.tmp (hs.slots _ _ rfl) (by exact fun _ => rfl))) ?_
     refine DrawC.step rfl rfl rfl (Loc.of rfl fun σ' hs => (by exact R_indexAddr rfl (by exact .not1 rfl rfl (hs.slots _ _ rfl) (by rw [hs.n]; rfl)) (hd_sup hs rfl) (.tmp (hs.slots _ _ rfl) (by exact id)) (.tmp (hs.slots _ _ rfl) (by exact id)) Tryz.underlying71 ty4 (fun hq => by (try simp at hq); exact ⟨by omega, (by exact map_get (row_at hj))⟩))) ?_
     refine DrawC.step rfl rfl rfl (Loc.of rfl fun σ' hs => (by exact R_load rfl (by exact .not1 rfl rfl (hs.slots _ _ rfl) (by rw [hs.n]; rfl)) (hd_sup hs rfl) (.tmp (hs.slots _ _ rfl) (by exact id)) ty4 rfl rfl)) ?_
     refine DrawC.step rfl rfl rfl (Loc.of rfl fun σ' hs => R_or rfl (.no rfl) (hd_sup hs rfl) (.tm (hs.slots _ _ rfl)) (.tmp (hs.slots _ _ rfl) (by exact id))) ?_
     refine DrawC.step rfl rfl rfl (Loc.of rfl fun σ' hs => (by exact R_indexAddr_rf rfl (.no rfl) (hd_sup hs rfl) (.tm (hs.slots _ _ rfl)) (hs.res _ _ rfl) (.tm (hs.slots _ _ rfl)) Tryz.underlying71 ty4 (fun _ => ⟨by omega, (by exact map_get (row_at hj))⟩))) ?_
     refine DrawC.fin rfl rfl ?_
     refine AWl.absupd (R_store_pr rfl rfl rfl (.tm rfl) rfl (.tm rfl) rfl (map_get (row_at hj)) ty4 rfl rfl rfl rfl) ?_
     refine AWl.nil ?_
     refine AW.le (Le.putR (nid := 721) (hid := 722) (id := 1000) (i := i) (p := 0) rfl rfl rfl (set_self (by simp [gridF_len]; exact hi)) rfl rfl rfl rfl) ?_
     refine AW.le (σ' := ⟨_, [(0, _), (1, _), (4, _), (5, _), (6, _), (7, _), (12, _), (13, _), (20, _), (21, _)], [(1000, _)]⟩) (Le.sub0 rfl ⟨rfl, rfl, rfl, rfl, rfl, rfl, rfl, rfl, rfl, rfl, trivial⟩ ⟨rfl, trivial⟩) ?_
     refine AW.region ?_
     refine AWl.put (R_add rfl (.no rfl) rfl (.tm rfl) (.const rfl) (fun _ => by omega)) rfl ?_
     refine AWl.mv rfl rfl rfl rfl rfl ?_
     refine AWl.nil ?_
     repeat (with_reducible refine BlockQ.nor ?_)
     refine Round1.next (j + 1) ⟨by omega, trivial⟩ (by omega) (Le.sub0 rfl ⟨rfl, rfl, rfl, rfl, rfl, rfl, rfl, rfl, rfl, trivial⟩ ⟨(by refine congrArg (fun r => some (R.row 1 r)) ?_; first | (rw [← eTo_step]; exact grid_put) | (rw [hjn, eTo_next])), trivial⟩)
   · skip
     try simp at h22
     have hjn : j = n := (by omega)
     refine AW.exit ?_
     refine AW.region ?_
     refine AWl.put (R_add rfl (.no rfl) rfl (.tm rfl) (.const rfl) (fun _ => by omega)) rfl ?_
     refine AWl.mv rfl rfl rfl rfl rfl ?_
     refine AWl.nil ?_
     repeat (with_reducible refine BlockQ.nor ?_)
     refine Round1.next (i + 1) ⟨by omega, trivial⟩ (by omega) (Le.sub0 rfl ⟨rfl, rfl, rfl, rfl, rfl, rfl, trivial⟩ ⟨(by refine congrArg (fun r => some (R.row 1 r)) ?_; first | (rw [← eTo_step]; exact grid_put) | (rw [hjn, eTo_next])), trivial⟩)
 · skip
   try simp at h14
   refine AW.exit ?_
   refine AW.sr ?_
   refine AWl.mv rfl rfl rfl rfl rfl ?_
   refine AWl.av rfl rfl rfl rfl rfl ?_
   refine AWl.nil (AW.ret ?_)
   refine Res.one rfl (.tmp rfl .nil) rfl ?_
   rw [show i = n by first | omega | (simp [gridF_len] at h14; omega), eTo_end]; rfl
theorem implinTurn (n : Nat) (f g : GR) (hn : n ≤ 4096) : FnT Tryz.prog 132 [.one (.sl 1 ((gridF n f).map cBoolS)), .one (.sl 1 ((gridF n g).map cBoolS))] (.a (.one (.sl 1 ((gridF n (thenR n f g)).map cBoolS)))) := by
 refine FnT.walk Tryz.func132 rfl (by kernel_rfl) Tryz.ntmps132 rfl fun hlen w0 => ?_
 try simp [cPair, cToken, cExpr, cEdge, cGraph, cStep, cWalk, cChange, cBatch, cHistory, cPositions, cAutomaton, cProductStep, cPathAtom, cConjunction, cView, cDelta, cRegistered, cRegistry] at hlen
 have hgl := gridF_len n f
 refine AW.sr ?_
 refine AWl.ac rfl rfl rfl rfl rfl ?_
 refine AWl.nilS (i := 4) 20001 1 rfl rfl ?_
 refine AWl.nil (AW.sr ?_)
 refine AWl.mv rfl rfl rfl rfl rfl ?_
 refine AWl.put (by exact R_lenm rfl (.no rfl) rfl (.tm rfl) (by exact .t) Tryz.underlying109) rfl ?_
 refine AWl.adds (R_call 1100 (implways' _ n false (by simp [gridF_len]) hn) rfl rfl rfl (.cons (.tm rfl) rfl (.cons (.const rfl) rfl .nil)) rfl rfl) rfl ?_
 refine AWl.av rfl rfl rfl rfl rfl ?_
 refine AWl.nil (AW.seq ?_)
 refine AW.sr ?_
 refine AWl.mv rfl rfl rfl rfl rfl ?_
 refine AWl.put (by exact R_lenm rfl (.no rfl) rfl (.tm rfl) (by exact .t) Tryz.underlying109) rfl ?_
 refine AWl.put (R_move rfl (.no rfl) rfl (.const rfl)) rfl ?_
 refine AWl.nil (AW.block ?_)
 refine AW.loop1 (fun (i : Nat) => (i ≤ n) ∧ True) (fun (i : Nat) => ⟨_, [(14, (true, .a (.one (.t (.v (.int .i64 (i : Nat))))))), (5, (true, .a (.one (.rf 1100)))), (0, _), (1, _), (4, _), (13, _)], [(1100, .row 1 ((gridF n (tTo f g n i 0 0)).map cBoolS))]⟩) (fun (i : Nat) => n - i) (0) ⟨Nat.zero_le _, trivial⟩ (Le.sub0 rfl ⟨rfl, rfl, rfl, rfl, rfl, rfl, trivial⟩ ⟨(by refine congrArg (fun r => some (R.row 1 r)) ?_; first | rfl | rw [tTo_zero f g n]), trivial⟩) ?_
 rintro i ⟨hk, he⟩
 refine AW.sr ?_
 refine AWl.put (R_lt rfl (.no rfl) rfl (.tm rfl) (.tm rfl)) rfl ?_
 refine AWl.nil (AW.seq ?_)
 refine AW.cond (.tm rfl) (fun h15 => ?_) (fun h15 => ?_)
 · skip
   try simp at h15
   have hi : i < n := (by omega)
   refine AW.skip ?_
   refine AW.seq ?_
   refine AW.block ?_
   refine AW.sr ?_
   refine AWl.mv rfl rfl rfl rfl rfl ?_
   refine AWl.av rfl rfl rfl rfl rfl ?_
   refine AWl.nil (AW.sr ?_)
   refine AWl.mv rfl rfl rfl rfl rfl ?_
   refine AWl.mv rfl rfl rfl rfl rfl ?_
   refine AWl.put ((by exact R_indexAddr rfl (.no rfl) rfl (.tm rfl) (.tm rfl) Tryz.underlying109 ty71 (fun _ => ⟨by omega, (by exact map_get (gridF_row (f := f) hi))⟩))) rfl ?_
   refine AWl.put (by exact R_load rfl (.no rfl) rfl (.tm rfl) ty71 rfl rfl) rfl ?_
   refine AWl.put (by exact R_lenm rfl (.no rfl) rfl (.tm rfl) (by exact .t) Tryz.underlying71) rfl ?_
   refine AWl.put (R_move rfl (.no rfl) rfl (.const rfl)) rfl ?_
   refine AWl.nil (AW.block ?_)
   refine AW.loop1 (fun (k : Nat) => (k ≤ n) ∧ True) (fun (k : Nat) => ⟨_, [(22, (true, .a (.one (.t (.v (.int .i64 (k : Nat))))))), (5, (true, .a (.one (.rf 1100)))), (0, _), (1, _), (4, _), (6, _), (13, _), (14, _), (21, _)], [(1100, .row 1 ((gridF n (tTo f g n i k 0)).map cBoolS))]⟩) (fun (k : Nat) => n - k) (0) ⟨Nat.zero_le _, trivial⟩ (Le.sub0 rfl ⟨rfl, rfl, rfl, rfl, rfl, rfl, rfl, rfl, rfl, trivial⟩ ⟨(by refine congrArg (fun r => some (R.row 1 r)) ?_; first | rfl | rw [tTo_zero f g n]), trivial⟩) ?_
   rintro k ⟨hk1, he1⟩
   refine AW.sr ?_
   refine AWl.put (R_lt rfl (.no rfl) rfl (.tm rfl) (.tm rfl)) rfl ?_
   refine AWl.nil (AW.seq ?_)
   refine AW.cond (.tm rfl) (fun h23 => ?_) (fun h23 => ?_)
   · skip
     try simp at h23
     have hk0 : k < n := (by omega)
     refine AW.skip ?_
     refine AW.seq ?_
     refine AW.block ?_
     refine AW.sr ?_
     refine AWl.mv rfl rfl rfl rfl rfl ?_
     refine AWl.av rfl rfl rfl rfl rfl ?_
     refine AWl.nil (AW.seq ?_)
     refine AW.sr ?_
     refine AWl.mv rfl rfl rfl rfl rfl ?_
     refine AWl.mv rfl rfl rfl rfl rfl ?_
     refine AWl.put ((by exact R_indexAddr rfl (.no rfl) rfl (.tm rfl) (.tm rfl) Tryz.underlying109 ty71 (fun _ => ⟨by omega, (by exact map_get (gridF_row (f := f) hi))⟩))) rfl ?_
     refine AWl.put (by exact R_load rfl (.no rfl) rfl (.tm rfl) ty71 rfl rfl) rfl ?_
     refine AWl.mv rfl rfl rfl rfl rfl ?_
     refine AWl.put ((by exact R_indexAddr rfl (.no rfl) rfl (.tm rfl) (.tm rfl) Tryz.underlying71 ty4 (fun _ => ⟨by omega, (by exact map_get (row_at hk0))⟩))) rfl ?_
     refine AWl.put (by exact R_load rfl (.no rfl) rfl (.tm rfl) ty4 rfl rfl) rfl ?_
     refine AWl.put (R_not rfl (.no rfl) rfl (.tm rfl)) rfl ?_
     refine AWl.nil ?_
     refine AW.cond (.tm rfl) (fun h32 => ?_) (fun h32 => ?_)
     · skip
       skip
       have hf0 : f i k = false := (by simpa using h32)
       refine AW.exit ?_
       refine AW.le (σ' := ⟨_, [(0, _), (1, _), (4, _), (5, _), (6, _), (7, _), (13, _), (14, _), (21, _), (22, _)], [(1100, _)]⟩) (Le.sub0 rfl ⟨rfl, rfl, rfl, rfl, rfl, rfl, rfl, rfl, rfl, rfl, trivial⟩ ⟨rfl, trivial⟩) ?_
       refine AW.region ?_
       refine AWl.put (R_add rfl (.no rfl) rfl (.tm rfl) (.const rfl) (fun _ => by omega)) rfl ?_
       refine AWl.mv rfl rfl rfl rfl rfl ?_
       refine AWl.nil ?_
       repeat (with_reducible refine BlockQ.nor ?_)
       refine Round1.next (k + 1) ⟨by omega, trivial⟩ (by omega) (Le.sub0 rfl ⟨rfl, rfl, rfl, rfl, rfl, rfl, rfl, rfl, rfl, trivial⟩ ⟨(by refine congrArg (fun r => some (R.row 1 r)) ?_; first | (rw [← tTo_step hf1]; exact grid_put) | (rw [hjn, tTo_nextk]) | (rw [tTo_skip hf0]) | (rw [hkn, tTo_nexti])), trivial⟩)
     · skip
       skip
       have hf1 : f i k = true := (by simpa using h32)
       refine AW.skip ?_
       refine AW.seq ?_
       refine AW.le (σ' := ⟨_, [(0, _), (1, _), (4, _), (5, _), (6, _), (7, _), (13, _), (14, _), (21, _), (22, _)], [(1100, _)]⟩) (Le.sub0 rfl ⟨rfl, rfl, rfl, rfl, rfl, rfl, rfl, rfl, rfl, rfl, trivial⟩ ⟨rfl, trivial⟩) ?_
       refine AW.region ?_
       refine AWl.mv rfl rfl rfl rfl rfl ?_
       refine AWl.mv rfl rfl rfl rfl rfl ?_
       refine AWl.put ((by exact R_indexAddr rfl (.no rfl) rfl (.tm rfl) (.tm rfl) Tryz.underlying109 ty71 (fun _ => ⟨by omega, (by exact map_get (gridF_row (f := g) hk0))⟩))) rfl ?_
       refine AWl.put (by exact R_load rfl (.no rfl) rfl (.tm rfl) ty71 rfl rfl) rfl ?_
       refine AWl.put (by exact R_lenm rfl (.no rfl) rfl (.tm rfl) (by exact .t) Tryz.underlying71) rfl ?_
       refine AWl.put (R_move rfl (.no rfl) rfl (.const rfl)) rfl ?_
       refine AWl.nil (AW.block ?_)
       refine AW.loop1 (fun (j : Nat) => (j ≤ n) ∧ True) (fun (j : Nat) => ⟨_, [(38, (true, .a (.one (.t (.v (.int .i64 (j : Nat))))))), (5, (true, .a (.one (.rf 1100)))), (0, _), (1, _), (4, _), (6, _), (7, _), (13, _), (14, _), (21, _), (22, _), (37, _)], [(1100, .row 1 ((gridF n (tTo f g n i k j)).map cBoolS))]⟩) (fun (j : Nat) => n - j) (0) ⟨Nat.zero_le _, trivial⟩ (Le.sub0 rfl ⟨rfl, rfl, rfl, rfl, rfl, rfl, rfl, rfl, rfl, rfl, rfl, rfl, trivial⟩ ⟨(by refine congrArg (fun r => some (R.row 1 r)) ?_; first | rfl | rw [tTo_zero f g n]), trivial⟩) ?_
       rintro j ⟨hk2, he2⟩
       refine AW.sr ?_
       refine AWl.put (R_lt rfl (.no rfl) rfl (.tm rfl) (.tm rfl)) rfl ?_
       refine AWl.nil (AW.seq ?_)
       refine AW.cond (.tm rfl) (fun h39 => ?_) (fun h39 => ?_)
       · skip
         try simp at h39
         have hj : j < n := (by omega)
         refine AW.skip ?_
         refine AW.seq ?_
         refine AW.block ?_
         refine AW.sr ?_
         refine AWl.mv rfl rfl rfl rfl rfl ?_
         refine AWl.av rfl rfl rfl rfl rfl ?_
         refine AWl.nil ?_
         refine AW.takeR (id := 1100) (i := i) (p := 0) 721 722 rfl (map_get (gridF_row hi)) rfl (fun _ => rfl) (fun _ => rfl) fun c721 => ?_
         refine AW.drawn 22 (nthB [[], [], [0, 1], [0, 1, 2], [], [], [], [5, 6], [5, 6, 7], [], [5, 6, 7, 8, 9], [5, 6, 7, 8, 9, 10], [5, 6, 7, 8, 9, 10, 11], [5, 6, 7, 8, 9, 10, 11, 12], [5, 6, 7, 8, 9, 10, 11, 12], [5, 6, 7, 8, 9, 10, 11, 12, 13, 14], [5, 6, 7, 8, 9, 10, 11, 12, 13, 14, 15], [5, 6, 7, 8, 9, 10, 11, 12], [5, 6, 7, 8, 9, 10, 11, 12, 13, 14, 15, 16, 17], [5, 6, 7, 8, 9, 10, 11, 12, 13, 14, 15, 16, 17, 18], [5, 6, 7, 8, 9, 10, 11, 12, 13, 14, 15, 16, 17, 18, 19], [0, 1, 2, 3, 4, 5, 6, 7, 8, 9, 10, 11, 12, 13, 14, 15, 16, 17, 18, 19, 20]]) (by kernel_rfl) (by kernel_rfl) (by kernel_rfl) ?_
         refine DrawC.step rfl rfl rfl (Loc.of rfl fun σ' hs => R_move rfl (.no rfl) (hd_sup hs rfl) (.tm (hs.slots _ _ rfl))) ?_
         refine DrawC.step rfl rfl rfl (Loc.of rfl fun σ' hs => R_move rfl (.no rfl) (hd_sup hs rfl) (.tm (hs.slots _ _ rfl))) ?_
         refine DrawC.step rfl rfl rfl (Loc.of rfl fun σ' hs => (by exact R_indexAddr_rf rfl (.no rfl) (hd_sup hs rfl) (.tm (hs.slots _ _ rfl)) (hs.res _ _ rfl) (.tm (hs.slots _ _ rfl)) Tryz.underlying109 ty71 (fun _ => ⟨by omega, set_self (by simp [gridF_len]; exact hi)⟩))) ?_
         refine DrawC.step rfl rfl rfl (Loc.of rfl fun σ' hs => R_load_hdr (nid := 721) (hid := 722) rfl (.no rfl) (hd_sup hs rfl) (.tm (hs.slots _ _ rfl)) (hs.res _ _ rfl) (set_self (by simp [gridF_len]; exact hi)) ty71 rfl rfl rfl rfl (hs.res _ _ rfl) (hs.res _ _ rfl)) ?_
         refine DrawC.step rfl rfl rfl (Loc.of rfl fun σ' hs => R_move rfl (.no rfl) (hd_sup hs rfl) (.tm (hs.slots _ _ rfl))) ?_
         refine DrawC.step rfl rfl rfl (Loc.of rfl fun σ' hs => R_move rfl (.no rfl) (hd_sup hs rfl) (.tm (hs.slots _ _ rfl))) ?_
         refine DrawC.step rfl rfl rfl (Loc.of rfl fun σ' hs => R_move rfl (.no rfl) (hd_sup hs rfl) (.tm (hs.slots _ _ rfl))) ?_
         refine DrawC.step rfl rfl rfl (Loc.of rfl fun σ' hs => (by exact R_indexAddr_rf rfl (.no rfl) (hd_sup hs rfl) (.tm (hs.slots _ _ rfl)) (hs.res _ _ rfl) (.tm (hs.slots _ _ rfl)) Tryz.underlying109 ty71 (fun _ => ⟨by omega, set_self (by simp [gridF_len]; exact hi)⟩))) ?_
         refine DrawC.step rfl rfl rfl (Loc.of rfl fun σ' hs => R_load_hdr (nid := 721) (hid := 722) rfl (.no rfl) (hd_sup hs rfl) (.tm (hs.slots _ _ rfl)) (hs.res _ _ rfl) (set_self (by simp [gridF_len]; exact hi)) ty71 rfl rfl rfl rfl (hs.res _ _ rfl) (hs.res _ _ rfl)) ?_
         refine DrawC.step rfl rfl rfl (Loc.of rfl fun σ' hs => R_move rfl (.no rfl) (hd_sup hs rfl) (.tm (hs.slots _ _ rfl))) ?_
         refine DrawC.step rfl rfl rfl (Loc.of rfl fun σ' hs => (by exact R_indexAddr_rf rfl (.no rfl) (hd_sup hs rfl) (.tm (hs.slots _ _ rfl)) (hs.res _ _ rfl) (.tm (hs.slots _ _ rfl)) Tryz.underlying71 ty4 (fun _ => ⟨by omega, (by exact map_get (row_at hj))⟩))) ?_
         refine DrawC.step rfl rfl rfl (Loc.of rfl fun σ' hs => (by exact R_load_pr rfl (.no rfl) (hd_sup hs rfl) (.tm (hs.slots _ _ rfl)) (hs.res _ _ rfl) (by exact map_get (row_at hj)) ty4 rfl rfl)) ?_
         refine DrawC.step rfl rfl rfl (Loc.of rfl fun σ' hs => R_move rfl (.no rfl) (hd_sup hs rfl) (.tm (hs.slots _ _ rfl))) ?_
         refine DrawC.step rfl rfl rfl (Loc.of rfl fun σ' hs => R_move rfl (by exact .not1 rfl rfl (hs.slots _ _ rfl) (by rw [hs.n]; rfl)) (hd_sup hs rfl) (.tmp (hs.slots _ _ rfl) (by exact fun _ => rfl))) ?_
         refine DrawC.step rfl rfl rfl (Loc.of rfl fun σ' hs => R_move rfl (by exact .not1 rfl rfl (hs.slots _ _ rfl) (by rw [hs.n]; rfl)) (hd_sup hs rfl) (.tmp (hs.slots _ _ rfl) (by exact fun _ => rfl))) ?_
         refine DrawC.step rfl rfl rfl (Loc.of rfl fun σ' hs => (by exact R_indexAddr rfl (by exact .not1 rfl rfl (hs.slots _ _ rfl) (by rw [hs.n]; rfl)) (hd_sup hs rfl) (.tmp (hs.slots _ _ rfl) (by exact id)) (.tmp (hs.slots _ _ rfl) (by exact id)) Tryz.underlying109 ty71 (fun hq => by (try simp at hq); exact ⟨by omega, (by exact map_get (gridF_row (f := g) hk0))⟩))) ?_
         refine DrawC.step rfl rfl rfl (Loc.of rfl fun σ' hs => (by exact R_load rfl (by exact .not1 rfl rfl (hs.slots _ _ rfl) (by rw [hs.n]; rfl)) (hd_sup hs rfl) (.tmp (hs.slots _ _ rfl) (by exact id)) ty71 rfl rfl)) ?_
         refine DrawC.step rfl rfl rfl (Loc.of rfl fun σ' hs => R_move rfl (by exact .not1 rfl rfl (hs.slots _ _ rfl) (by rw [hs.n]; rfl)) (hd_sup hs rfl) (.tmp (hs.slots _ _ rfl) (by exact fun _ => rfl))) ?_
         refine DrawC.step rfl rfl rfl (Loc.of rfl fun σ' hs => (by exact R_indexAddr rfl (by exact .not1 rfl rfl (hs.slots _ _ rfl) (by rw [hs.n]; rfl)) (hd_sup hs rfl) (.tmp (hs.slots _ _ rfl) (by exact id)) (.tmp (hs.slots _ _ rfl) (by exact id)) Tryz.underlying71 ty4 (fun hq => by (try simp at hq); exact ⟨by omega, (by exact map_get (row_at hj))⟩))) ?_
         refine DrawC.step rfl rfl rfl (Loc.of rfl fun σ' hs => (by exact R_load rfl (by exact .not1 rfl rfl (hs.slots _ _ rfl) (by rw [hs.n]; rfl)) (hd_sup hs rfl) (.tmp (hs.slots _ _ rfl) (by exact id)) ty4 rfl rfl)) ?_
         refine DrawC.step rfl rfl rfl (Loc.of rfl fun σ' hs => R_or rfl (.no rfl) (hd_sup hs rfl) (.tm (hs.slots _ _ rfl)) (.tmp (hs.slots _ _ rfl) (by exact id))) ?_
         refine DrawC.step rfl rfl rfl (Loc.of rfl fun σ' hs => (by exact R_indexAddr_rf rfl (.no rfl) (hd_sup hs rfl) (.tm (hs.slots _ _ rfl)) (hs.res _ _ rfl) (.tm (hs.slots _ _ rfl)) Tryz.underlying71 ty4 (fun _ => ⟨by omega, (by exact map_get (row_at hj))⟩))) ?_
         refine DrawC.fin rfl rfl ?_
         refine AWl.absupd (R_store_pr rfl rfl rfl (.tm rfl) rfl (.tm rfl) rfl (map_get (row_at hj)) ty4 rfl rfl rfl rfl) ?_
         refine AWl.nil ?_
         refine AW.le (Le.putR (nid := 721) (hid := 722) (id := 1100) (i := i) (p := 0) rfl rfl rfl (set_self (by simp [gridF_len]; exact hi)) rfl rfl rfl rfl) ?_
         refine AW.le (σ' := ⟨_, [(0, _), (1, _), (4, _), (5, _), (6, _), (7, _), (8, _), (13, _), (14, _), (21, _), (22, _), (37, _), (38, _)], [(1100, _)]⟩) (Le.sub0 rfl ⟨rfl, rfl, rfl, rfl, rfl, rfl, rfl, rfl, rfl, rfl, rfl, rfl, rfl, trivial⟩ ⟨rfl, trivial⟩) ?_
         refine AW.region ?_
         refine AWl.put (R_add rfl (.no rfl) rfl (.tm rfl) (.const rfl) (fun _ => by omega)) rfl ?_
         refine AWl.mv rfl rfl rfl rfl rfl ?_
         refine AWl.nil ?_
         repeat (with_reducible refine BlockQ.nor ?_)
         refine Round1.next (j + 1) ⟨by omega, trivial⟩ (by omega) (Le.sub0 rfl ⟨rfl, rfl, rfl, rfl, rfl, rfl, rfl, rfl, rfl, rfl, rfl, rfl, trivial⟩ ⟨(by refine congrArg (fun r => some (R.row 1 r)) ?_; first | (rw [← tTo_step hf1]; exact grid_put) | (rw [hjn, tTo_nextk]) | (rw [tTo_skip hf0]) | (rw [hkn, tTo_nexti])), trivial⟩)
       · skip
         try simp at h39
         have hjn : j = n := (by omega)
         refine AW.exit ?_
         refine AW.region ?_
         refine AWl.put (R_add rfl (.no rfl) rfl (.tm rfl) (.const rfl) (fun _ => by omega)) rfl ?_
         refine AWl.mv rfl rfl rfl rfl rfl ?_
         refine AWl.nil ?_
         repeat (with_reducible refine BlockQ.nor ?_)
         refine Round1.next (k + 1) ⟨by omega, trivial⟩ (by omega) (Le.sub0 rfl ⟨rfl, rfl, rfl, rfl, rfl, rfl, rfl, rfl, rfl, trivial⟩ ⟨(by refine congrArg (fun r => some (R.row 1 r)) ?_; first | (rw [← tTo_step hf1]; exact grid_put) | (rw [hjn, tTo_nextk]) | (rw [tTo_skip hf0]) | (rw [hkn, tTo_nexti])), trivial⟩)
   · skip
     try simp at h23
     have hkn : k = n := (by omega)
     refine AW.exit ?_
     refine AW.region ?_
     refine AWl.put (R_add rfl (.no rfl) rfl (.tm rfl) (.const rfl) (fun _ => by omega)) rfl ?_
     refine AWl.mv rfl rfl rfl rfl rfl ?_
     refine AWl.nil ?_
     repeat (with_reducible refine BlockQ.nor ?_)
     refine Round1.next (i + 1) ⟨by omega, trivial⟩ (by omega) (Le.sub0 rfl ⟨rfl, rfl, rfl, rfl, rfl, rfl, trivial⟩ ⟨(by refine congrArg (fun r => some (R.row 1 r)) ?_; first | (rw [← tTo_step hf1]; exact grid_put) | (rw [hjn, tTo_nextk]) | (rw [tTo_skip hf0]) | (rw [hkn, tTo_nexti])), trivial⟩)
 · skip
   try simp at h15
   refine AW.exit ?_
   refine AW.sr ?_
   refine AWl.mv rfl rfl rfl rfl rfl ?_
   refine AWl.av rfl rfl rfl rfl rfl ?_
   refine AWl.nil (AW.ret ?_)
   refine Res.one rfl (.tmp rfl .nil) rfl ?_
   rw [show i = n by first | omega | (simp [gridF_len] at h15; omega), tTo_end]; rfl
end Go.Proofs.YtbkhopfpejhnlaaGreat
