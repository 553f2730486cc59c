import Derived.Test.YtoealglkenhphaaGreatB108xc
import Derived.Test.YtoealglkenhphaaGreatB79xc
import Derived.Test.YtoealglkenhphaaGreatHLiftxc
import Derived.Test.YtoealglkenhphaaGreatFrzxc
set_option linter.unusedVariables false
set_option linter.unusedSimpArgs false
set_option maxHeartbeats 1000000
set_option maxRecDepth 100000
namespace Go.Q
open Go.RowKit Go.D
theorem rows_at (l : List (List Int)) (m : List Nat) (hm : ∀ i ∈ m, i < l.length) : (m.map fun i => [(l.map fun r => T.sl 1 (r.map cInt)).getD i (.v undef)]) = (m.map fun i => l.getD i []).map cIntS := by
 rw [List.map_map]
 refine List.map_congr_left fun i hi => ?_
 have hil := hm i hi
 rw [List.getD_eq_getElem?_getD, List.getElem?_map, List.getElem?_eq_getElem hil]
 show _ = cIntS (l.getD i [])
 rw [List.getD_eq_getElem?_getD, List.getElem?_eq_getElem hil]
 rfl
theorem range_at (l : List (List Int)) : ((List.range l.length).map fun i => l.getD i []) = l := by
 apply List.ext_getElem?
 intro i
 by_cases hi : i < l.length
 · rw [List.getElem?_map, List.getElem?_range hi, Option.map_some, List.getD_eq_getElem?_getD, List.getElem?_eq_getElem hi]; rfl
 · rw [List.getElem?_eq_none (by simp; omega), List.getElem?_eq_none (by omega)]
def oneMore (n : Nat) (b : List Int) : List (List Int) := (List.range n).map fun v => b ++ [((v : Nat) : Int)]
def moreL (n : Nat) (l : List (List Int)) : List (List Int) := l.flatMap (oneMore n)
theorem oneMore_len (n : Nat) (b : List Int) : (oneMore n b).length = n := by simp [oneMore]
theorem moreL_len (n : Nat) : ∀ l : List (List Int), (moreL n l).length = l.length * n
 | [] => by simp [moreL]
 | x :: l => by
  have ih := moreL_len n l
  unfold moreL at *
  rw [List.flatMap_cons, List.length_append, ih, oneMore_len, List.length_cons, Nat.succ_mul]; omega
theorem words_few {n m : Nat} (hn : n ≤ 5) (hm : m ≤ 4) : (wordsN n m).length ≤ 625 := by
 rw [wordsN_count]
 have h1 : n ^ m ≤ 5 ^ m := Nat.pow_le_pow_left hn m
 have h2 : 5 ^ m ≤ 5 ^ 4 := Nat.pow_le_pow_right (by omega) hm
 omega
end Go.Q
namespace Go.Proofs.YtoealglkenhphaaGreat
open Go.RowKit Go.Q Go.D
theorem IndexFuncRows (l : List Nat) (hd : Nat → Value) (K : List (Nat × Obj)) (f : FuncId) (caps : List T) (p : Nat → Bool) (hp : ∀ x ∈ l, FrTk Tryz.prog f K ([.one (.v (hd x))] ++ caps.map .one) (.a (.one (.v (.bool (p x)))))) (hz : l.length ≤ 1099511627776) : FrTk Tryz.prog 149 K [.one (.sl 1 (l.map (cH hd))), .one (.fn (.func f) [] caps)] (.a (.one (.v (.int .i64 (findI p l 0))))) := by
 refine FrTk.ofC ?_
 refine FnCk.walk Tryz.func149 rfl (by kernel_rfl) Tryz.ntmps149 rfl (by rfl) fun w0 => ?_
 refine AW.le (σ' := ⟨_, [(0, _), (1, _)], [(999999, _)]⟩) (Le.sub0 rfl ⟨rfl, rfl, trivial⟩ ⟨rfl, trivial⟩) ?_
 try simp [cPair, cToken, cExpr, cEdge, cGraph, cStep, cWalk, cChange, cBatch, cHistory, cPositions, cAutomaton, cProductStep, cPathAtom, cConjunction, cView, cDelta, cRegistered, cRegistry] at hlen
 have hlen : True := trivial
 refine AW.seq ?_
 refine AW.region ?_
 refine AWl.put (R_assign rfl (.no rfl) rfl (.const rfl)) rfl ?_
 refine AWl.nil (AW.seq ?_)
 refine AW.seq ?_
 refine AW.region ?_
 refine AWl.put (R_move rfl (.no rfl) rfl (.tmp rfl fun _ => rfl)) rfl ?_
 refine AWl.put (by exact R_lenm rfl (.no rfl) rfl (.tmp rfl fun _ => rfl) (by exact .t) Tryz.underlying27) rfl ?_
 refine AWl.put (R_move rfl (.no rfl) rfl (.const rfl)) rfl ?_
 refine AWl.nil (AW.block ?_)
 refine AW.loop1 (fun (k : Nat) => (k ≤ l.length ∧ ∀ j y, j < k → l[j]? = some y → (!p y) = true) ∧ True) (fun (k : Nat) => ⟨_, [(8, (true, .a (.one (.t (.v (.int .i64 (k : Nat))))))), (0, _), (1, _), (7, _)], [(999999, .kept K)]⟩) (fun (k : Nat) => l.length - k) (0) ⟨⟨Nat.zero_le _, fun j y hj => absurd hj (Nat.not_lt_zero j)⟩, trivial⟩ (Le.sub0 rfl ⟨rfl, rfl, rfl, rfl, trivial⟩ ⟨rfl, trivial⟩) ?_
 rintro k ⟨hk, he⟩
 refine AW.seq ?_
 refine AW.region ?_
 refine AWl.put (R_lt rfl (.no rfl) rfl (.tmp rfl fun _ => rfl) (.tmp rfl fun _ => rfl)) rfl ?_
 refine AWl.nil (AW.seq ?_)
 refine AW.cond (.tmp rfl fun _ => rfl) (fun h9 => ?_) (fun h9 => ?_)
 · skip
   try simp at h9
   obtain ⟨x, hx⟩ : ∃ ξ, l[k]? = some ξ := ⟨_, List.getElem?_eq_getElem (by omega)⟩
   refine AW.skip ?_
   refine AW.seq ?_
   refine AW.block ?_
   refine AW.seq ?_
   refine AW.region ?_
   refine AWl.put (R_move rfl (.no rfl) rfl (.tmp rfl fun _ => rfl)) rfl ?_
   refine AWl.put (R_assign rfl (.no rfl) rfl (.tmp rfl fun _ => rfl)) rfl ?_
   refine AWl.nil (AW.seq ?_)
   refine AW.region ?_
   refine AWl.put (R_move rfl (.no rfl) rfl (.tmp rfl fun _ => rfl)) rfl ?_
   refine AWl.put (R_move rfl (.no rfl) rfl (.tmp rfl fun _ => rfl)) rfl ?_
   refine AWl.put (R_move rfl (.no rfl) rfl (.tmp rfl fun _ => rfl)) rfl ?_
   refine AWl.put (by exact R_indexAddr rfl (.no rfl) rfl (.tmp rfl fun _ => rfl) (.tmp rfl fun _ => rfl) Tryz.underlying27 ty22 (fun _ => ⟨by omega, (map_get hx)⟩)) rfl ?_
   refine AWl.put (by exact R_load rfl (.no rfl) rfl (.tmp rfl fun _ => rfl) ty22 rfl rfl) rfl ?_
   refine AWl.put (R_callvk rfl (.no rfl) rfl (.tmp rfl fun _ => rfl) (.cons (.tmp rfl fun _ => rfl) rfl .nil) rfl (hp x (List.mem_of_getElem? hx))) rfl ?_
   refine AWl.nil ?_
   refine AW.cond (.tmp rfl fun _ => rfl) (fun h16 => ?_) (fun h16 => ?_)
   · skip
     try simp at h16
     refine AW.seq ?_
     refine AW.le (σ' := ⟨_, [(0, _), (1, _), (5, _), (7, _), (8, _)], [(999999, _)]⟩) (Le.sub0 rfl ⟨rfl, rfl, rfl, rfl, rfl, trivial⟩ ⟨rfl, trivial⟩) ?_
     refine AW.region ?_
     refine AWl.put (R_move rfl (.no rfl) rfl (.tmp rfl fun _ => rfl)) rfl ?_
     refine AWl.put (R_assign rfl (.no rfl) rfl (.tmp rfl fun _ => rfl)) rfl ?_
     refine AWl.nil (AW.ret ?_)
     refine Res.one rfl (.tmp rfl .nil) rfl ?_
     rw [findI_at (k := k) hk.2 hx h16]; simp; rfl
   · skip
     try simp at h16
     refine AW.skip ?_
     refine AW.le (σ' := ⟨_, [(0, _), (1, _), (5, _), (7, _), (8, _)], [(999999, _)]⟩) (Le.sub0 rfl ⟨rfl, rfl, rfl, rfl, rfl, trivial⟩ ⟨rfl, trivial⟩) ?_
     refine AW.region ?_
     refine AWl.put (R_add rfl (.no rfl) rfl (.tmp rfl fun _ => rfl) (.const rfl) (fun _ => by omega)) rfl ?_
     refine AWl.put (R_move rfl (.no rfl) rfl (.tmp rfl fun _ => rfl)) rfl ?_
     refine AWl.nil ?_
     repeat (with_reducible refine BlockQ.nor ?_)
     refine Round1.next (k + 1) ⟨⟨by omega, each_succ hk.2 hx (by simp [h16])⟩, trivial⟩ (by omega) (Le.sub0 rfl ⟨rfl, rfl, rfl, rfl, trivial⟩ ⟨(by rfl), trivial⟩)
 · skip
   try simp at h9
   refine AW.exit ?_
   refine AW.seq ?_
   refine AW.region ?_
   refine AWl.put (R_assign rfl (.no rfl) rfl (.const rfl)) rfl ?_
   refine AWl.nil (AW.ret ?_)
   refine Res.one rfl (.tmp rfl .nil) rfl ?_
   rw [findI_none hk.2 (by omega)]; rfl
theorem DeleteFuncRows (l : List Nat) (hd : Nat → Value) (K : List (Nat × Obj)) (f : FuncId) (caps : List T) (p : Nat → Bool) (hp : ∀ x ∈ l, FrTk Tryz.prog f K ([.one (.v (hd x))] ++ caps.map .one) (.a (.one (.v (.bool (p x)))))) (hz : l.length ≤ 1099511627776) : FnCk Tryz.prog 88 K ((true, .one (.sl 1 (l.map (cH hd)))) :: rdAll [.one (.fn (.func f) [] caps)]) (.a (.one (.sl 1 ((l.filter fun x => !p x).map (cH hd))))) := by
 refine FnCk.walk Tryz.func88 rfl (by kernel_rfl) Tryz.ntmps88 rfl (by rfl) fun w0 => ?_
 refine AW.le (σ' := ⟨_, [(0, _), (1, _)], [(1000, _), (999999, _)]⟩) (Le.sub0 rfl ⟨rfl, rfl, trivial⟩ ⟨rfl, rfl, trivial⟩) ?_
 try simp [cPair, cToken, cExpr, cEdge, cGraph, cStep, cWalk, cChange, cBatch, cHistory, cPositions, cAutomaton, cProductStep, cPathAtom, cConjunction, cView, cDelta, cRegistered, cRegistry] at hlen
 have hlen : True := trivial
 have hfi := findI_spec p l 0
 have hfl := findI_lt (p := p) (l := l) (m := 0)
 refine AW.seq ?_
 refine AW.region ?_
 refine AWl.put (R_assign rfl (.no rfl) rfl (.const rfl)) rfl ?_
 refine AWl.nilS (i := 4) 20001 1 rfl rfl ?_
 refine AWl.nil (AW.seq ?_)
 refine AW.region ?_
 refine AWl.put (R_move rfl (.no rfl) rfl (.tmp rfl fun _ => rfl)) rfl ?_
 refine AWl.put (R_move rfl (.no rfl) rfl (.tmp rfl fun _ => rfl)) rfl ?_
 refine AWl.put (R_callk (IndexFuncRows l hd K f caps p hp hz) rfl rfl (.no rfl) rfl (.cons (.tmp rfl fun _ => rfl) rfl (.cons (.tmp rfl fun _ => rfl) rfl .nil))) rfl ?_
 refine AWl.put (R_assign rfl (.no rfl) rfl (.tmp rfl fun _ => rfl)) rfl ?_
 refine AWl.nil (AW.seq ?_)
 refine AW.seq ?_
 refine AW.region ?_
 refine AWl.put (R_move rfl (.no rfl) rfl (.tmp rfl fun _ => rfl)) rfl ?_
 refine AWl.put (R_eq rfl (.no rfl) rfl (.tmp rfl fun _ => rfl) (.const rfl)) rfl ?_
 refine AWl.nil ?_
 refine AW.cond (.tmp rfl fun _ => rfl) (fun h12 => ?_) (fun h12 => ?_)
 · skip
   simp only [decide_eq_true_eq, decide_eq_false_iff_not] at h12
   have hno : ∀ x ∈ l, p x = false := by (rcases hfi with h | ⟨k, x, h1, h2, h3, h4⟩; exact h.2; omega)
   refine AW.seq ?_
   refine AW.region ?_
   refine AWl.put (R_move rfl (.no rfl) rfl (.tmp rfl fun _ => rfl)) rfl ?_
   refine AWl.put (R_assign rfl (.no rfl) rfl (.tmp rfl fun _ => rfl)) rfl ?_
   refine AWl.nil (AW.ret ?_)
   refine Res.one rfl (.tmp rfl .nil) rfl ?_
   rw [filter_none hno]; rfl
 · skip
   simp only [decide_eq_true_eq, decide_eq_false_iff_not] at h12
   obtain ⟨i0, x0, h1, h2, h3, h4⟩ := hfi.resolve_left fun h => h12 h.1
   rw [Nat.zero_add] at h3
   rw [h3]
   have hi0 := (List.getElem?_eq_some_iff.1 h1).1
   have hs0 : l.take i0 = (l.take (i0 + 1)).filter fun x => !p x := by (rw [filter_take h1, filter_none h4, h2]; simp)
   refine AW.skip ?_
   refine AW.seq ?_
   refine AW.seq ?_
   refine AW.region ?_
   refine AWl.put (R_move rfl (.no rfl) rfl (.tmp rfl fun _ => rfl)) rfl ?_
   refine AWl.put (R_add rfl (.no rfl) rfl (.tmp rfl fun _ => rfl) (.const rfl) (fun _ => by omega)) rfl ?_
   refine AWl.put (R_assign rfl (.no rfl) rfl (.tmp rfl fun _ => rfl)) rfl ?_
   refine AWl.nil (AW.block ?_)
   refine AW.loop3 (fun (j : Nat) (i : Nat) (Rr : List Nat) => ((i + 1 ≤ j ∧ j ≤ l.length ∧ Rr.length = l.length)) ∧ Rr.drop j = l.drop j ∧ Rr.take i = (l.take j).filter fun x => !p x) (fun (j : Nat) (i : Nat) (Rr : List Nat) => ⟨_, [(6, (true, .a (.one (.t (.v (.int .i64 (j : Nat))))))), (5, (true, .a (.one (.t (.v (.int .i64 (i : Nat))))))), (0, _), (1, _), (4, _)], [(1000, .row 1 (Rr.map (cH hd))), (999999, .kept K)]⟩) (fun (j : Nat) (i : Nat) (Rr : List Nat) => l.length - j) (i0 + 1) (i0) (l) ⟨⟨Nat.le_refl _, by omega, rfl⟩, rfl, hs0⟩ (Le.sub0 rfl ⟨rfl, rfl, rfl, rfl, rfl, trivial⟩ ⟨rfl, rfl, trivial⟩) ?_
   rintro j i Rr ⟨hk, he⟩
   refine AW.seq ?_
   refine AW.seq ?_
   refine AW.region ?_
   refine AWl.put (R_move rfl (.no rfl) rfl (.tmp rfl fun _ => rfl)) rfl ?_
   refine AWl.put (R_move rfl (.no rfl) rfl (.tmp rfl fun _ => rfl)) rfl ?_
   refine AWl.put (by exact R_lenm rfl (.no rfl) rfl (.tmp rfl fun _ => rfl) (by exact .rf rfl) Tryz.underlying27) rfl ?_
   refine AWl.put (R_lt rfl (.no rfl) rfl (.tmp rfl fun _ => rfl) (.tmp rfl fun _ => rfl)) rfl ?_
   refine AWl.nil ?_
   refine AW.cond (.tmp rfl fun _ => rfl) (fun h19 => ?_) (fun h19 => ?_)
   · skip
     try simp at h19
     obtain ⟨x, hx⟩ : ∃ ξ, l[j]? = some ξ := ⟨_, List.getElem?_eq_getElem (by omega)⟩
     have hxR : Rr[j]? = some x := by (rw [drop_get he.1 (by omega)]; exact hx)
     obtain ⟨r1, hr1⟩ : ∃ ξ, Rr[i]? = some ξ := ⟨_, List.getElem?_eq_getElem (by omega)⟩
     refine AW.skip ?_
     refine AW.seq ?_
     refine AW.block ?_
     refine AW.seq ?_
     refine AW.region ?_
     refine AWl.put (R_move rfl (.no rfl) rfl (.tmp rfl fun _ => rfl)) rfl ?_
     refine AWl.put (R_move rfl (.no rfl) rfl (.tmp rfl fun _ => rfl)) rfl ?_
     refine AWl.put (by exact R_indexAddr_rf rfl (.no rfl) rfl (.tmp rfl fun _ => rfl) rfl (.tmp rfl fun _ => rfl) Tryz.underlying27 ty22 (fun _ => ⟨by omega, (map_get hxR)⟩)) rfl ?_
     refine AWl.put (by exact R_load_pr rfl (.no rfl) rfl (.tmp rfl fun _ => rfl) rfl (map_get hxR) ty22 rfl rfl) rfl ?_
     refine AWl.put (R_assign rfl (.no rfl) rfl (.tmp rfl fun _ => rfl)) rfl ?_
     refine AWl.nil (AW.seq ?_)
     refine AW.le (σ' := ⟨_, [(0, _), (1, _), (4, _), (5, _), (6, _), (7, _)], [(1000, _), (999999, _)]⟩) (Le.sub0 rfl ⟨rfl, rfl, rfl, rfl, rfl, rfl, trivial⟩ ⟨rfl, rfl, trivial⟩) ?_
     refine AW.region ?_
     refine AWl.put (R_move rfl (.no rfl) rfl (.tmp rfl fun _ => rfl)) rfl ?_
     refine AWl.put (R_move rfl (.no rfl) rfl (.tmp rfl fun _ => rfl)) rfl ?_
     refine AWl.put (R_callvk rfl (.no rfl) rfl (.tmp rfl fun _ => rfl) (.cons (.tmp rfl fun _ => rfl) rfl .nil) rfl (hp x (List.mem_of_getElem? hx))) rfl ?_
     refine AWl.put (R_not rfl (.no rfl) rfl (.tmp rfl fun _ => rfl)) rfl ?_
     refine AWl.nil ?_
     refine AW.cond (.tmp rfl fun _ => rfl) (fun h29 => ?_) (fun h29 => ?_)
     · skip
       try simp at h29
       refine AW.seq ?_
       refine AW.region ?_
       refine AWl.put (R_move rfl (.no rfl) rfl (.tmp rfl fun _ => rfl)) rfl ?_
       refine AWl.put (R_move rfl (.no rfl) rfl (.tmp rfl fun _ => rfl)) rfl ?_
       refine AWl.put (R_move rfl (.no rfl) rfl (.tmp rfl fun _ => rfl)) rfl ?_
       refine AWl.put (by exact R_indexAddr_rf rfl (.no rfl) rfl (.tmp rfl fun _ => rfl) rfl (.tmp rfl fun _ => rfl) Tryz.underlying27 ty22 (fun _ => ⟨by omega, map_get hr1⟩)) rfl ?_
       refine AWl.absupd (R_store_pr rfl rfl rfl (.tmp rfl fun _ => rfl) rfl (.tmp rfl fun _ => rfl) rfl (map_get hr1) ty22 rfl rfl rfl rfl) ?_
       refine AWl.nil ?_
       refine AW.le (σ' := ⟨_, [(0, _), (1, _), (4, _), (5, _), (6, _), (7, _)], [(1000, _), (999999, _)]⟩) (Le.sub0 rfl ⟨rfl, rfl, rfl, rfl, rfl, rfl, trivial⟩ ⟨rfl, rfl, trivial⟩) ?_
       refine AW.region ?_
       refine AWl.put (R_move rfl (.no rfl) rfl (.tmp rfl fun _ => rfl)) rfl ?_
       refine AWl.put (R_add rfl (.no rfl) rfl (.tmp rfl fun _ => rfl) (.const rfl) (fun _ => by omega)) rfl ?_
       refine AWl.put (R_assign rfl (.no rfl) rfl (.tmp rfl fun _ => rfl)) rfl ?_
       refine AWl.nil (AW.region ?_)
       refine AWl.put (R_move rfl (.no rfl) rfl (.tmp rfl fun _ => rfl)) rfl ?_
       refine AWl.put (R_add rfl (.no rfl) rfl (.tmp rfl fun _ => rfl) (.const rfl) (fun _ => by omega)) rfl ?_
       refine AWl.put (R_assign rfl (.no rfl) rfl (.tmp rfl fun _ => rfl)) rfl ?_
       refine AWl.nil ?_
       repeat (with_reducible refine BlockQ.nor ?_)
       refine Round3.next (j + 1) (i + 1) (Rr.set i x) ⟨⟨by omega, by omega, by simp; omega⟩, by rw [set_drop (by omega)]; exact drop_more he.1 (by omega), by rw [set_take (by omega), he.2, filter_take hx, h29]; rfl⟩ (by omega) (Le.sub0 rfl ⟨rfl, rfl, rfl, rfl, rfl, trivial⟩ ⟨(by refine congrArg (fun r => some (R.row _ r)) ?_; first | (rw [List.map_set]; rfl) | rfl | (simp; done)), (by rfl), trivial⟩)
     · skip
       try simp at h29
       refine AW.skip ?_
       refine AW.region ?_
       refine AWl.put (R_move rfl (.no rfl) rfl (.tmp rfl fun _ => rfl)) rfl ?_
       refine AWl.put (R_add rfl (.no rfl) rfl (.tmp rfl fun _ => rfl) (.const rfl) (fun _ => by omega)) rfl ?_
       refine AWl.put (R_assign rfl (.no rfl) rfl (.tmp rfl fun _ => rfl)) rfl ?_
       refine AWl.nil ?_
       repeat (with_reducible refine BlockQ.nor ?_)
       refine Round3.next (j + 1) (i) (Rr) ⟨⟨by omega, by omega, hk.2.2⟩, drop_more he.1 (by omega), by rw [he.2, filter_take hx, h29]; simp⟩ (by omega) (Le.sub0 rfl ⟨rfl, rfl, rfl, rfl, rfl, trivial⟩ ⟨(by refine congrArg (fun r => some (R.row _ r)) ?_; first | (rw [List.map_set]; rfl) | rfl | (simp; done)), (by rfl), trivial⟩)
   · skip
     try simp at h19
     refine AW.exit ?_
     refine AW.seq ?_
     refine AW.region ?_
     refine AWl.put (R_move rfl (.no rfl) rfl (.tmp rfl fun _ => rfl)) rfl ?_
     refine AWl.put (R_move rfl (.no rfl) rfl (.tmp rfl fun _ => rfl)) rfl ?_
     refine AWl.put ((by exact R_slice_rf (m := i) rfl (.no rfl) rfl (.tmp rfl fun _ => rfl) rfl (.yes (.tmp rfl fun _ => rfl) (fun _ => by first | rfl | omega | (simp <;> omega))) Tryz.underlying27 ty22 (fun _ => by simp; omega))) rfl ?_
     refine AWl.absupd (R_clear rfl rfl rfl (.tmp rfl fun _ => rfl) rfl Tryz.underlying27 in22 rfl rfl) ?_
     refine AWl.nil (AW.seq ?_)
     refine AW.le (σ' := ⟨_, [(0, _), (1, _), (4, _), (5, _), (6, _)], [(1000, _), (999999, _)]⟩) (Le.sub0 rfl ⟨rfl, rfl, rfl, rfl, rfl, trivial⟩ ⟨rfl, rfl, trivial⟩) ?_
     refine AW.region ?_
     refine AWl.put (R_move rfl (.no rfl) rfl (.tmp rfl fun _ => rfl)) rfl ?_
     refine AWl.put (R_move rfl (.no rfl) rfl (.tmp rfl fun _ => rfl)) rfl ?_
     refine AWl.chgput (R_cut (m := i) rfl rfl rfl (.tmp rfl fun _ => rfl) rfl (.yes (.tmp rfl fun _ => rfl) (fun _ => by first | rfl | omega | (simp <;> omega))) Tryz.underlying27 ty22 (by simp; omega)) rfl ?_
     refine AWl.le (σ' := ⟨_, [(0, _), (1, _), (4, _), (5, _), (6, _), (41, _)], [(1000, _), (999999, _)]⟩) (Le.sub0 rfl ⟨rfl, rfl, rfl, rfl, rfl, rfl, trivial⟩ ⟨rfl, rfl, trivial⟩) ?_
     refine AWl.put (R_assign rfl (.no rfl) rfl (.tmp rfl fun _ => rfl)) rfl ?_
     refine AWl.nil (AW.ret ?_)
     refine Res.one rfl (.tmp rfl .nil) rfl ?_
     refine congrArg (fun r => [V0.one (T.sl 1 r)]) ?_; exact cut_rows (by rw [he.2, List.take_of_length_le (by omega)]) (by omega)
theorem deleteRows (rows : List (List Int)) (f : FuncId) (caps : List T) (p : List Int → Bool) (hp : ∀ r ∈ rows, FrT Tryz.prog f ([.one (.sl 1 (r.map cInt))] ++ caps.map .one) (.a (.one (.v (.bool (p r)))))) (hz : rows.length ≤ 1099511627776) : FnC Tryz.prog 88 [(true, .one (.sl 1 (rows.map cIntS))), (false, .one (.fn (.func f) [] caps))] (.a (.one (.sl 1 ((rows.filter fun r => !p r).map cIntS)))) := by
 have hcl : Go.Q.Callee Tryz.prog 88 := ⟨_, rfl, by kernel_rfl, rfl⟩
 let q : Nat → Bool := fun i => !p (rows.getD i [])
 have hsub : ((List.range rows.length).filter q).Sublist (List.range rows.length) := List.filter_sublist
 have hlt : ∀ i ∈ (List.range rows.length).filter q, i < rows.length := fun i hi => List.mem_range.1 (hsub.subset hi)
 have h := FnC.lift (ts := rows.map fun r => T.sl 1 (r.map cInt)) (L := (List.range rows.length).filter q) (rest := [.one (.fn (.func f) [] caps)]) hcl (hsub.nodup List.nodup_range) (by simpa using hlt)
  fun hd K hK => by
   rw [List.length_map]
   exact DeleteFuncRows (List.range rows.length) hd K f caps (fun i => p (rows.getD i [])) (fun x hx => by
    have hxl := List.mem_range.1 hx
    have hg : rows[x]? = some (rows.getD x []) := by rw [List.getD_eq_getElem?_getD, List.getElem?_eq_getElem hxl]; rfl
    exact FrTk.of1 (hp _ (List.mem_of_getElem? hg)) (hK x _ (by rw [List.getElem?_map, hg]; rfl))) (by simpa using hz)
 have e1 : ((rows.map fun r => T.sl 1 (r.map cInt)).map fun t => [t]) = rows.map cIntS := by rw [List.map_map]; rfl
 rw [e1, rows_at rows _ hlt] at h
 have e2 : (((List.range rows.length).filter q).map fun i => rows.getD i []) = rows.filter fun r => !p r := by
  conv => rhs; rw [← range_at rows, List.filter_map]
  rfl
 rw [e2] at h
 exact h
theorem implevaluate1 (g : TGraph) (q : TConjunction) (b : List Int) (hv : validConj q = true) (hbl : (b.length : Int) = q.VariableCount) : FnT Tryz.prog 89 [.one (.sl 1 (b.map cInt)), .one (.ad (cConjunction q)), .one (.ad [.sl 1 ((relsV g q).map cPairS)])] (.a (.one (.v (.bool (!q.Atoms.all (bindOk g b)))))) := by
 refine FnT.walk Tryz.func89 rfl (by kernel_rfl) Tryz.ntmps89 rfl fun hlen w0 => ?_
 try simp [cPair, cToken, cExpr, cEdge, cGraph, cStep, cWalk, cChange, cBatch, cHistory, cPositions, cAutomaton, cProductStep, cPathAtom, cConjunction, cView, cDelta, cRegistered, cRegistry] at hlen
 refine AW.seq ?_
 refine AW.region ?_
 refine AWl.put (R_assign rfl (.no rfl) rfl (.const rfl)) rfl ?_
 refine AWl.nil (AW.seq ?_)
 refine AW.region ?_
 refine AWl.put (by exact R_load rfl (.no rfl) rfl (.tmp rfl fun _ => rfl) ty87 rfl rfl) rfl ?_
 refine AWl.put (by exact R_load rfl (.no rfl) rfl (.tmp rfl fun _ => rfl) ty125 rfl rfl) rfl ?_
 refine AWl.put (R_move rfl (.no rfl) rfl (.tmp rfl fun _ => rfl)) rfl ?_
 refine AWl.put (R_callz (FnT.fr (implbinds g q b hv hbl)) rfl (.no rfl) rfl (.cons (.tmp rfl fun _ => rfl) rfl (.cons (.tmp rfl fun _ => rfl) rfl (.cons (.tmp rfl fun _ => rfl) rfl .nil)))) rfl ?_
 refine AWl.put (R_not rfl (.no rfl) rfl (.tmp rfl fun _ => rfl)) rfl ?_
 refine AWl.put (R_assign rfl (.no rfl) rfl (.tmp rfl fun _ => rfl)) rfl ?_
 refine AWl.nil (AW.ret ?_)
 refine Res.one rfl (.tmp rfl .nil) rfl ?_
 rfl
theorem implEvaluateConjunction (g : TGraph) (q : TConjunction) (hz : q.Atoms.length ≤ 1048576) : FnT Tryz.prog 37 [.agg (cGraph g), .agg (cConjunction q)] (.a (.one (.sl 1 ((evalC g q).map cIntS)))) := by
 refine FnT.walk Tryz.func37 rfl (by kernel_rfl) Tryz.ntmps37 rfl fun hlen w0 => ?_
 try simp [cPair, cToken, cExpr, cEdge, cGraph, cStep, cWalk, cChange, cBatch, cHistory, cPositions, cAutomaton, cProductStep, cPathAtom, cConjunction, cView, cDelta, cRegistered, cRegistry] at hlen
 refine AW.seq ?_
 refine AW.region ?_
 refine AWl.put (R_boxz rfl rfl rfl (.tmp rfl fun _ => rfl) (ts := _) (by rfl)) rfl ?_
 refine AWl.put (R_boxz rfl rfl rfl (.tmp rfl fun _ => rfl) (ts := _) (by rfl)) rfl ?_
 refine AWl.put (R_assign rfl (.no rfl) rfl (.const rfl)) rfl ?_
 refine AWl.nilS (i := 4) 20001 1 rfl rfl ?_
 refine AWl.nil (AW.seq ?_)
 refine AW.seq ?_
 refine AW.region ?_
 refine AWl.put (by exact R_load rfl (.no rfl) rfl (.tmp rfl fun _ => rfl) ty43 rfl rfl) rfl ?_
 refine AWl.put (R_callz (FnT.fr (implIsValidGraph g)) rfl (.no rfl) rfl (.cons (.tmp rfl fun _ => rfl) rfl .nil)) rfl ?_
 refine AWl.put (R_not rfl (.no rfl) rfl (.tmp rfl fun _ => rfl)) rfl ?_
 refine AWl.put (R_move rfl (.no rfl) rfl (.tmp rfl fun _ => rfl)) rfl ?_
 refine AWl.put (by exact R_load rfl (by exact .not1 rfl rfl rfl rfl) rfl (.tmp rfl (by exact fun _ => rfl)) ty87 rfl rfl) rfl ?_
 refine AWl.put (R_callz (FnT.fr (implIsValidConjunction q)) rfl (by exact .not1 rfl rfl rfl rfl) rfl (.cons (.tmp rfl (by exact id)) rfl .nil)) rfl ?_
 refine AWl.put (R_not rfl (by exact .not1 rfl rfl rfl rfl) rfl (.tmp rfl (by exact id))) rfl ?_
 refine AWl.put (R_or rfl (.no rfl) rfl (.tmp rfl fun _ => rfl) (.tmp rfl (by exact id))) rfl ?_
 refine AWl.nil ?_
 refine AW.cond (.tmp rfl fun _ => rfl) (fun h19 => ?_) (fun h19 => ?_)
 · skip
   try simp at h19
   have hno : evalC g q = [] := by (unfold evalC; rw [if_neg (by intro h; simp only [Bool.and_eq_true] at h; simp [h.1, h.2] at h19)])
   refine AW.seq ?_
   refine AW.le (σ' := ⟨_, [(0, _), (1, _), (2, _), (3, _), (4, _)], [(20001, _)]⟩) (Le.sub0 rfl ⟨rfl, rfl, rfl, rfl, rfl, trivial⟩ ⟨rfl, trivial⟩) ?_
   refine AW.region ?_
   refine AWl.put (R_assign rfl (.no rfl) rfl (.const rfl)) rfl ?_
   refine AWl.nilS (i := 4) 20002 1 rfl rfl ?_
   refine AWl.nil (AW.ret ?_)
   refine Res.one rfl (.tmp rfl .nil) rfl ?_
   rw [hno]; rfl
 · skip
   try simp at h19
   have hg : validG g = true := by (first | exact h19.1 | (simp at h19; exact h19.1))
   have hv : validConj q = true := by (first | exact h19.2 | (simp at h19; exact h19.2))
   have hG := validG_len hg
   have hvt := conj_atoms hv
   have hVn : q.VariableCount.toNat ≤ 4 := (by omega)
   refine AW.skip ?_
   refine AW.seq ?_
   refine AW.le (σ' := ⟨_, [(0, _), (1, _), (2, _), (3, _), (4, _)], [(20001, _)]⟩) (Le.sub0 rfl ⟨rfl, rfl, rfl, rfl, rfl, trivial⟩ ⟨rfl, trivial⟩) ?_
   refine AW.region ?_
   refine AWl.put (by exact R_load rfl (.no rfl) rfl (.tmp rfl fun _ => rfl) ty43 rfl rfl) rfl ?_
   refine AWl.put (by exact R_load rfl (.no rfl) rfl (.tmp rfl fun _ => rfl) ty87 rfl rfl) rfl ?_
   refine AWl.put (R_callz (FnT.fr (implrelations g q hz)) rfl (.no rfl) rfl (.cons (.tmp rfl fun _ => rfl) rfl (.cons (.tmp rfl fun _ => rfl) rfl .nil))) rfl ?_
   refine AWl.add (R_alloc 5 rfl rfl rfl in125 rfl rfl rfl) rfl ?_
   refine AWl.nilB (b := 5) 20003 1 0 rfl rfl rfl ?_
   refine AWl.chgb (R_store_pb rfl rfl rfl (.tmp rfl fun _ => rfl) (.tmp rfl fun _ => rfl) rfl ty125 rfl rfl rfl (by kernel_rfl) rfl) ?_
   refine AWl.nil (AW.seq ?_)
   refine AW.region ?_
   refine AWl.add (R_empty 23 rfl rfl rfl Tryz.underlying22 ty3 rfl) rfl ?_
   refine AWl.absadd (R_list (xs := [.tmp 23]) 24 rfl rfl rfl (.cons (.tmp rfl fun _ => rfl) rfl rfl .nil) Tryz.underlying27 in22 rfl rfl rfl rfl) rfl ?_
   refine AWl.put (R_assign rfl (.no rfl) rfl (.tmp rfl fun _ => rfl)) rfl ?_
   refine AWl.nil (AW.seq ?_)
   refine AW.seq ?_
   refine AW.region ?_
   refine AWl.put (R_assign rfl (.no rfl) rfl (.const rfl)) rfl ?_
   refine AWl.nil (AW.block ?_)
   refine AW.loop1 (fun (v : Nat) => (v ≤ q.VariableCount.toNat) ∧ True) (fun (v : Nat) => ⟨_, [(7, (true, .a (.one (.t (.v (.int .i64 (v : Nat))))))), (6, (true, .a (.one (.rf 24)))), (2, _), (3, _), (4, _), (5, _)], [(5, .box [.t (.sl 1 ((relsV g q).map cPairS))]), (24, .row 1 ((wordsN g.Values.length v).map cIntS))]⟩) (fun (v : Nat) => q.VariableCount.toNat - v) (0) ⟨Nat.zero_le _, trivial⟩ (Le.sub0 rfl ⟨rfl, rfl, rfl, rfl, rfl, rfl, trivial⟩ ⟨rfl, rfl, trivial⟩) ?_
   rintro v ⟨hk, he⟩
   refine AW.seq ?_
   refine AW.seq ?_
   refine AW.region ?_
   refine AWl.put (R_move rfl (.no rfl) rfl (.tmp rfl fun _ => rfl)) rfl ?_
   refine AWl.put (by exact R_fieldAddr rfl (.no rfl) rfl (.tmp rfl fun _ => rfl) fl87_0) rfl ?_
   refine AWl.put (by exact R_load rfl (.no rfl) rfl (.tmp rfl fun _ => rfl) ty3 rfl rfl) rfl ?_
   refine AWl.put (R_lt rfl (.no rfl) rfl (.tmp rfl fun _ => rfl) (.tmp rfl fun _ => rfl)) rfl ?_
   refine AWl.nil ?_
   refine AW.cond (.tmp rfl fun _ => rfl) (fun h28 => ?_) (fun h28 => ?_)
   · skip
     try simp at h28
     have hwl := words_few (n := g.Values.length) (m := v) (by omega) (by omega)
     refine AW.skip ?_
     refine AW.seq ?_
     refine AW.block ?_
     refine AW.seq ?_
     refine AW.region ?_
     refine AWl.add (R_empty 31 rfl rfl rfl Tryz.underlying27 ty22 rfl) rfl ?_
     refine AWl.put (R_assign rfl (.no rfl) rfl (.tmp rfl fun _ => rfl)) rfl ?_
     refine AWl.nil (AW.seq ?_)
     refine AW.seq ?_
     refine AW.region ?_
     refine AWl.put (R_move rfl (.no rfl) rfl (.tmp rfl fun _ => rfl)) rfl ?_
     refine AWl.put (by exact R_lenm rfl (.no rfl) rfl (.tmp rfl fun _ => rfl) (by exact .rf rfl) Tryz.underlying27) rfl ?_
     refine AWl.put (R_move rfl (.no rfl) rfl (.const rfl)) rfl ?_
     refine AWl.nil (AW.block ?_)
     refine AW.loop1 (fun (k : Nat) => (k ≤ (wordsN g.Values.length v).length) ∧ True) (fun (k : Nat) => ⟨_, [(34, (true, .a (.one (.t (.v (.int .i64 (k : Nat))))))), (8, (true, .a (.one (.rf 31)))), (2, _), (3, _), (4, _), (5, _), (6, _), (7, _), (32, _), (33, _)], [(5, .box [.t (.sl 1 ((relsV g q).map cPairS))]), (24, .row 1 ((wordsN g.Values.length v).map cIntS)), (31, .row 1 ((moreL g.Values.length ((wordsN g.Values.length v).take k)).map cIntS))]⟩) (fun (k : Nat) => (wordsN g.Values.length v).length - k) (0) ⟨Nat.zero_le _, trivial⟩ (Le.sub0 rfl ⟨rfl, rfl, rfl, rfl, rfl, rfl, rfl, rfl, rfl, rfl, trivial⟩ ⟨rfl, rfl, (by refine congrArg (fun r => some (R.row 1 r)) ?_; first | rfl | (simp [oneMore]; done)), trivial⟩) ?_
     rintro k ⟨hk1, he1⟩
     refine AW.seq ?_
     refine AW.region ?_
     refine AWl.put (R_lt rfl (.no rfl) rfl (.tmp rfl fun _ => rfl) (.tmp rfl fun _ => rfl)) rfl ?_
     refine AWl.nil (AW.seq ?_)
     refine AW.cond (.tmp rfl fun _ => rfl) (fun h35 => ?_) (fun h35 => ?_)
     · skip
       try simp at h35
       obtain ⟨b, hb⟩ : ∃ ξ, (wordsN g.Values.length v)[k]? = some ξ := ⟨_, List.getElem?_eq_getElem (by omega)⟩
       have hbl : b.length = v := (by have h := List.mem_of_getElem? hb; rw [wordsN_eq] at h; exact extN_len h)
       have hml : (moreL g.Values.length ((wordsN g.Values.length v).take k)).length ≤ 3125 := (by rw [moreL_len, List.length_take]; exact Nat.le_trans (Nat.mul_le_mul (show min k _ ≤ 625 by omega) (show g.Values.length ≤ 5 by omega)) (by omega))
       refine AW.skip ?_
       refine AW.seq ?_
       refine AW.block ?_
       refine AW.seq ?_
       refine AW.region ?_
       refine AWl.put (by exact R_indexAddr_rf rfl (.no rfl) rfl (.tmp rfl fun _ => rfl) rfl (.tmp rfl fun _ => rfl) Tryz.underlying27 ty22 (fun _ => ⟨by omega, (map_get hb)⟩)) rfl ?_
       refine AWl.put (by exact R_load_pr rfl (.no rfl) rfl (.tmp rfl fun _ => rfl) rfl (map_get hb) ty22 rfl rfl) rfl ?_
       refine AWl.put (R_assign rfl (.no rfl) rfl (.tmp rfl fun _ => rfl)) rfl ?_
       refine AWl.nil (AW.seq ?_)
       refine AW.region ?_
       refine AWl.put (by exact R_fieldAddr rfl (.no rfl) rfl (.tmp rfl fun _ => rfl) fl43_0) rfl ?_
       refine AWl.put (by exact R_load rfl (.no rfl) rfl (.tmp rfl fun _ => rfl) ty22 rfl rfl) rfl ?_
       refine AWl.put (by exact R_lenm rfl (.no rfl) rfl (.tmp rfl fun _ => rfl) (by exact .t) Tryz.underlying22) rfl ?_
       refine AWl.put (R_move rfl (.no rfl) rfl (.const rfl)) rfl ?_
       refine AWl.nil (AW.block ?_)
       refine AW.loop1 (fun (x : Nat) => (x ≤ g.Values.length) ∧ True) (fun (x : Nat) => ⟨_, [(41, (true, .a (.one (.t (.v (.int .i64 (x : Nat))))))), (8, (true, .a (.one (.rf 31)))), (2, _), (3, _), (4, _), (5, _), (6, _), (7, _), (10, _), (32, _), (33, _), (34, _), (40, _)], [(5, .box [.t (.sl 1 ((relsV g q).map cPairS))]), (24, .row 1 ((wordsN g.Values.length v).map cIntS)), (31, .row 1 ((moreL g.Values.length ((wordsN g.Values.length v).take k) ++ oneMore x b).map cIntS))]⟩) (fun (x : Nat) => g.Values.length - x) (0) ⟨Nat.zero_le _, trivial⟩ (Le.sub0 rfl ⟨rfl, rfl, rfl, rfl, rfl, rfl, rfl, rfl, rfl, rfl, rfl, rfl, rfl, trivial⟩ ⟨rfl, rfl, (by refine congrArg (fun r => some (R.row 1 r)) ?_; first | rfl | (simp [oneMore]; done)), trivial⟩) ?_
       rintro x ⟨hk2, he2⟩
       refine AW.seq ?_
       refine AW.region ?_
       refine AWl.put (R_lt rfl (.no rfl) rfl (.tmp rfl fun _ => rfl) (.tmp rfl fun _ => rfl)) rfl ?_
       refine AWl.nil (AW.seq ?_)
       refine AW.cond (.tmp rfl fun _ => rfl) (fun h42 => ?_) (fun h42 => ?_)
       · skip
         try simp at h42
         have hol := oneMore_len x b
         refine AW.skip ?_
         refine AW.seq ?_
         refine AW.block ?_
         refine AW.seq ?_
         refine AW.region ?_
         refine AWl.put (R_move rfl (.no rfl) rfl (.tmp rfl fun _ => rfl)) rfl ?_
         refine AWl.put (R_assign rfl (.no rfl) rfl (.tmp rfl fun _ => rfl)) rfl ?_
         refine AWl.nil (AW.region ?_)
         refine AWl.put (R_move rfl (.no rfl) rfl (.tmp rfl fun _ => rfl)) rfl ?_
         refine AWl.put (R_move rfl (.no rfl) rfl (.tmp rfl fun _ => rfl)) rfl ?_
         refine AWl.adds (R_call 4600 (implcopyInts _ (by omega)) rfl rfl rfl (.cons (.tmp rfl fun _ => rfl) rfl .nil) rfl rfl) rfl ?_
         refine AWl.put (R_move rfl (.no rfl) rfl (.tmp rfl fun _ => rfl)) rfl ?_
         refine AWl.absadd (R_list (xs := [.tmp 47]) 48 rfl rfl rfl (.cons (.tmp rfl fun _ => rfl) rfl rfl .nil) Tryz.underlying22 in3 rfl rfl rfl rfl) rfl ?_
         refine AWl.abschgput (R_append_own rfl rfl rfl (.tmp rfl fun _ => rfl) rfl (.tmp rfl fun _ => rfl) rfl rfl Tryz.underlying22 in3 rfl (by (simp [chunk]; omega)) (by (unfold maxLen; simp [chunk]; omega))) rfl ?_
         refine AWl.le (σ' := ⟨_, [(2, _), (3, _), (4, _), (5, _), (6, _), (7, _), (8, _), (10, _), (11, _), (32, _), (33, _), (34, _), (40, _), (41, _), (42, _), (44, _), (49, _)], [(5, _), (24, _), (31, _), (4600, _)]⟩) (Le.sub0 rfl ⟨rfl, rfl, rfl, rfl, rfl, rfl, rfl, rfl, rfl, rfl, rfl, rfl, rfl, rfl, rfl, rfl, rfl, trivial⟩ ⟨rfl, rfl, rfl, rfl, trivial⟩) ?_
         refine AWl.absadd (R_list (xs := [.tmp 49]) 50 rfl rfl rfl (.cons (.tmp rfl fun _ => rfl) rfl rfl .nil) Tryz.underlying27 in22 rfl rfl rfl rfl) rfl ?_
         refine AWl.abschgput (R_append_own rfl rfl rfl (.tmp rfl fun _ => rfl) rfl (.tmp rfl fun _ => rfl) rfl rfl Tryz.underlying27 in22 rfl (by (simp [chunk]; omega)) (by (unfold maxLen; simp [chunk]; omega))) rfl ?_
         refine AWl.le (σ' := ⟨_, [(2, _), (3, _), (4, _), (5, _), (6, _), (7, _), (8, _), (10, _), (11, _), (32, _), (33, _), (34, _), (40, _), (41, _), (42, _), (51, _)], [(5, _), (24, _), (31, _)]⟩) (Le.sub0 rfl ⟨rfl, rfl, rfl, rfl, rfl, rfl, rfl, rfl, rfl, rfl, rfl, rfl, rfl, rfl, rfl, rfl, trivial⟩ ⟨rfl, rfl, rfl, trivial⟩) ?_
         refine AWl.put (R_assign rfl (.no rfl) rfl (.tmp rfl fun _ => rfl)) rfl ?_
         refine AWl.nil (AW.region ?_)
         refine AWl.put (R_add rfl (.no rfl) rfl (.tmp rfl fun _ => rfl) (.const rfl) (fun _ => by omega)) rfl ?_
         refine AWl.put (R_move rfl (.no rfl) rfl (.tmp rfl fun _ => rfl)) rfl ?_
         refine AWl.nil ?_
         repeat (with_reducible refine BlockQ.nor ?_)
         refine Round1.next (x + 1) ⟨by omega, trivial⟩ (by omega) (Le.sub0 rfl ⟨rfl, rfl, rfl, rfl, rfl, rfl, rfl, rfl, rfl, rfl, rfl, rfl, rfl, trivial⟩ ⟨(by rfl), (by refine congrArg (fun r => some (R.row 1 r)) ?_; first | rfl | (rw [List.take_of_length_le (by first | omega | (simp at h35; omega))]; rfl)), (by refine congrArg (fun r => some (R.row 1 r)) ?_; first | (simp [oneMore, List.range_succ, chunk, cIntS, cInt]; done) | (rw [take_at hb, show x = g.Values.length by omega]; simp [moreL]; done)), trivial⟩)
       · skip
         try simp at h42
         refine AW.exit ?_
         refine AW.region ?_
         refine AWl.put (R_add rfl (.no rfl) rfl (.tmp rfl fun _ => rfl) (.const rfl) (fun _ => by omega)) rfl ?_
         refine AWl.put (R_move rfl (.no rfl) rfl (.tmp rfl fun _ => rfl)) rfl ?_
         refine AWl.nil ?_
         repeat (with_reducible refine BlockQ.nor ?_)
         refine Round1.next (k + 1) ⟨by omega, trivial⟩ (by omega) (Le.sub0 rfl ⟨rfl, rfl, rfl, rfl, rfl, rfl, rfl, rfl, rfl, rfl, trivial⟩ ⟨(by rfl), (by refine congrArg (fun r => some (R.row 1 r)) ?_; first | rfl | (rw [List.take_of_length_le (by first | omega | (simp at h35; omega))]; rfl)), (by refine congrArg (fun r => some (R.row 1 r)) ?_; first | (simp [oneMore, List.range_succ, chunk, cIntS, cInt]; done) | (rw [take_at hb, show x = g.Values.length by omega]; simp [moreL]; done)), trivial⟩)
     · skip
       try simp at h35
       refine AW.exit ?_
       refine AW.region ?_
       refine AWl.put (R_move rfl (.no rfl) rfl (.tmp rfl fun _ => rfl)) rfl ?_
       refine AWl.put (R_assign rfl (.no rfl) rfl (.tmp rfl fun _ => rfl)) rfl ?_
       refine AWl.nil ?_
       refine AW.le (Le.sw 24 31 _) ?_
       refine AW.region ?_
       refine AWl.put (R_move rfl (.no rfl) rfl (.tmp rfl fun _ => rfl)) rfl ?_
       refine AWl.put (R_add rfl (.no rfl) rfl (.tmp rfl fun _ => rfl) (.const rfl) (fun _ => by omega)) rfl ?_
       refine AWl.put (R_assign rfl (.no rfl) rfl (.tmp rfl fun _ => rfl)) rfl ?_
       refine AWl.nil ?_
       repeat (with_reducible refine BlockQ.nor ?_)
       refine Round1.next (v + 1) ⟨by omega, trivial⟩ (by omega) (Le.sub0 rfl ⟨rfl, rfl, rfl, rfl, rfl, rfl, trivial⟩ ⟨(by rfl), (by refine congrArg (fun r => some (R.row 1 r)) ?_; first | rfl | (rw [List.take_of_length_le (by omega)]; rfl)), trivial⟩)
   · skip
     try simp at h28
     refine AW.exit ?_
     refine AW.seq ?_
     refine AW.le (Le.frz 5 5 (xs := [.sl 1 ((relsV g q).map cPairS)]) rfl rfl rfl) ?_
     refine AW.region ?_
     refine AWl.put (R_move rfl (.no rfl) rfl (.tmp rfl fun _ => rfl)) rfl ?_
     refine AWl.put (R_makeFunc rfl (.no rfl) rfl (.cons (.tmp rfl fun _ => rfl) (.cons (.tmp rfl fun _ => rfl) .nil))) rfl ?_
     apply AWl.consume
     case ho =>
      apply R_consume (xo := .tmp 55) 5700 (deleteRows (wordsN g.Values.length v) 89 [.ad (cConjunction q), .ad [.sl 1 ((relsV g q).map cPairS)]] (fun b => !q.Atoms.all (bindOk g b)) (fun r hr => (implevaluate1 g q r hv (by rw [wordsN_eq] at hr; have := extN_len hr; omega)).fr) (Nat.le_trans (words_few (by omega) (by omega)) (by omega))) rfl rfl rfl (.tmp rfl fun _ => rfl)
      case ha => rfl
      case hargs => exact (ArgC.own (ArgRd.one (.tmp rfl fun _ => rfl) .nil))
      all_goals rfl
     case hd => rfl
     refine AWl.put (R_assign rfl (.no rfl) rfl (.tmp rfl fun _ => rfl)) rfl ?_
     refine AWl.nil (AW.ret ?_)
     refine Res.one rfl (.tmp rfl .nil) rfl ?_
     unfold evalC; rw [if_pos (by rw [hg, hv]; rfl), show q.VariableCount.toNat = v by omega]; simp; rfl
end Go.Proofs.YtoealglkenhphaaGreat
