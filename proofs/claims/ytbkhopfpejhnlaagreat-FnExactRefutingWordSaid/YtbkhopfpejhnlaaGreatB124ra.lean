import Derived.Test.YtbkhopfpejhnlaaGreatB122ra
import Derived.Test.YtbkhopfpejhnlaaGreatB59ra
import Derived.Test.YtbkhopfpejhnlaaGreatMDra
set_option linter.unusedVariables false
set_option linter.unusedSimpArgs false
set_option maxHeartbeats 1000000
set_option maxRecDepth 100000
namespace Go.Q
open Go.RowKit Go.D
def refP (b : TExpr) (w : List Int) : Bool := (lineGraph w).2 && !onLine b w
def refW (a b : TExpr) (n : Int) : List Int × Bool := if isValidExpr b then (match (wordsE a n).find? (refP b) with | some w => (w, true) | none => ([], false)) else ([], false)
theorem find_none' {α : Type} {p : α → Bool} {l : List α} {k : Nat} (h : ∀ j y, j < k → l[j]? = some y → (!p y) = true) (hk : l.length ≤ k) : l.find? p = none := by
 rw [List.find?_eq_none]
 intro x hx
 obtain ⟨j, hj⟩ := List.getElem?_of_mem hx
 have := h j x (by have := (List.getElem?_eq_some_iff.1 hj).1; omega) hj
 simpa using this
theorem find_at' {α : Type} {p : α → Bool} : ∀ {l : List α} {k : Nat} {x : α}, (∀ j y, j < k → l[j]? = some y → (!p y) = true) → l[k]? = some x → p x = true → l.find? p = some x
 | [], k, x, _, hx, _ => by simp at hx
 | z :: l, 0, x, _, hx, hp => by simp at hx; subst hx; simp [hp]
 | z :: l, k + 1, x, h, hx, hp => by
  have hz : p z = false := by simpa using h 0 z (by omega) rfl
  rw [List.find?_cons_of_neg (by simp [hz])]
  exact find_at' (k := k) (fun j y hj hy => h (j + 1) y (by omega) (by simpa using hy)) (by simpa using hx) hp
theorem refW_yes {a b : TExpr} {n : Int} {w : List Int} (hv : isValidExpr b = true) (h : (wordsE a n).find? (refP b) = some w) : refW a b n = (w, true) := by unfold refW; rw [if_pos hv, h]
theorem refW_none {a b : TExpr} {n : Int} (h : (wordsE a n).find? (refP b) = none) : refW a b n = ([], false) := by unfold refW; rw [h]; split <;> rfl
theorem refW_no {a b : TExpr} {n : Int} (hv : isValidExpr b = false) : refW a b n = ([], false) := by unfold refW; rw [if_neg (by simp [hv])]
theorem wordsE_few (e : TExpr) (n : Int) : (wordsE e n).length ≤ 26244 := by
 unfold wordsE
 split
 · split
   · rename_i h
     have hn : 0 ≤ n ∧ n ≤ 3 := by
      simp only [Bool.and_eq_true] at h
      have := h.2; unfold inB at this; simpa using this
     exact Nat.le_trans (wordsUp_few (by rw [nineL_len]; omega) _ (by omega)) (Nat.mul_le_mul_right 6561 (show n.toNat + 1 ≤ 4 by omega))
   · simp
 · simp
end Go.Q
namespace Go.Proofs.YtbkhopfpejhnlaaGreat
open Go.RowKit Go.Q Go.D
set_option maxRecDepth 100000 in
theorem implRefutingWord (a b : TExpr) (n : Int) : FnT Tryz.prog 22 [.agg (cExpr a), .agg (cExpr b), .one (.v (.int .i64 n))] (.tup [.one (.sl 1 ((refW a b n).1.map cInt)), .one (.v (.bool (refW a b n).2))]) := by
 refine FnT.walk Tryz.func22 rfl (by kernel_rfl) Tryz.ntmps22 rfl fun hlen w0 => ?_
 try simp [cPair, cToken, cExpr, cEdge, cGraph, cStep, cWalk, cChange, cBatch, cHistory, cPositions, cAutomaton, cProductStep, cPathAtom, cConjunction, cView, cDelta, cRegistered, cRegistry] at hlen
 have hwl := wordsE_few a n
 refine AW.sr ?_
 refine AWl.put (R_boxz rfl rfl rfl (.tm rfl) (ts := _) (by rfl)) rfl ?_
 refine AWl.put (R_boxz rfl rfl rfl (.tm rfl) (ts := _) (by rfl)) rfl ?_
 refine AWl.ac rfl rfl rfl rfl rfl ?_
 refine AWl.nilS (i := 6) 20001 1 rfl rfl ?_
 refine AWl.ac rfl rfl rfl rfl rfl ?_
 refine AWl.nil (AW.seq ?_)
 refine AW.sr ?_
 refine AWl.put (by exact R_load rfl (.no rfl) rfl (.tm rfl) ty30 rfl rfl) rfl ?_
 refine AWl.put (R_callz (FnT.fr (implIsValidExpr b)) rfl (.no rfl) rfl (.cons (.tm rfl) rfl .nil)) rfl ?_
 refine AWl.put (R_not rfl (.no rfl) rfl (.tm rfl)) rfl ?_
 refine AWl.nil ?_
 refine AW.cond (.tm rfl) (fun h14 => ?_) (fun h14 => ?_)
 · skip
   try simp at h14
   have hv0 : isValidExpr b = false := (by simpa using h14)
   refine AW.sr ?_
   refine AWl.ac rfl rfl rfl rfl rfl ?_
   refine AWl.nilS (i := 6) 20002 1 rfl rfl ?_
   refine AWl.ac rfl rfl rfl rfl rfl ?_
   refine AWl.nil (AW.ret ?_)
   refine Res.many rfl (.tmp rfl (.tmp rfl .nil)) rfl ?_ (by simp)
   rw [refW_no hv0]; rfl
 · skip
   try simp at h14
   have hv1 : isValidExpr b = true := (by simpa using h14)
   refine AW.skip ?_
   refine AW.seq ?_
   refine AW.sr ?_
   refine AWl.put (by exact R_load rfl (.no rfl) rfl (.tm rfl) ty30 rfl rfl) rfl ?_
   refine AWl.mv rfl rfl rfl rfl rfl ?_
   refine AWl.adds (R_call 1700 (implWordsUpTo a n) rfl rfl rfl (.cons (.tm rfl) rfl (.cons (.tm rfl) rfl .nil)) rfl rfl) rfl ?_
   refine AWl.put (by exact R_lenm rfl (.no rfl) rfl (.tm rfl) (by exact .rf rfl) Tryz.underlying77) rfl ?_
   refine AWl.put (R_move rfl (.no rfl) rfl (.const rfl)) rfl ?_
   refine AWl.nil (AW.block ?_)
   refine AW.loop2 (fun (k : Nat) (L : List (List T)) => (k ≤ (wordsE a n).length ∧ ∀ j y, j < k → (wordsE a n)[j]? = some y → (!refP b y) = true) ∧ L.length = (wordsE a n).length ∧ ∀ j r, k ≤ j → (wordsE a n)[j]? = some r → L[j]? = some (cIntS r)) (fun (k : Nat) (L : List (List T)) => ⟨_, [(19, (true, .a (.one (.t (.v (.int .i64 (k : Nat))))))), (4, _), (17, _), (18, _)], [(1700, .row 1 L)]⟩) (fun (k : Nat) (L : List (List T)) => (wordsE a n).length - k) (0) (((wordsE a n).map cIntS)) ⟨⟨Nat.zero_le _, fun j y hj => absurd hj (Nat.not_lt_zero j)⟩, by simp, fun j r _ hr => map_get hr⟩ (Le.sub0 rfl ⟨rfl, rfl, rfl, rfl, trivial⟩ ⟨rfl, trivial⟩) ?_
   rintro k L ⟨hk, he⟩
   refine AW.sr ?_
   refine AWl.put (R_lt rfl (.no rfl) rfl (.tm rfl) (.tm rfl)) rfl ?_
   refine AWl.nil (AW.seq ?_)
   refine AW.cond (.tm rfl) (fun h20 => ?_) (fun h20 => ?_)
   · skip
     try simp at h20
     obtain ⟨w, hw⟩ : ∃ ξ, (wordsE a n)[k]? = some ξ := ⟨_, List.getElem?_eq_getElem (by omega)⟩
     refine AW.skip ?_
     refine AW.seq ?_
     refine AW.block ?_
     refine AW.sr ?_
     refine AWl.put ((by exact R_indexAddr_rf rfl (.no rfl) rfl (.tm rfl) rfl (.tm rfl) Tryz.underlying77 ty24 (fun _ => ⟨by omega, (he.2 k w (Nat.le_refl _) hw)⟩))) rfl ?_
     refine AWl.put (R_load_sb rfl (.no rfl) rfl (.tm rfl) rfl (he.2 k w (Nat.le_refl _) hw) ty24 rfl) rfl ?_
     refine AWl.takeS (d := 22) 731 rfl rfl (he.2 k w (Nat.le_refl _) hw) rfl (fun _ => rfl) fun c22 => ?_
     refine AWl.av rfl rfl rfl rfl rfl ?_
     refine AWl.nil (AW.sr ?_)
     refine AWl.mv rfl rfl rfl rfl rfl ?_
     refine AWl.put (R_callz (FnT.fr (implLineGraph w)) rfl (.no rfl) rfl (.cons (.tm rfl) rfl .nil)) rfl ?_
     refine AWl.put (R_movet rfl (.no rfl) rfl rfl fun _ => rfl) rfl ?_
     refine AWl.put (R_extract rfl (.no rfl) rfl rfl (fun _ => rfl) rfl) rfl ?_
     refine AWl.put (R_extract rfl (.no rfl) rfl rfl (fun _ => rfl) rfl) rfl ?_
     refine AWl.add (R_alloc 10 rfl rfl rfl in27 rfl rfl rfl) rfl ?_
     refine AWl.chgb (R_store_pb rfl rfl rfl (.tm rfl) (.tm rfl) rfl ty27 rfl rfl rfl (by kernel_rfl) rfl) ?_
     refine AWl.le (σ' := ⟨_, [(4, _), (9, _), (17, _), (18, _), (19, _), (20, _), (27, _)], [(1700, _), (731, _), (10, _)]⟩) (Le.sub0 rfl ⟨rfl, rfl, rfl, rfl, rfl, rfl, rfl, trivial⟩ ⟨rfl, rfl, rfl, trivial⟩) ?_
     refine AWl.av rfl rfl rfl rfl rfl ?_
     refine AWl.nil (AW.sr ?_)
     refine AWl.mv rfl rfl rfl rfl rfl ?_
     refine AWl.mv rfl rfl rfl rfl rfl ?_
     refine AWl.put (by exact R_load rfl (by exact .yes1 rfl rfl rfl rfl) rfl (.tmp rfl (by exact fun _ => rfl)) ty30 rfl rfl) rfl ?_
     refine AWl.put (R_move rfl (by exact .yes1 rfl rfl rfl rfl) rfl (.tmp rfl (by exact fun _ => rfl))) rfl ?_
     refine AWl.put (R_callq rfl (by exact .yes1 rfl rfl rfl rfl) rfl (.cons (.tmp rfl (by exact id)) rfl (.cons (.tmp rfl (by exact id)) rfl .nil)) fun hq => FnT.fr (implHoldsOnLine b w)) rfl ?_
     refine AWl.put (R_not rfl (by exact .yes1 rfl rfl rfl rfl) rfl (.tmp rfl (by exact id))) rfl ?_
     refine AWl.put (R_and rfl (.no rfl) rfl (.tm rfl) (.tmp rfl (by exact id))) rfl ?_
     refine AWl.nil ?_
     refine AW.cond (.tm rfl) (fun h34 => ?_) (fun h34 => ?_)
     · skip
       skip
       have hyes : refP b w = true := (by unfold refP; simpa using h34)
       refine AW.seq ?_
       refine AW.le (σ' := ⟨_, [(4, _), (9, _), (11, _), (17, _), (18, _), (19, _)], [(1700, _), (731, _), (10, _)]⟩) (Le.sub0 rfl ⟨rfl, rfl, rfl, rfl, rfl, rfl, trivial⟩ ⟨rfl, rfl, rfl, trivial⟩) ?_
       refine AW.region ?_
       refine AWl.mv rfl rfl rfl rfl rfl ?_
       refine AWl.av rfl rfl rfl rfl rfl ?_
       refine AWl.ac rfl rfl rfl rfl rfl ?_
       refine AWl.nil (AW.ret ?_)
       refine Res.many rfl (.tmp rfl (.tmp rfl .nil)) rfl ?_ (by simp)
       rw [refW_yes hv1 (find_at' hk.2 hw hyes)]; rfl
     · skip
       skip
       have hno : (!refP b w) = true := (by unfold refP; cases hl : (lineGraph w).2 with | false => rfl | true => simpa [hl] using h34)
       refine AW.skip ?_
       refine AW.le (σ' := ⟨_, [(4, _), (9, _), (11, _), (17, _), (18, _), (19, _)], [(1700, _), (731, _), (10, _)]⟩) (Le.sub0 rfl ⟨rfl, rfl, rfl, rfl, rfl, rfl, trivial⟩ ⟨rfl, rfl, rfl, trivial⟩) ?_
       refine AW.region ?_
       refine AWl.put (R_add rfl (.no rfl) rfl (.tm rfl) (.const rfl) (fun _ => by omega)) rfl ?_
       refine AWl.mv rfl rfl rfl rfl rfl ?_
       refine AWl.nil ?_
       repeat (with_reducible refine BlockQ.nor ?_)
       refine Round2.next (k + 1) (L.set k [.v c22]) ⟨⟨by omega, each_succ hk.2 hw hno⟩, by simp [he.1], fun j r hj hr => by rw [List.getElem?_set_ne (by omega)]; exact he.2 j r (by omega) hr⟩ (by omega) (Le.sub0 rfl ⟨rfl, rfl, rfl, rfl, trivial⟩ ⟨(by rfl), trivial⟩)
   · skip
     try simp at h20
     refine AW.exit ?_
     refine AW.sr ?_
     refine AWl.ac rfl rfl rfl rfl rfl ?_
     refine AWl.nilS (i := 6) 20003 1 rfl rfl ?_
     refine AWl.ac rfl rfl rfl rfl rfl ?_
     refine AWl.nil (AW.ret ?_)
     refine Res.many rfl (.tmp rfl (.tmp rfl .nil)) rfl ?_ (by simp)
     rw [refW_none (find_none' hk.2 (by omega))]; rfl
set_option maxRecDepth 100000 in
theorem specRefutingWord (a b : TExpr) (n : Int) : FnT Tryz.prog 20 [.agg (cExpr a), .agg (cExpr b), .one (.v (.int .i64 n))] (.tup [.one (.sl 1 ((refW a b n).1.map cInt)), .one (.v (.bool (refW a b n).2))]) := by
 refine FnT.walk Tryz.func20 rfl (by kernel_rfl) Tryz.ntmps20 rfl fun hlen w0 => ?_
 try simp [cPair, cToken, cExpr, cEdge, cGraph, cStep, cWalk, cChange, cBatch, cHistory, cPositions, cAutomaton, cProductStep, cPathAtom, cConjunction, cView, cDelta, cRegistered, cRegistry] at hlen
 have hwl := wordsE_few a n
 refine AW.sr ?_
 refine AWl.put (R_boxz rfl rfl rfl (.tm rfl) (ts := _) (by rfl)) rfl ?_
 refine AWl.put (R_boxz rfl rfl rfl (.tm rfl) (ts := _) (by rfl)) rfl ?_
 refine AWl.ac rfl rfl rfl rfl rfl ?_
 refine AWl.nilS (i := 6) 20001 1 rfl rfl ?_
 refine AWl.ac rfl rfl rfl rfl rfl ?_
 refine AWl.nil (AW.sr ?_)
 refine AWl.put (by exact R_load rfl (.no rfl) rfl (.tm rfl) ty30 rfl rfl) rfl ?_
 refine AWl.mv rfl rfl rfl rfl rfl ?_
 refine AWl.adds (R_call 1400 (specWordsUpTo a n) rfl rfl rfl (.cons (.tm rfl) rfl (.cons (.tm rfl) rfl .nil)) rfl rfl) rfl ?_
 refine AWl.av rfl rfl rfl rfl rfl ?_
 refine AWl.nil (AW.seq ?_)
 refine AW.sr ?_
 refine AWl.ac rfl rfl rfl rfl rfl ?_
 refine AWl.nil (AW.block ?_)
 refine AW.loop1 (fun (k : Nat) => (k ≤ (wordsE a n).length ∧ ∀ j y, j < k → (wordsE a n)[j]? = some y → (!refP b y) = true) ∧ True) (fun (k : Nat) => ⟨_, [(9, (true, .a (.one (.t (.v (.int .i64 (k : Nat))))))), (8, (true, .a (.one (.rf 1400)))), (4, _)], [(1400, .row 1 ((wordsE a n).map cIntS))]⟩) (fun (k : Nat) => (wordsE a n).length - k) (0) ⟨⟨Nat.zero_le _, fun j y hj => absurd hj (Nat.not_lt_zero j)⟩, trivial⟩ (Le.sub0 rfl ⟨rfl, rfl, rfl, trivial⟩ ⟨rfl, trivial⟩) ?_
 rintro k ⟨hk, he⟩
 refine AW.seq ?_
 refine AW.sr ?_
 refine AWl.mv rfl rfl rfl rfl rfl ?_
 refine AWl.mv rfl rfl rfl rfl rfl ?_
 refine AWl.put (by exact R_lenm rfl (.no rfl) rfl (.tm rfl) (by exact .rf rfl) Tryz.underlying77) rfl ?_
 refine AWl.put (R_lt rfl (.no rfl) rfl (.tm rfl) (.tm rfl)) rfl ?_
 refine AWl.mv rfl rfl rfl rfl rfl ?_
 refine AWl.put (by exact R_load rfl (by exact .yes1 rfl rfl rfl rfl) rfl (.tmp rfl (by exact fun _ => rfl)) ty30 rfl rfl) rfl ?_
 refine AWl.put (R_callq rfl (by exact .yes1 rfl rfl rfl rfl) rfl (.cons (.tmp rfl (by exact id)) rfl .nil) fun hq => FnT.fr (specIsValidExpr b)) rfl ?_
 refine AWl.put (R_and rfl (.no rfl) rfl (.tm rfl) (.tmp rfl (by exact id))) rfl ?_
 refine AWl.nil ?_
 refine AW.cond (.tm rfl) (fun h22 => ?_) (fun h22 => ?_)
 · skip
   skip
   have h22' : k < (wordsE a n).length ∧ isValidExpr b = true := (by simpa using h22)
   obtain ⟨w, hw⟩ : ∃ ξ, (wordsE a n)[k]? = some ξ := ⟨_, List.getElem?_eq_getElem h22'.1⟩
   refine AW.skip ?_
   refine AW.seq ?_
   refine AW.block ?_
   refine AW.seq ?_
   refine AW.le (σ' := ⟨_, [(4, _), (8, _), (9, _)], [(1400, _)]⟩) (Le.sub0 rfl ⟨rfl, rfl, rfl, trivial⟩ ⟨rfl, trivial⟩) ?_
   refine AW.region ?_
   refine AWl.mv rfl rfl rfl rfl rfl ?_
   refine AWl.mv rfl rfl rfl rfl rfl ?_
   refine AWl.put (by exact R_indexAddr_rf rfl (.no rfl) rfl (.tm rfl) rfl (.tm rfl) Tryz.underlying77 ty24 (fun _ => ⟨by omega, (map_get hw)⟩)) rfl ?_
   refine AWl.put (by exact R_load_pr rfl (.no rfl) rfl (.tm rfl) rfl (map_get hw) ty24 rfl rfl) rfl ?_
   refine AWl.put (R_callz (FnT.fr (specLineGraph w)) rfl (.no rfl) rfl (.cons (.tm rfl) rfl .nil)) rfl ?_
   refine AWl.put (R_movet rfl (.no rfl) rfl rfl fun _ => rfl) rfl ?_
   refine AWl.put (R_extract rfl (.no rfl) rfl rfl (fun _ => rfl) rfl) rfl ?_
   refine AWl.put (R_extract rfl (.no rfl) rfl rfl (fun _ => rfl) rfl) rfl ?_
   refine AWl.add (R_alloc 10 rfl rfl rfl in27 rfl rfl rfl) rfl ?_
   refine AWl.chgb (R_store_pb rfl rfl rfl (.tm rfl) (.tm rfl) rfl ty27 rfl rfl rfl (by kernel_rfl) rfl) ?_
   refine AWl.le (σ' := ⟨_, [(4, _), (8, _), (9, _), (32, _)], [(1400, _), (10, _)]⟩) (Le.sub0 rfl ⟨rfl, rfl, rfl, rfl, trivial⟩ ⟨rfl, rfl, trivial⟩) ?_
   refine AWl.av rfl rfl rfl rfl rfl ?_
   refine AWl.nil (AW.seq ?_)
   refine AW.drawn 10 (nthB [[], [0], [0, 1], [0, 1], [0, 1], [0, 1, 3, 4], [0, 1, 3, 4, 5], [0, 1, 2, 3, 4, 5, 6], [0, 1, 2, 3, 4, 5, 6, 7], [0, 1, 2, 3, 4, 5, 6, 7, 8]]) (by kernel_rfl) (by kernel_rfl) (by kernel_rfl) ?_
   refine DrawC.step rfl rfl rfl (Loc.of rfl fun σ' hs => R_move rfl (.no rfl) (hd_sup hs rfl) (.tm (hs.slots _ _ rfl))) ?_
   refine DrawC.step rfl rfl rfl (Loc.of rfl fun σ' hs => R_move rfl (.no rfl) (hd_sup hs rfl) (.tm (hs.slots _ _ rfl))) ?_
   refine DrawC.step rfl rfl rfl (Loc.of rfl fun σ' hs => (by exact R_load rfl (by exact .yes1 rfl rfl (hs.slots _ _ rfl) (by rw [hs.n]; rfl)) (hd_sup hs rfl) (.tmp (hs.slots _ _ rfl) (by exact fun _ => rfl)) ty30 rfl rfl)) ?_
   refine DrawC.step rfl rfl rfl (Loc.of rfl fun σ' hs => R_move rfl (by exact .yes1 rfl rfl (hs.slots _ _ rfl) (by rw [hs.n]; rfl)) (hd_sup hs rfl) (.tmp (hs.slots _ _ rfl) (by exact fun _ => rfl))) ?_
   refine DrawC.step rfl rfl rfl (Loc.of rfl fun σ' hs => R_move rfl (by exact .yes1 rfl rfl (hs.slots _ _ rfl) (by rw [hs.n]; rfl)) (hd_sup hs rfl) (.tmp (hs.slots _ _ rfl) (by exact fun _ => rfl))) ?_
   refine DrawC.step rfl rfl rfl (Loc.of rfl fun σ' hs => (by exact R_indexAddr_rf rfl (by exact .yes1 rfl rfl (hs.slots _ _ rfl) (by rw [hs.n]; rfl)) (hd_sup hs rfl) (.tmp (hs.slots _ _ rfl) (by exact id)) (hs.res _ _ rfl) (.tmp (hs.slots _ _ rfl) (by exact id)) Tryz.underlying77 ty24 (fun _ => ⟨by omega, map_get hw⟩))) ?_
   refine DrawC.step rfl rfl rfl (Loc.of rfl fun σ' hs => (by exact R_load_prq rfl (by exact .yes1 rfl rfl (hs.slots _ _ rfl) (by rw [hs.n]; rfl)) (hd_sup hs rfl) (.tmp (hs.slots _ _ rfl) (by exact id)) (hs.res _ _ rfl) (fun _ => map_get hw) ty24 rfl rfl)) ?_
   refine DrawC.step rfl rfl rfl (Loc.of rfl fun σ' hs => R_callq rfl (by exact .yes1 rfl rfl (hs.slots _ _ rfl) (by rw [hs.n]; rfl)) (hd_sup hs rfl) (.cons (.tmp (hs.slots _ _ rfl) (by exact id)) (readA_sup hs rfl) (.cons (.tmp (hs.slots _ _ rfl) (by exact id)) (readA_sup hs rfl) .nil)) fun hq => FnT.fr (specHoldsOnLine b w)) ?_
   refine DrawC.step rfl rfl rfl (Loc.of rfl fun σ' hs => R_not rfl (by exact .yes1 rfl rfl (hs.slots _ _ rfl) (by rw [hs.n]; rfl)) (hd_sup hs rfl) (.tmp (hs.slots _ _ rfl) (by exact id))) ?_
   refine DrawC.step rfl rfl rfl (Loc.of rfl fun σ' hs => R_and rfl (.no rfl) (hd_sup hs rfl) (.tm (hs.slots _ _ rfl)) (.tmp (hs.slots _ _ rfl) (by exact id))) ?_
   refine DrawC.fin rfl rfl ?_
   refine AWl.nil ?_
   refine AW.cond (.tm rfl) (fun h42 => ?_) (fun h42 => ?_)
   · skip
     skip
     have hyes : refP b w = true := (by unfold refP; simpa using h42)
     refine AW.seq ?_
     refine AW.le (σ' := ⟨_, [(4, _), (8, _), (9, _), (11, _)], [(1400, _), (10, _)]⟩) (Le.sub0 rfl ⟨rfl, rfl, rfl, rfl, trivial⟩ ⟨rfl, rfl, trivial⟩) ?_
     refine AW.region ?_
     refine AWl.mv rfl rfl rfl rfl rfl ?_
     refine AWl.mv rfl rfl rfl rfl rfl ?_
     refine AWl.put (by exact R_indexAddr_rf rfl (.no rfl) rfl (.tm rfl) rfl (.tm rfl) Tryz.underlying77 ty24 (fun _ => ⟨by omega, (map_get hw)⟩)) rfl ?_
     refine AWl.put (R_load_sb rfl (.no rfl) rfl (.tm rfl) rfl (map_get hw) ty24 rfl) rfl ?_
     refine AWl.takeS (d := 46) 731 rfl rfl (map_get hw) rfl (fun _ => rfl) fun c46 => ?_
     refine AWl.av rfl rfl rfl rfl rfl ?_
     refine AWl.ac rfl rfl rfl rfl rfl ?_
     refine AWl.nil (AW.ret ?_)
     refine Res.many rfl (.tmp rfl (.tmp rfl .nil)) rfl ?_ (by simp)
     rw [refW_yes h22'.2 (find_at' hk.2 hw hyes)]; rfl
   · skip
     skip
     have hno : (!refP b w) = true := (by unfold refP; cases hl : (lineGraph w).2 with | false => rfl | true => simpa [hl] using h42)
     refine AW.skip ?_
     refine AW.le (σ' := ⟨_, [(4, _), (8, _), (9, _), (11, _)], [(1400, _), (10, _)]⟩) (Le.sub0 rfl ⟨rfl, rfl, rfl, rfl, trivial⟩ ⟨rfl, rfl, trivial⟩) ?_
     refine AW.region ?_
     refine AWl.mv rfl rfl rfl rfl rfl ?_
     refine AWl.put (R_add rfl (.no rfl) rfl (.tm rfl) (.const rfl) (fun _ => by omega)) rfl ?_
     refine AWl.av rfl rfl rfl rfl rfl ?_
     refine AWl.nil ?_
     repeat (with_reducible refine BlockQ.nor ?_)
     refine Round1.next (k + 1) ⟨⟨by omega, each_succ hk.2 hw hno⟩, trivial⟩ (by omega) (Le.sub0 rfl ⟨rfl, rfl, rfl, trivial⟩ ⟨(by rfl), trivial⟩)
 · skip
   skip
   have hend : refW a b n = ([], false) := (by cases hv : isValidExpr b with | false => exact refW_no hv | true => exact refW_none (find_none' hk.2 (by rw [hv] at h22; first | omega | (simp at h22; omega))))
   refine AW.exit ?_
   refine AW.seq ?_
   refine AW.le (σ' := ⟨_, [(4, _), (8, _), (9, _)], [(1400, _)]⟩) (Le.sub0 rfl ⟨rfl, rfl, rfl, trivial⟩ ⟨rfl, trivial⟩) ?_
   refine AW.region ?_
   refine AWl.add (R_empty 47 rfl rfl rfl Tryz.underlying24 ty3 rfl) rfl ?_
   refine AWl.av rfl rfl rfl rfl rfl ?_
   refine AWl.ac rfl rfl rfl rfl rfl ?_
   refine AWl.nil (AW.ret ?_)
   refine Res.many rfl (.tmp rfl (.tmp rfl .nil)) rfl ?_ (by simp)
   rw [hend]; rfl
end Go.Proofs.YtbkhopfpejhnlaaGreat
set_option maxHeartbeats 1000000
set_option maxRecDepth 100000
namespace Go.Q
open Go.D
theorem cntL_leQ {α : Type} {c : α → Int} {n : Nat} : ∀ {l : List α}, (∀ x ∈ l, c x ≤ (n : Int)) → cntL c l ≤ ((n * l.length : Nat) : Int)
 | [], _ => by simp [cntL]
 | x :: l, h => by
  rw [cntL, List.length_cons, Nat.mul_succ]
  have h1 := h x (by simp)
  have h2 := cntL_leQ (l := l) fun y hy => h y (by simp [hy])
  omega
theorem cntIntS_leQ (l : List Int) : cntIntS l ≤ (l.length : Int) := by
 have := cntL_leQ (c := cntInt) (n := 1) (l := l) fun _ _ => Int.le_refl _
 unfold cntIntS; omega
end Go.Q
set_option maxHeartbeats 1000000
set_option maxRecDepth 100000
namespace Go.Q
open Go.D
theorem wordsE_word {e : TExpr} {n : Int} {w : List Int} (h : w ∈ wordsE e n) : w.length ≤ 4 := by
 unfold wordsE at h
 split at h
 · split at h
   · rename_i hc
     have hn : 0 ≤ n ∧ n ≤ 3 := by
      simp only [Bool.and_eq_true] at hc
      have := hc.2; unfold inB at this; simpa using this
     unfold wordsUp at h
     obtain ⟨d, hd, hw⟩ := List.mem_flatMap.1 h
     have hd := List.mem_range.1 hd
     have := (wordsA_word (List.mem_filter.1 hw).1).1
     omega
   · cases h
 · cases h
theorem refW_cnt (a b : TExpr) (n : Int) : cntIntS (refW a b n).1 ≤ 4096 := by
 have h0 : cntIntS ([] : List Int) ≤ 4096 := by show (0 : Int) ≤ _; omega
 unfold refW
 split
 · split
   · rename_i w h
     have h1 := wordsE_word (List.mem_of_find?_eq_some h)
     have h2 := cntIntS_leQ w
     show cntIntS w ≤ 4096
     omega
   · exact h0
 · exact h0
end Go.Q
