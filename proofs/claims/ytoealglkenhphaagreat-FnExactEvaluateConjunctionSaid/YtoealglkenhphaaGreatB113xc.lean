import Derived.Test.YtoealglkenhphaaGreatB108xc
import Derived.Test.YtoealglkenhphaaGreatB79xc
import Derived.Test.YtoealglkenhphaaGreatAbsQxc
import Derived.Test.YtoealglkenhphaaGreatFrzxc
set_option linter.unusedVariables false
set_option linter.unusedSimpArgs false
set_option maxHeartbeats 1000000
set_option maxRecDepth 100000
namespace Go.Q
open Go.RowKit Go.D
def okAtom (g : TGraph) (row : List Int) (x : TPathAtom) : Bool := !decide (max x.From x.To = (row.length : Int) - 1) || bindOk g row x
theorem okRow_eq (g : TGraph) (q : TConjunction) (row : List Int) : okRow g q row = q.Atoms.all (okAtom g row) := rfl
theorem flatMap_few {α : Type} {l : List Nat} {f : Nat → List α} {m : Nat} (h : ∀ x ∈ l, (f x).length ≤ m) : (l.flatMap f).length ≤ l.length * m := by
 induction l with
 | nil => simp
 | cons x l ih =>
  rw [List.flatMap_cons, List.length_append, List.length_cons, Nat.succ_mul]
  have := h x (by simp)
  have := ih fun y hy => h y (by simp [hy])
  omega
theorem walkV_len {n : Nat} (hn : n ≤ 5) (ok : List Int → Bool) : ∀ (d : Nat) (row : List Int), (walkV n ok d row).length ≤ 5 ^ d
 | 0, row => by rw [walkV]; split <;> simp
 | d + 1, row => by
  rw [walkV]
  split
  · refine Nat.le_trans (flatMap_few fun x _ => walkV_len hn ok d _) ?_
    rw [List.length_range, Nat.pow_succ, Nat.mul_comm]
    exact Nat.mul_le_mul_left _ hn
  · simp
def walkTo (n : Nat) (ok : List Int → Bool) (d : Nat) (row : List Int) (x : Nat) : List (List Int) := (List.range x).flatMap fun v => walkV n ok d (row ++ [((v : Nat) : Int)])
theorem walkTo_succ (n : Nat) (ok : List Int → Bool) (d : Nat) (row : List Int) (x : Nat) : walkTo n ok d row (x + 1) = walkTo n ok d row x ++ walkV n ok d (row ++ [((x : Nat) : Int)]) := by
 unfold walkTo
 rw [List.range_succ, List.flatMap_append]; simp
theorem walkTo_len {n : Nat} (hn : n ≤ 5) (ok : List Int → Bool) (d : Nat) (row : List Int) (x : Nat) : (walkTo n ok d row x).length ≤ x * 5 ^ d := by
 have := flatMap_few (l := List.range x) (f := fun v => walkV n ok d (row ++ [((v : Nat) : Int)])) fun y _ => walkV_len hn ok d _
 rwa [List.length_range] at this
theorem walkV_end {n : Nat} {ok : List Int → Bool} {d : Nat} {row : List Int} (hd : 0 < d) (h : ok row = true) : walkV n ok d row = walkTo n ok (d - 1) row n := by
 obtain ⟨e, rfl⟩ : ∃ e, d = e + 1 := ⟨d - 1, by omega⟩
 rw [walkV, if_pos h]; rfl
theorem pow_step {d : Nat} (hd : 0 < d) : 5 ^ d = 5 * 5 ^ (d - 1) := by
 obtain ⟨e, rfl⟩ : ∃ e, d = e + 1 := ⟨d - 1, by omega⟩
 rw [Nat.pow_succ, Nat.mul_comm]; rfl
end Go.Q
namespace Go.Proofs.YtoealglkenhphaaGreat
open Go.RowKit Go.Q Go.D
theorem specl26Walk (g : TGraph) (q : TConjunction) (hv : validConj q = true) (hn : g.Values.length ≤ 5) : ∀ (d : Nat) (row : List Int) (out : List (List Int)), row.length + d = q.VariableCount.toNat → out.length + 5 ^ d ≤ 100000 →
 FnC Tryz.prog 82 [(false, .agg (cConjunction q)), (false, .one (.sl 1 ((relsV g q).map cPairS))), (false, .one (.v (.int .i64 (g.Values.length : Nat)))), (false, .one (.sl 1 (row.map cInt))), (true, .one (.sl 1 (out.map cIntS)))] (.a (.one (.sl 1 ((out ++ walkV g.Values.length (okRow g q) d row).map cIntS)))) := by
 intro d
 induction d using Nat.strongRecOn with
 | _ d ih =>
 intro row out hd hz
 have hvt := conj_atoms hv
 refine FnC.walk Tryz.func82 rfl (by kernel_rfl) Tryz.ntmps82 rfl (by rfl) fun w0 => ?_
 refine AW.le (σ' := ⟨_, [(0, _), (1, _), (2, _), (3, _), (4, _)], [(1200, _)]⟩) (Le.sub0 rfl ⟨rfl, rfl, rfl, rfl, rfl, trivial⟩ ⟨rfl, trivial⟩) ?_
 try simp [cPair, cToken, cExpr, cEdge, cGraph, cStep, cWalk, cChange, cBatch, cHistory, cPositions, cAutomaton, cProductStep, cPathAtom, cConjunction, cView, cDelta, cRegistered, cRegistry] at hlen
 have hrl4 : row.length ≤ 4 := (by omega)
 have hp0 : 0 < 5 ^ d := Nat.pow_pos (by omega)
 refine AW.seq ?_
 refine AW.region ?_
 refine AWl.put (R_boxz rfl rfl rfl (.tmp rfl fun _ => rfl) (ts := _) (by rfl)) rfl ?_
 refine AWl.put (R_assign rfl (.no rfl) rfl (.const rfl)) rfl ?_
 refine AWl.nilS (i := 10) 20001 1 rfl rfl ?_
 refine AWl.nil (AW.seq ?_)
 refine AW.seq ?_
 refine AW.region ?_
 refine AWl.put (R_assign rfl (.no rfl) rfl (.const rfl)) rfl ?_
 refine AWl.nil (AW.block ?_)
 refine AW.loop1 (fun (k : Nat) => (k ≤ q.Atoms.length ∧ ∀ j y, j < k → q.Atoms[j]? = some y → okAtom g row y = true) ∧ True) (fun (k : Nat) => ⟨_, [(11, (true, .a (.one (.t (.v (.int .i64 (k : Nat))))))), (1, _), (2, _), (3, _), (4, _), (5, _)], [(1200, .row 1 (out.map cIntS))]⟩) (fun (k : Nat) => q.Atoms.length - k) (0) ⟨⟨Nat.zero_le _, fun j y hj => absurd hj (Nat.not_lt_zero j)⟩, trivial⟩ (Le.sub0 rfl ⟨rfl, rfl, rfl, rfl, rfl, rfl, trivial⟩ ⟨(by refine congrArg (fun r => some (R.row 1 r)) ?_; simp [walkTo]), trivial⟩) ?_
 rintro k ⟨hk, he⟩
 refine AW.seq ?_
 refine AW.seq ?_
 refine AW.region ?_
 refine AWl.put (R_move rfl (.no rfl) rfl (.tmp rfl fun _ => rfl)) rfl ?_
 refine AWl.put (by exact R_fieldAddr rfl (.no rfl) rfl (.tmp rfl fun _ => rfl) fl87_1) rfl ?_
 refine AWl.put (by exact R_load rfl (.no rfl) rfl (.tmp rfl fun _ => rfl) ty85 rfl rfl) rfl ?_
 refine AWl.put (by exact R_lenm rfl (.no rfl) rfl (.tmp rfl fun _ => rfl) (by exact .t) Tryz.underlying85) rfl ?_
 refine AWl.put (R_lt rfl (.no rfl) rfl (.tmp rfl fun _ => rfl) (.tmp rfl fun _ => rfl)) rfl ?_
 refine AWl.nil ?_
 refine AW.cond (.tmp rfl fun _ => rfl) (fun h18 => ?_) (fun h18 => ?_)
 · skip
   try simp at h18
   obtain ⟨x, hx⟩ : ∃ ξ, q.Atoms[k]? = some ξ := ⟨_, List.getElem?_eq_getElem (by omega)⟩
   have hxm := List.mem_of_getElem? hx
   have hxr := hvt.2.2 x hxm
   have hrl : (relsV g q)[k]? = some (evalE g x.Expr).1 := by (unfold relsV; rw [List.getElem?_map, hx]; rfl)
   refine AW.skip ?_
   refine AW.seq ?_
   refine AW.block ?_
   refine AW.seq ?_
   refine AW.region ?_
   refine AWl.put (by exact R_fieldAddr rfl (.no rfl) rfl (.tmp rfl fun _ => rfl) fl87_1) rfl ?_
   refine AWl.put (by exact R_load rfl (.no rfl) rfl (.tmp rfl fun _ => rfl) ty85 rfl rfl) rfl ?_
   refine AWl.put (R_move rfl (.no rfl) rfl (.tmp rfl fun _ => rfl)) rfl ?_
   refine AWl.put (by exact R_indexAddr rfl (.no rfl) rfl (.tmp rfl fun _ => rfl) (.tmp rfl fun _ => rfl) Tryz.underlying85 ty129 (fun _ => ⟨by omega, (by exact map_get hx)⟩)) rfl ?_
   refine AWl.put (by exact R_load rfl (.no rfl) rfl (.tmp rfl fun _ => rfl) ty129 rfl rfl) rfl ?_
   refine AWl.add (R_alloc 12 rfl rfl rfl in129 rfl rfl rfl) rfl ?_
   refine AWl.chgb (R_store_pb rfl rfl rfl (.tmp rfl fun _ => rfl) (.tmp rfl fun _ => rfl) rfl ty129 rfl rfl rfl (by kernel_rfl) rfl) ?_
   refine AWl.nil (AW.seq ?_)
   refine AW.le (σ' := ⟨_, [(1, _), (2, _), (3, _), (4, _), (5, _), (11, _), (12, _)], [(1200, _), (12, _)]⟩) (Le.sub0 rfl ⟨rfl, rfl, rfl, rfl, rfl, rfl, rfl, trivial⟩ ⟨rfl, rfl, trivial⟩) ?_
   refine AW.drawn 28 (nthB [[], [0], [], [2], [0, 1, 2, 3], [], [5], [5, 6], [0, 1, 2, 3, 4, 5, 6, 7], [0, 1, 2, 3, 4, 5, 6, 7, 8], [0, 1, 2, 3, 4, 5, 6, 7, 8, 9], [0, 1, 2, 3, 4, 5, 6, 7, 8, 9], [0, 1, 2, 3, 4, 5, 6, 7, 8, 9, 10, 11], [0, 1, 2, 3, 4, 5, 6, 7, 8, 9, 10, 11, 12], [0, 1, 2, 3, 4, 5, 6, 7, 8, 9], [0, 1, 2, 3, 4, 5, 6, 7, 8, 9], [0, 1, 2, 3, 4, 5, 6, 7, 8, 9, 15], [0, 1, 2, 3, 4, 5, 6, 7, 8, 9, 14, 15, 16], [0, 1, 2, 3, 4, 5, 6, 7, 8, 9, 14, 15, 16, 17], [0, 1, 2, 3, 4, 5, 6, 7, 8, 9], [0, 1, 2, 3, 4, 5, 6, 7, 8, 9], [0, 1, 2, 3, 4, 5, 6, 7, 8, 9, 20], [0, 1, 2, 3, 4, 5, 6, 7, 8, 9, 19, 20, 21], [0, 1, 2, 3, 4, 5, 6, 7, 8, 9, 19, 20, 21, 22], [0, 1, 2, 3, 4, 5, 6, 7, 8, 9, 14, 15, 16, 17, 18, 19, 20, 21, 22, 23], [0, 1, 2, 3, 4, 5, 6, 7, 8, 9, 10, 11, 12, 13, 14, 15, 16, 17, 18, 19, 20, 21, 22, 23, 24], [0, 1, 2, 3, 4, 5, 6, 7, 8, 9, 10, 11, 12, 13, 14, 15, 16, 17, 18, 19, 20, 21, 22, 23, 24, 25], [0, 1, 2, 3, 4, 5, 6, 7, 8, 9, 10, 11, 12, 13, 14, 15, 16, 17, 18, 19, 20, 21, 22, 23, 24, 25, 26]]) (by kernel_rfl) (by kernel_rfl) (by kernel_rfl) ?_
   refine DrawC.step rfl rfl rfl (Loc.of rfl fun σ' hs => (by exact R_fieldAddr_pp rfl (.no rfl) (hd_sup hs rfl) (.tmp (hs.slots _ _ rfl) fun _ => rfl) fl129_0)) ?_
   refine DrawC.step rfl rfl rfl (Loc.of rfl fun σ' hs => (by exact R_load_pp rfl (.no rfl) (hd_sup hs rfl) (.tmp (hs.slots _ _ rfl) fun _ => rfl) (hs.res _ _ rfl) ty3 rfl rfl)) ?_
   refine DrawC.step rfl rfl rfl (Loc.of rfl fun σ' hs => (by exact R_fieldAddr_pp rfl (.no rfl) (hd_sup hs rfl) (.tmp (hs.slots _ _ rfl) fun _ => rfl) fl129_1)) ?_
   refine DrawC.step rfl rfl rfl (Loc.of rfl fun σ' hs => (by exact R_load_pp rfl (.no rfl) (hd_sup hs rfl) (.tmp (hs.slots _ _ rfl) fun _ => rfl) (hs.res _ _ rfl) ty3 rfl rfl)) ?_
   refine DrawC.step rfl rfl rfl (Loc.of rfl fun σ' hs => R_max rfl (.no rfl) (hd_sup hs rfl) (.tmp (hs.slots _ _ rfl) fun _ => rfl) (.tmp (hs.slots _ _ rfl) fun _ => rfl)) ?_
   refine DrawC.step rfl rfl rfl (Loc.of rfl fun σ' hs => R_move rfl (.no rfl) (hd_sup hs rfl) (.tmp (hs.slots _ _ rfl) fun _ => rfl)) ?_
   refine DrawC.step rfl rfl rfl (Loc.of rfl fun σ' hs => (by exact R_lenm rfl (.no rfl) (hd_sup hs rfl) (.tmp (hs.slots _ _ rfl) fun _ => rfl) (by exact .t) Tryz.underlying22)) ?_
   refine DrawC.step rfl rfl rfl (Loc.of rfl fun σ' hs => R_sub rfl (.no rfl) (hd_sup hs rfl) (.tmp (hs.slots _ _ rfl) fun _ => rfl) (.const rfl) (fun _ => by omega)) ?_
   refine DrawC.step rfl rfl rfl (Loc.of rfl fun σ' hs => R_eq rfl (.no rfl) (hd_sup hs rfl) (.tmp (hs.slots _ _ rfl) fun _ => rfl) (.tmp (hs.slots _ _ rfl) fun _ => rfl)) ?_
   refine DrawC.step rfl rfl rfl (Loc.of rfl fun σ' hs => R_move rfl (.no rfl) (hd_sup hs rfl) (.tmp (hs.slots _ _ rfl) fun _ => rfl)) ?_
   refine DrawC.step rfl rfl rfl (Loc.of rfl fun σ' hs => R_move rfl (by exact .yes1 rfl rfl (hs.slots _ _ rfl) (by rw [hs.n]; rfl)) (hd_sup hs rfl) (.tmp (hs.slots _ _ rfl) (by exact fun _ => rfl))) ?_
   refine DrawC.step rfl rfl rfl (Loc.of rfl fun σ' hs => R_move rfl (by exact .yes1 rfl rfl (hs.slots _ _ rfl) (by rw [hs.n]; rfl)) (hd_sup hs rfl) (.tmp (hs.slots _ _ rfl) (by exact fun _ => rfl))) ?_
   refine DrawC.step rfl rfl rfl (Loc.of rfl fun σ' hs => (by exact R_indexAddr rfl (by exact .yes1 rfl rfl (hs.slots _ _ rfl) (by rw [hs.n]; rfl)) (hd_sup hs rfl) (.tmp (hs.slots _ _ rfl) (by exact id)) (.tmp (hs.slots _ _ rfl) (by exact id)) Tryz.underlying125 ty126 (fun hq => by (try simp at hq); exact ⟨by omega, (by exact map_get hrl)⟩))) ?_
   refine DrawC.step rfl rfl rfl (Loc.of rfl fun σ' hs => (by exact R_load rfl (by exact .yes1 rfl rfl (hs.slots _ _ rfl) (by rw [hs.n]; rfl)) (hd_sup hs rfl) (.tmp (hs.slots _ _ rfl) (by exact id)) ty126 rfl rfl)) ?_
   refine DrawC.step rfl rfl rfl (Loc.of rfl fun σ' hs => R_move rfl (by exact .yes1 rfl rfl (hs.slots _ _ rfl) (by rw [hs.n]; rfl)) (hd_sup hs rfl) (.tmp (hs.slots _ _ rfl) (by exact fun _ => rfl))) ?_
   refine DrawC.step rfl rfl rfl (Loc.of rfl fun σ' hs => (by exact R_fieldAddr_pp rfl (by exact .yes1 rfl rfl (hs.slots _ _ rfl) (by rw [hs.n]; rfl)) (hd_sup hs rfl) (.tmp (hs.slots _ _ rfl) (by exact fun _ => rfl)) fl129_0)) ?_
   refine DrawC.step rfl rfl rfl (Loc.of rfl fun σ' hs => (by exact R_load_pp rfl (by exact .yes1 rfl rfl (hs.slots _ _ rfl) (by rw [hs.n]; rfl)) (hd_sup hs rfl) (.tmp (hs.slots _ _ rfl) (by exact id)) (hs.res _ _ rfl) ty3 rfl rfl)) ?_
   refine DrawC.step rfl rfl rfl (Loc.of rfl fun σ' hs => (by exact R_indexAddr rfl (by exact .yes1 rfl rfl (hs.slots _ _ rfl) (by rw [hs.n]; rfl)) (hd_sup hs rfl) (.tmp (hs.slots _ _ rfl) (by exact id)) (.tmp (hs.slots _ _ rfl) (by exact id)) Tryz.underlying22 ty3 (fun hq => by simp at hq; exact ⟨by omega, map_get (atI_get (by omega))⟩))) ?_
   refine DrawC.step rfl rfl rfl (Loc.of rfl fun σ' hs => (by exact R_load rfl (by exact .yes1 rfl rfl (hs.slots _ _ rfl) (by rw [hs.n]; rfl)) (hd_sup hs rfl) (.tmp (hs.slots _ _ rfl) (by exact id)) ty3 rfl rfl)) ?_
   refine DrawC.step rfl rfl rfl (Loc.of rfl fun σ' hs => R_move rfl (by exact .yes1 rfl rfl (hs.slots _ _ rfl) (by rw [hs.n]; rfl)) (hd_sup hs rfl) (.tmp (hs.slots _ _ rfl) (by exact fun _ => rfl))) ?_
   refine DrawC.step rfl rfl rfl (Loc.of rfl fun σ' hs => (by exact R_fieldAddr_pp rfl (by exact .yes1 rfl rfl (hs.slots _ _ rfl) (by rw [hs.n]; rfl)) (hd_sup hs rfl) (.tmp (hs.slots _ _ rfl) (by exact fun _ => rfl)) fl129_1)) ?_
   refine DrawC.step rfl rfl rfl (Loc.of rfl fun σ' hs => (by exact R_load_pp rfl (by exact .yes1 rfl rfl (hs.slots _ _ rfl) (by rw [hs.n]; rfl)) (hd_sup hs rfl) (.tmp (hs.slots _ _ rfl) (by exact id)) (hs.res _ _ rfl) ty3 rfl rfl)) ?_
   refine DrawC.step rfl rfl rfl (Loc.of rfl fun σ' hs => (by exact R_indexAddr rfl (by exact .yes1 rfl rfl (hs.slots _ _ rfl) (by rw [hs.n]; rfl)) (hd_sup hs rfl) (.tmp (hs.slots _ _ rfl) (by exact id)) (.tmp (hs.slots _ _ rfl) (by exact id)) Tryz.underlying22 ty3 (fun hq => by simp at hq; exact ⟨by omega, map_get (atI_get (by omega))⟩))) ?_
   refine DrawC.step rfl rfl rfl (Loc.of rfl fun σ' hs => (by exact R_load rfl (by exact .yes1 rfl rfl (hs.slots _ _ rfl) (by rw [hs.n]; rfl)) (hd_sup hs rfl) (.tmp (hs.slots _ _ rfl) (by exact id)) ty3 rfl rfl)) ?_
   refine DrawC.step rfl rfl rfl (Loc.of rfl fun σ' hs => R_grd (by exact .yes1 rfl rfl (hs.slots _ _ rfl) (by rw [hs.n]; rfl)) (hd_sup hs rfl) fun hq => R_build (ps := [(0, .tmp 44), (1, .tmp 49)]) rfl rfl (hd_sup hs rfl) in170 rfl rfl st170 (.cons (.tmp (hs.slots _ _ rfl) (by exact fun _ => hq)) rfl rfl fp170_0 (.cons (.tmp (hs.slots _ _ rfl) (by exact fun _ => hq)) rfl rfl fp170_1 .nil)) rfl) ?_
   refine DrawC.step rfl rfl rfl (Loc.of rfl fun σ' hs => R_callq rfl (by exact .yes1 rfl rfl (hs.slots _ _ rfl) (by rw [hs.n]; rfl)) (hd_sup hs rfl) (.cons (.tmp (hs.slots _ _ rfl) (by exact id)) (readA_sup hs rfl) (.cons (.tmp (hs.slots _ _ rfl) (by exact id)) (readA_sup hs rfl) .nil)) fun hq => FnT.fr (specl15Has (evalE g x.Expr).1 (bindP row x))) ?_
   refine DrawC.step rfl rfl rfl (Loc.of rfl fun σ' hs => R_not rfl (by exact .yes1 rfl rfl (hs.slots _ _ rfl) (by rw [hs.n]; rfl)) (hd_sup hs rfl) (.tmp (hs.slots _ _ rfl) (by exact id))) ?_
   refine DrawC.step rfl rfl rfl (Loc.of rfl fun σ' hs => R_and rfl (.no rfl) (hd_sup hs rfl) (.tmp (hs.slots _ _ rfl) fun _ => rfl) (.tmp (hs.slots _ _ rfl) (by exact id))) ?_
   refine DrawC.fin rfl rfl ?_
   refine AWl.nil ?_
   refine AW.cond (.tmp rfl fun _ => rfl) (fun h53 => ?_) (fun h53 => ?_)
   · skip
     skip
     have hno : okAtom g row x = false := (by unfold okAtom bindOk; simpa using h53)
     refine AW.seq ?_
     refine AW.le (σ' := ⟨_, [(1, _), (2, _), (3, _), (4, _), (5, _), (11, _), (12, _)], [(1200, _), (12, _)]⟩) (Le.sub0 rfl ⟨rfl, rfl, rfl, rfl, rfl, rfl, rfl, trivial⟩ ⟨rfl, rfl, trivial⟩) ?_
     refine AW.region ?_
     refine AWl.put (R_move rfl (.no rfl) rfl (.tmp rfl fun _ => rfl)) rfl ?_
     refine AWl.put (R_assign rfl (.no rfl) rfl (.tmp rfl fun _ => rfl)) rfl ?_
     refine AWl.nil (AW.ret ?_)
     refine Res.one rfl (.tmp rfl .nil) rfl ?_
     rw [show walkV g.Values.length (okRow g q) d row = [] by (have hf : okRow g q row = false := (by rw [okRow_eq, List.all_eq_false]; exact ⟨x, hxm, by rw [hno]; simp⟩); cases d <;> simp [walkV, hf])]; simp; rfl
   · skip
     skip
     have hyes : okAtom g row x = true := (by unfold okAtom bindOk; simp only [Bool.or_eq_true, Bool.not_eq_true', decide_eq_false_iff_not, decide_eq_true_eq]; exact Classical.or_iff_not_imp_left.2 fun hm => by simp at h53; exact h53 (Classical.not_not.1 hm))
     refine AW.skip ?_
     refine AW.le (σ' := ⟨_, [(1, _), (2, _), (3, _), (4, _), (5, _), (11, _), (12, _)], [(1200, _), (12, _)]⟩) (Le.sub0 rfl ⟨rfl, rfl, rfl, rfl, rfl, rfl, rfl, trivial⟩ ⟨rfl, rfl, trivial⟩) ?_
     refine AW.region ?_
     refine AWl.put (R_move rfl (.no rfl) rfl (.tmp rfl fun _ => rfl)) rfl ?_
     refine AWl.put (R_add rfl (.no rfl) rfl (.tmp rfl fun _ => rfl) (.const rfl) (fun _ => by omega)) rfl ?_
     refine AWl.put (R_assign rfl (.no rfl) rfl (.tmp rfl fun _ => rfl)) rfl ?_
     refine AWl.nil ?_
     repeat (with_reducible refine BlockQ.nor ?_)
     refine Round1.next (k + 1) ⟨⟨by omega, each_succ hk.2 hx hyes⟩, trivial⟩ (by omega) (Le.sub0 rfl ⟨rfl, rfl, rfl, rfl, rfl, rfl, trivial⟩ ⟨(by rfl), trivial⟩)
 · skip
   try simp at h18
   have hall : okRow g q row = true := (by rw [okRow_eq, List.all_eq_true]; intro y hy; obtain ⟨j, hj⟩ := List.getElem?_of_mem hy; exact hk.2 j y (by have := (List.getElem?_eq_some_iff.1 hj).1; omega) hj)
   refine AW.exit ?_
   refine AW.seq ?_
   refine AW.seq ?_
   refine AW.region ?_
   refine AWl.put (R_move rfl (.no rfl) rfl (.tmp rfl fun _ => rfl)) rfl ?_
   refine AWl.put (by exact R_lenm rfl (.no rfl) rfl (.tmp rfl fun _ => rfl) (by exact .t) Tryz.underlying22) rfl ?_
   refine AWl.put (by exact R_fieldAddr rfl (.no rfl) rfl (.tmp rfl fun _ => rfl) fl87_0) rfl ?_
   refine AWl.put (by exact R_load rfl (.no rfl) rfl (.tmp rfl fun _ => rfl) ty3 rfl rfl) rfl ?_
   refine AWl.put (R_eq rfl (.no rfl) rfl (.tmp rfl fun _ => rfl) (.tmp rfl fun _ => rfl)) rfl ?_
   refine AWl.nil ?_
   refine AW.cond (.tmp rfl fun _ => rfl) (fun h59 => ?_) (fun h59 => ?_)
   · skip
     try simp at h59
     have hd0 : d = 0 := (by omega)
     refine AW.seq ?_
     refine AW.le (σ' := ⟨_, [(1, _), (2, _), (3, _), (4, _), (5, _), (11, _)], [(1200, _)]⟩) (Le.sub0 rfl ⟨rfl, rfl, rfl, rfl, rfl, rfl, trivial⟩ ⟨rfl, trivial⟩) ?_
     refine AW.region ?_
     refine AWl.put (R_move rfl (.no rfl) rfl (.tmp rfl fun _ => rfl)) rfl ?_
     refine AWl.add (R_empty 61 rfl rfl rfl Tryz.underlying22 ty3 rfl) rfl ?_
     refine AWl.put (R_move rfl (.no rfl) rfl (.tmp rfl fun _ => rfl)) rfl ?_
     refine AWl.chgput (R_append rfl rfl rfl (.tmp rfl fun _ => rfl) rfl (.tmp rfl fun _ => rfl) (by exact .t) (by exact isV_map (fun _ => rfl) _) Tryz.underlying22 in3 rfl (by (simp [chunk]; omega)) (by (unfold maxLen; simp [chunk]; omega))) rfl ?_
     refine AWl.le (σ' := ⟨_, [(1, _), (2, _), (3, _), (4, _), (5, _), (11, _), (60, _), (63, _)], [(1200, _), (61, _)]⟩) (Le.sub0 rfl ⟨rfl, rfl, rfl, rfl, rfl, rfl, rfl, rfl, trivial⟩ ⟨rfl, rfl, trivial⟩) ?_
     refine AWl.absadd (R_list (xs := [.tmp 63]) 64 rfl rfl rfl (.cons (.tmp rfl fun _ => rfl) rfl rfl .nil) Tryz.underlying27 in22 rfl rfl rfl rfl) rfl ?_
     refine AWl.abschgput (R_append_own rfl rfl rfl (.tmp rfl fun _ => rfl) rfl (.tmp rfl fun _ => rfl) rfl rfl Tryz.underlying27 in22 rfl (by (simp [chunk]; omega)) (by (unfold maxLen; simp [chunk]; omega))) rfl ?_
     refine AWl.le (σ' := ⟨_, [(1, _), (2, _), (3, _), (4, _), (5, _), (11, _), (65, _)], [(1200, _)]⟩) (Le.sub0 rfl ⟨rfl, rfl, rfl, rfl, rfl, rfl, rfl, trivial⟩ ⟨rfl, trivial⟩) ?_
     refine AWl.put (R_assign rfl (.no rfl) rfl (.tmp rfl fun _ => rfl)) rfl ?_
     refine AWl.nil (AW.ret ?_)
     refine Res.one rfl (.tmp rfl .nil) rfl ?_
     subst hd0; rw [walkV, if_pos hall]; refine congrArg (fun r => [V0.one (T.sl 1 r)]) ?_; simp [chunk, cIntS]
   · skip
     try simp at h59
     have hdp : 0 < d := (by omega)
     have hpw := pow_step hdp
     refine AW.skip ?_
     refine AW.seq ?_
     refine AW.seq ?_
     refine AW.le (σ' := ⟨_, [(1, _), (2, _), (3, _), (4, _), (5, _), (11, _)], [(1200, _)]⟩) (Le.sub0 rfl ⟨rfl, rfl, rfl, rfl, rfl, rfl, trivial⟩ ⟨rfl, trivial⟩) ?_
     refine AW.region ?_
     refine AWl.put (R_assign rfl (.no rfl) rfl (.const rfl)) rfl ?_
     refine AWl.nil (AW.block ?_)
     refine AW.loop1 (fun (x2 : Nat) => (x2 ≤ g.Values.length) ∧ True) (fun (x2 : Nat) => ⟨_, [(13, (true, .a (.one (.t (.v (.int .i64 (x2 : Nat))))))), (4, (true, .a (.one (.rf 1200)))), (1, _), (2, _), (3, _), (5, _)], [(1200, .row 1 ((out ++ walkTo g.Values.length (okRow g q) (d - 1) row x2).map cIntS))]⟩) (fun (x2 : Nat) => g.Values.length - x2) (0) ⟨Nat.zero_le _, trivial⟩ (Le.sub0 rfl ⟨rfl, rfl, rfl, rfl, rfl, rfl, trivial⟩ ⟨(by refine congrArg (fun r => some (R.row 1 r)) ?_; simp [walkTo]), trivial⟩) ?_
     rintro x2 ⟨hk1, he1⟩
     refine AW.seq ?_
     refine AW.seq ?_
     refine AW.region ?_
     refine AWl.put (R_move rfl (.no rfl) rfl (.tmp rfl fun _ => rfl)) rfl ?_
     refine AWl.put (R_move rfl (.no rfl) rfl (.tmp rfl fun _ => rfl)) rfl ?_
     refine AWl.put (R_lt rfl (.no rfl) rfl (.tmp rfl fun _ => rfl) (.tmp rfl fun _ => rfl)) rfl ?_
     refine AWl.nil ?_
     refine AW.cond (.tmp rfl fun _ => rfl) (fun h68 => ?_) (fun h68 => ?_)
     · skip
       try simp at h68
       have hwl := walkTo_len hn (okRow g q) (d - 1) row x2
       have hxm2 : x2 * 5 ^ (d - 1) + 5 ^ (d - 1) ≤ 5 * 5 ^ (d - 1) := (by rw [← Nat.succ_mul]; exact Nat.mul_le_mul_right _ (by omega))
       refine AW.skip ?_
       refine AW.seq ?_
       refine AW.block ?_
       refine AW.le (σ' := ⟨_, [(1, _), (2, _), (3, _), (4, _), (5, _), (13, _), (66, _), (67, _), (68, _)], [(1200, _)]⟩) (Le.sub0 rfl ⟨rfl, rfl, rfl, rfl, rfl, rfl, rfl, rfl, rfl, trivial⟩ ⟨rfl, trivial⟩) ?_
       refine AW.drawK 10 (nthB [[], [], [], [], [], [3, 4], [], [6], [3, 4, 5, 6, 7], []]) [(5, 74), (8, 74)] (by kernel_rfl) (by kernel_rfl) (by kernel_rfl) ?_
       refine DrawK.step (LocK.of rfl fun σ' hs => (by exact R_load rfl (.no rfl) (hd_sup hs rfl) (.tmp (hs.slots _ _ rfl) fun _ => rfl) ty87 rfl rfl)) ?_
       refine DrawK.step (LocK.of rfl fun σ' hs => R_move rfl (.no rfl) (hd_sup hs rfl) (.tmp (hs.slots _ _ rfl) fun _ => rfl)) ?_
       refine DrawK.step (LocK.of rfl fun σ' hs => R_move rfl (.no rfl) (hd_sup hs rfl) (.tmp (hs.slots _ _ rfl) fun _ => rfl)) ?_
       refine DrawK.step (LocK.of1 rfl fun σ' hs hf => R_empty 74 rfl rfl (hd_sup hs rfl) Tryz.underlying22 ty3 hf) ?_
       refine DrawK.step (LocK.of rfl fun σ' hs => R_move rfl (.no rfl) (hd_sup hs rfl) (.tmp (hs.slots _ _ rfl) fun _ => rfl)) ?_
       refine DrawK.step (LocK.ofc rfl rfl fun σ' hs => R_append (id := 74) rfl rfl (hd_sup hs rfl) (.tmp (hs.slots _ _ rfl) fun _ => rfl) (hs.res _ _ rfl) (.tmp (hs.slots _ _ rfl) fun _ => rfl) (by exact .t) (by exact isV_map (fun _ => rfl) _) Tryz.underlying22 in3 rfl (by (simp [chunk]; omega)) (by (unfold maxLen; simp [chunk]; omega))) ?_
       refine DrawK.step (LocK.of rfl fun σ' hs => R_move rfl (.no rfl) (hd_sup hs rfl) (.tmp (hs.slots _ _ rfl) fun _ => rfl)) ?_
       refine DrawK.step (LocK.of rfl fun σ' hs => R_listz (xs := [.tmp 77]) (rows := [cInt (x2 : Int)]) rfl rfl (hd_sup hs rfl) (.cons (.tmp (hs.slots _ _ rfl) fun _ => rfl) rfl rfl .nil) Tryz.underlying22 in3 rfl rfl (rfl)) ?_
       refine DrawK.step (LocK.ofc rfl rfl fun σ' hs => R_append (id := 74) rfl rfl (hd_sup hs rfl) (.tmp (hs.slots _ _ rfl) fun _ => rfl) (hs.res _ _ rfl) (.tmp (hs.slots _ _ rfl) fun _ => rfl) (by exact .t) (by rfl) Tryz.underlying22 in3 rfl (by (simp [chunk]; omega)) (by (unfold maxLen; simp [chunk]; omega))) ?_
       refine DrawK.step (LocK.of rfl fun σ' hs => R_move rfl (.no rfl) (hd_sup hs rfl) (.tmp (hs.slots _ _ rfl) fun _ => rfl)) ?_
       refine DrawK.fin rfl rfl rfl ?_
       refine AWl.le (σ' := ⟨_, [(1, _), (2, _), (3, _), (4, _), (5, _), (13, _), (68, _), (71, _), (72, _), (73, _), (79, _), (80, _)], [(1200, _), (74, _)]⟩) (Le.sub0 rfl ⟨rfl, rfl, rfl, rfl, rfl, rfl, rfl, rfl, rfl, rfl, rfl, rfl, trivial⟩ ⟨rfl, rfl, trivial⟩) ?_
       refine AWl.le (Le.frzRe 74 79 ((row ++ [((x2 : Nat) : Int)]).map cInt) (by simp [cInt]) rfl rfl) ?_
       apply AWl.consume
       case ho =>
        apply R_consume (xo := .tmp 80) 1200 (ih (d - 1) (by omega) (row ++ [((x2 : Nat) : Int)]) (out ++ walkTo g.Values.length (okRow g q) (d - 1) row x2) (by simp; omega) (by rw [List.length_append]; omega)) rfl rfl rfl (.tmp rfl fun _ => rfl)
        case ha => rfl
        case hargs => exact (ArgC.agg (.tmp rfl fun _ => rfl) (ArgC.one (.tmp rfl fun _ => rfl) (ArgC.one (.tmp rfl fun _ => rfl) (ArgC.one (.tmp rfl fun _ => rfl) (ArgC.own .nil)))))
        all_goals rfl
       case hd => rfl
       refine AWl.put (R_assign rfl (.no rfl) rfl (.tmp rfl fun _ => rfl)) rfl ?_
       refine AWl.nil ?_
       refine AW.le (σ' := ⟨_, [(1, _), (2, _), (3, _), (4, _), (5, _), (13, _)], [(1200, _)]⟩) (Le.sub0 rfl ⟨rfl, rfl, rfl, rfl, rfl, rfl, trivial⟩ ⟨rfl, trivial⟩) ?_
       refine AW.region ?_
       refine AWl.put (R_move rfl (.no rfl) rfl (.tmp rfl fun _ => rfl)) rfl ?_
       refine AWl.put (R_add rfl (.no rfl) rfl (.tmp rfl fun _ => rfl) (.const rfl) (fun _ => by omega)) rfl ?_
       refine AWl.put (R_assign rfl (.no rfl) rfl (.tmp rfl fun _ => rfl)) rfl ?_
       refine AWl.nil ?_
       repeat (with_reducible refine BlockQ.nor ?_)
       refine Round1.next (x2 + 1) ⟨by omega, trivial⟩ (by omega) (Le.sub0 rfl ⟨rfl, rfl, rfl, rfl, rfl, rfl, trivial⟩ ⟨(by (refine congrArg (fun r => some (R.row 1 r)) ?_; rw [walkTo_succ, List.append_assoc])), trivial⟩)
     · skip
       try simp at h68
       refine AW.exit ?_
       refine AW.seq ?_
       refine AW.region ?_
       refine AWl.put (R_move rfl (.no rfl) rfl (.tmp rfl fun _ => rfl)) rfl ?_
       refine AWl.put (R_assign rfl (.no rfl) rfl (.tmp rfl fun _ => rfl)) rfl ?_
       refine AWl.nil (AW.ret ?_)
       refine Res.one rfl (.tmp rfl .nil) rfl ?_
       rw [walkV_end hdp hall, show g.Values.length = x2 by omega]; rfl
theorem specEvaluateConjunction (g : TGraph) (q : TConjunction) (hz : q.Atoms.length ≤ 1048576) : FnT Tryz.prog 35 [.agg (cGraph g), .agg (cConjunction q)] (.a (.one (.sl 1 ((evalC g q).map cIntS)))) := by
 refine FnT.walk Tryz.func35 rfl (by kernel_rfl) Tryz.ntmps35 rfl fun hlen w0 => ?_
 try simp [cPair, cToken, cExpr, cEdge, cGraph, cStep, cWalk, cChange, cBatch, cHistory, cPositions, cAutomaton, cProductStep, cPathAtom, cConjunction, cView, cDelta, cRegistered, cRegistry] at hlen
 refine AW.seq ?_
 refine AW.region ?_
 refine AWl.put (R_boxz rfl rfl rfl (.tmp rfl fun _ => rfl) (ts := _) (by rfl)) rfl ?_
 refine AWl.put (R_boxz rfl rfl rfl (.tmp rfl fun _ => rfl) (ts := _) (by rfl)) rfl ?_
 refine AWl.put (R_assign rfl (.no rfl) rfl (.const rfl)) rfl ?_
 refine AWl.nilS (i := 4) 20001 1 rfl rfl ?_
 refine AWl.nil (AW.seq ?_)
 refine AW.region ?_
 refine AWl.add (R_empty 8 rfl rfl rfl Tryz.underlying27 ty22 rfl) rfl ?_
 refine AWl.put (R_assign rfl (.no rfl) rfl (.tmp rfl fun _ => rfl)) rfl ?_
 refine AWl.nil (AW.seq ?_)
 refine AW.seq ?_
 refine AW.region ?_
 refine AWl.put (by exact R_load rfl (.no rfl) rfl (.tmp rfl fun _ => rfl) ty43 rfl rfl) rfl ?_
 refine AWl.put (R_callz (FnT.fr (specIsValidGraph g)) rfl (.no rfl) rfl (.cons (.tmp rfl fun _ => rfl) rfl .nil)) rfl ?_
 refine AWl.put (R_not rfl (.no rfl) rfl (.tmp rfl fun _ => rfl)) rfl ?_
 refine AWl.put (R_move rfl (.no rfl) rfl (.tmp rfl fun _ => rfl)) rfl ?_
 refine AWl.put (by exact R_load rfl (by exact .not1 rfl rfl rfl rfl) rfl (.tmp rfl (by exact fun _ => rfl)) ty87 rfl rfl) rfl ?_
 refine AWl.put (R_callz (FnT.fr (specIsValidConjunction q)) rfl (by exact .not1 rfl rfl rfl rfl) rfl (.cons (.tmp rfl (by exact id)) rfl .nil)) rfl ?_
 refine AWl.put (R_not rfl (by exact .not1 rfl rfl rfl rfl) rfl (.tmp rfl (by exact id))) rfl ?_
 refine AWl.put (R_or rfl (.no rfl) rfl (.tmp rfl fun _ => rfl) (.tmp rfl (by exact id))) rfl ?_
 refine AWl.nil ?_
 refine AW.cond (.tmp rfl fun _ => rfl) (fun h16 => ?_) (fun h16 => ?_)
 · skip
   try simp at h16
   have hno : evalC g q = [] := by (unfold evalC; rw [if_neg (by intro h; simp only [Bool.and_eq_true] at h; simp [h.1, h.2] at h16)])
   refine AW.seq ?_
   refine AW.le (σ' := ⟨_, [(0, _), (1, _), (2, _), (3, _), (4, _), (5, _)], [(20001, _), (8, _)]⟩) (Le.sub0 rfl ⟨rfl, rfl, rfl, rfl, rfl, rfl, trivial⟩ ⟨rfl, rfl, trivial⟩) ?_
   refine AW.region ?_
   refine AWl.put (R_move rfl (.no rfl) rfl (.tmp rfl fun _ => rfl)) rfl ?_
   refine AWl.put (R_assign rfl (.no rfl) rfl (.tmp rfl fun _ => rfl)) rfl ?_
   refine AWl.nil (AW.ret ?_)
   refine Res.one rfl (.tmp rfl .nil) rfl ?_
   rw [hno]; rfl
 · skip
   try simp at h16
   have hg : validG g = true := by (first | exact h16.1 | (simp at h16; exact h16.1))
   have hv : validConj q = true := by (first | exact h16.2 | (simp at h16; exact h16.2))
   have hG := validG_len hg
   have hvt := conj_atoms hv
   refine AW.skip ?_
   refine AW.seq ?_
   refine AW.le (σ' := ⟨_, [(0, _), (1, _), (2, _), (3, _), (4, _), (5, _)], [(20001, _), (8, _)]⟩) (Le.sub0 rfl ⟨rfl, rfl, rfl, rfl, rfl, rfl, trivial⟩ ⟨rfl, rfl, trivial⟩) ?_
   refine AW.region ?_
   refine AWl.add (R_empty 18 rfl rfl rfl Tryz.underlying125 ty126 rfl) rfl ?_
   refine AWl.put (R_assign rfl (.no rfl) rfl (.tmp rfl fun _ => rfl)) rfl ?_
   refine AWl.nil (AW.seq ?_)
   refine AW.seq ?_
   refine AW.region ?_
   refine AWl.put (R_assign rfl (.no rfl) rfl (.const rfl)) rfl ?_
   refine AWl.nil (AW.block ?_)
   refine AW.loop1 (fun (k : Nat) => (k ≤ q.Atoms.length) ∧ True) (fun (k : Nat) => ⟨_, [(7, (true, .a (.one (.t (.v (.int .i64 (k : Nat))))))), (6, (true, .a (.one (.rf 18)))), (2, _), (3, _), (4, _), (5, _)], [(8, .row 1 []), (18, .row 1 (((q.Atoms.take k).map fun x => (evalE g x.Expr).1).map cPairS))]⟩) (fun (k : Nat) => q.Atoms.length - k) (0) ⟨Nat.zero_le _, trivial⟩ (Le.sub0 rfl ⟨rfl, rfl, rfl, rfl, rfl, rfl, trivial⟩ ⟨rfl, rfl, trivial⟩) ?_
   rintro k ⟨hk, he⟩
   refine AW.seq ?_
   refine AW.seq ?_
   refine AW.region ?_
   refine AWl.put (R_move rfl (.no rfl) rfl (.tmp rfl fun _ => rfl)) rfl ?_
   refine AWl.put (by exact R_fieldAddr rfl (.no rfl) rfl (.tmp rfl fun _ => rfl) fl87_1) rfl ?_
   refine AWl.put (by exact R_load rfl (.no rfl) rfl (.tmp rfl fun _ => rfl) ty85 rfl rfl) rfl ?_
   refine AWl.put (by exact R_lenm rfl (.no rfl) rfl (.tmp rfl fun _ => rfl) (by exact .t) Tryz.underlying85) rfl ?_
   refine AWl.put (R_lt rfl (.no rfl) rfl (.tmp rfl fun _ => rfl) (.tmp rfl fun _ => rfl)) rfl ?_
   refine AWl.nil ?_
   refine AW.cond (.tmp rfl fun _ => rfl) (fun h23 => ?_) (fun h23 => ?_)
   · skip
     try simp at h23
     obtain ⟨x, hx⟩ : ∃ ξ, q.Atoms[k]? = some ξ := ⟨_, List.getElem?_eq_getElem (by omega)⟩
     refine AW.skip ?_
     refine AW.seq ?_
     refine AW.block ?_
     refine AW.dagn 13 45 [[], [0], [1], [2], [4], [0, 1], [0, 2], [0, 4], [1, 2], [1, 4], [2, 3], [2, 4], [0, 1, 2], [0, 1, 4], [0, 2, 3], [0, 2, 4], [1, 2, 3], [1, 2, 4], [2, 3, 4], [0, 1, 2, 3], [0, 1, 2, 4], [0, 2, 3, 4], [1, 2, 3, 4], [2, 3, 4, 5], [0, 1, 2, 3, 4], [0, 2, 3, 4, 5], [1, 2, 3, 4, 5], [2, 3, 4, 5, 6], [0, 1, 2, 3, 4, 5], [0, 2, 3, 4, 5, 6], [1, 2, 3, 4, 5, 6], [2, 3, 4, 5, 6, 7], [0, 1, 2, 3, 4, 5, 6], [0, 2, 3, 4, 5, 6, 7], [1, 2, 3, 4, 5, 6, 7], [2, 3, 4, 5, 6, 7, 8], [0, 1, 2, 3, 4, 5, 6, 7], [0, 2, 3, 4, 5, 6, 7, 8], [1, 2, 3, 4, 5, 6, 7, 8], [0, 1, 2, 3, 4, 5, 6, 7, 8], [1, 2, 3, 4, 5, 6, 7, 8, 9], [0, 1, 2, 3, 4, 5, 6, 7, 8, 9], [1, 2, 3, 4, 5, 6, 7, 8, 9, 10], [0, 1, 2, 3, 4, 5, 6, 7, 8, 9, 10], [0, 1, 2, 3, 4, 5, 6, 7, 8, 9, 10, 11], [0, 1, 2, 3, 4, 5, 6, 7, 8, 9, 10, 11, 12]] [(0, 0, 1), (0, 1, 2), (0, 2, 3), (0, 4, 4), (1, 1, 5), (2, 0, 5), (1, 2, 6), (3, 0, 6), (1, 4, 7), (4, 0, 7), (2, 2, 8), (3, 1, 8), (2, 4, 9), (4, 1, 9), (3, 3, 10), (3, 4, 11), (4, 2, 11), (5, 2, 12), (8, 0, 12), (6, 1, 12), (5, 4, 13), (9, 0, 13), (7, 1, 13), (6, 3, 14), (10, 0, 14), (6, 4, 15), (11, 0, 15), (7, 2, 15), (8, 3, 16), (10, 1, 16), (8, 4, 17), (11, 1, 17), (9, 2, 17), (10, 4, 18), (11, 3, 18), (12, 3, 19), (16, 0, 19), (14, 1, 19), (12, 4, 20), (17, 0, 20), (15, 1, 20), (13, 2, 20), (14, 4, 21), (18, 0, 21), (15, 3, 21), (16, 4, 22), (18, 1, 22), (17, 3, 22), (18, 5, 23), (19, 4, 24), (22, 0, 24), (21, 1, 24), (20, 3, 24), (21, 5, 25), (23, 0, 25), (22, 5, 26), (23, 1, 26), (23, 6, 27), (24, 5, 28), (26, 0, 28), (25, 1, 28), (25, 6, 29), (27, 0, 29), (26, 6, 30), (27, 1, 30), (27, 7, 31), (28, 6, 32), (30, 0, 32), (29, 1, 32), (29, 7, 33), (31, 0, 33), (30, 7, 34), (31, 1, 34), (31, 8, 35), (32, 7, 36), (34, 0, 36), (33, 1, 36), (33, 8, 37), (35, 0, 37), (34, 8, 38), (35, 1, 38), (36, 8, 39), (38, 0, 39), (37, 1, 39), (38, 9, 40), (39, 9, 41), (40, 0, 41), (40, 10, 42), (41, 10, 43), (42, 0, 43), (43, 11, 44), (44, 12, 45)] (by kernel_rfl) (by kernel_rfl) (by kernel_rfl) ?_
     apply Dag.new (i := 0)
     case ha | ho | hb => rfl
     case hE =>
      intro w9
      refine AWl.put (R_move rfl (.no rfl) rfl (.tmp rfl fun _ => rfl)) rfl ?_
      exact AWl.nil (Le.sub0 (σ' := ⟨_, [(2, _), (3, _), (4, _), (5, _), (6, _), (7, _), (23, _), (26, _)], [(8, _), (18, _)]⟩) rfl ⟨rfl, rfl, rfl, rfl, rfl, rfl, rfl, rfl, trivial⟩ ⟨rfl, rfl, trivial⟩)
     apply Dag.new (i := 1)
     case ha | ho | hb => rfl
     case hE =>
      intro w9
      refine AWl.put (by exact R_load rfl (.no rfl) rfl (.tmp rfl fun _ => rfl) ty43 rfl rfl) rfl ?_
      exact AWl.nil (Le.sub0 (σ' := ⟨_, [(2, _), (3, _), (4, _), (5, _), (6, _), (7, _), (23, _), (27, _)], [(8, _), (18, _)]⟩) rfl ⟨rfl, rfl, rfl, rfl, rfl, rfl, rfl, rfl, trivial⟩ ⟨rfl, rfl, trivial⟩)
     apply Dag.new (i := 2)
     case ha | ho | hb => rfl
     case hE =>
      intro w9
      refine AWl.put (by exact R_fieldAddr rfl (.no rfl) rfl (.tmp rfl fun _ => rfl) fl87_1) rfl ?_
      exact AWl.nil (Le.sub0 (σ' := ⟨_, [(2, _), (3, _), (4, _), (5, _), (6, _), (7, _), (23, _), (28, _)], [(8, _), (18, _)]⟩) rfl ⟨rfl, rfl, rfl, rfl, rfl, rfl, rfl, rfl, trivial⟩ ⟨rfl, rfl, trivial⟩)
     apply Dag.new (i := 4)
     case ha | ho | hb => rfl
     case hE =>
      intro w9
      refine AWl.put (R_move rfl (.no rfl) rfl (.tmp rfl fun _ => rfl)) rfl ?_
      exact AWl.nil (Le.sub0 (σ' := ⟨_, [(2, _), (3, _), (4, _), (5, _), (6, _), (7, _), (23, _), (30, _)], [(8, _), (18, _)]⟩) rfl ⟨rfl, rfl, rfl, rfl, rfl, rfl, rfl, rfl, trivial⟩ ⟨rfl, rfl, trivial⟩)
     apply Dag.new (i := 1)
     case ha | ho | hb => rfl
     case hE =>
      intro w9
      refine AWl.put (by exact R_load rfl (.no rfl) rfl (.tmp rfl fun _ => rfl) ty43 rfl rfl) rfl ?_
      exact AWl.nil (Le.sub0 (σ' := ⟨_, [(2, _), (3, _), (4, _), (5, _), (6, _), (7, _), (23, _), (26, _), (27, _)], [(8, _), (18, _)]⟩) rfl ⟨rfl, rfl, rfl, rfl, rfl, rfl, rfl, rfl, rfl, trivial⟩ ⟨rfl, rfl, trivial⟩)
     apply Dag.old (i := 0)
     case ha | ho | hb => rfl
     case hE =>
      intro w9
      refine AWl.put (R_move rfl (.no rfl) rfl (.tmp rfl fun _ => rfl)) rfl ?_
      exact AWl.nil (Le.sub0 rfl ⟨rfl, rfl, rfl, rfl, rfl, rfl, rfl, rfl, rfl, trivial⟩ ⟨rfl, rfl, trivial⟩)
     apply Dag.new (i := 2)
     case ha | ho | hb => rfl
     case hE =>
      intro w9
      refine AWl.put (by exact R_fieldAddr rfl (.no rfl) rfl (.tmp rfl fun _ => rfl) fl87_1) rfl ?_
      exact AWl.nil (Le.sub0 (σ' := ⟨_, [(2, _), (3, _), (4, _), (5, _), (6, _), (7, _), (23, _), (26, _), (28, _)], [(8, _), (18, _)]⟩) rfl ⟨rfl, rfl, rfl, rfl, rfl, rfl, rfl, rfl, rfl, trivial⟩ ⟨rfl, rfl, trivial⟩)
     apply Dag.old (i := 0)
     case ha | ho | hb => rfl
     case hE =>
      intro w9
      refine AWl.put (R_move rfl (.no rfl) rfl (.tmp rfl fun _ => rfl)) rfl ?_
      exact AWl.nil (Le.sub0 rfl ⟨rfl, rfl, rfl, rfl, rfl, rfl, rfl, rfl, rfl, trivial⟩ ⟨rfl, rfl, trivial⟩)
     apply Dag.new (i := 4)
     case ha | ho | hb => rfl
     case hE =>
      intro w9
      refine AWl.put (R_move rfl (.no rfl) rfl (.tmp rfl fun _ => rfl)) rfl ?_
      exact AWl.nil (Le.sub0 (σ' := ⟨_, [(2, _), (3, _), (4, _), (5, _), (6, _), (7, _), (23, _), (26, _), (30, _)], [(8, _), (18, _)]⟩) rfl ⟨rfl, rfl, rfl, rfl, rfl, rfl, rfl, rfl, rfl, trivial⟩ ⟨rfl, rfl, trivial⟩)
     apply Dag.old (i := 0)
     case ha | ho | hb => rfl
     case hE =>
      intro w9
      refine AWl.put (R_move rfl (.no rfl) rfl (.tmp rfl fun _ => rfl)) rfl ?_
      exact AWl.nil (Le.sub0 rfl ⟨rfl, rfl, rfl, rfl, rfl, rfl, rfl, rfl, rfl, trivial⟩ ⟨rfl, rfl, trivial⟩)
     apply Dag.new (i := 2)
     case ha | ho | hb => rfl
     case hE =>
      intro w9
      refine AWl.put (by exact R_fieldAddr rfl (.no rfl) rfl (.tmp rfl fun _ => rfl) fl87_1) rfl ?_
      exact AWl.nil (Le.sub0 (σ' := ⟨_, [(2, _), (3, _), (4, _), (5, _), (6, _), (7, _), (23, _), (27, _), (28, _)], [(8, _), (18, _)]⟩) rfl ⟨rfl, rfl, rfl, rfl, rfl, rfl, rfl, rfl, rfl, trivial⟩ ⟨rfl, rfl, trivial⟩)
     apply Dag.old (i := 1)
     case ha | ho | hb => rfl
     case hE =>
      intro w9
      refine AWl.put (by exact R_load rfl (.no rfl) rfl (.tmp rfl fun _ => rfl) ty43 rfl rfl) rfl ?_
      exact AWl.nil (Le.sub0 rfl ⟨rfl, rfl, rfl, rfl, rfl, rfl, rfl, rfl, rfl, trivial⟩ ⟨rfl, rfl, trivial⟩)
     apply Dag.new (i := 4)
     case ha | ho | hb => rfl
     case hE =>
      intro w9
      refine AWl.put (R_move rfl (.no rfl) rfl (.tmp rfl fun _ => rfl)) rfl ?_
      exact AWl.nil (Le.sub0 (σ' := ⟨_, [(2, _), (3, _), (4, _), (5, _), (6, _), (7, _), (23, _), (27, _), (30, _)], [(8, _), (18, _)]⟩) rfl ⟨rfl, rfl, rfl, rfl, rfl, rfl, rfl, rfl, rfl, trivial⟩ ⟨rfl, rfl, trivial⟩)
     apply Dag.old (i := 1)
     case ha | ho | hb => rfl
     case hE =>
      intro w9
      refine AWl.put (by exact R_load rfl (.no rfl) rfl (.tmp rfl fun _ => rfl) ty43 rfl rfl) rfl ?_
      exact AWl.nil (Le.sub0 rfl ⟨rfl, rfl, rfl, rfl, rfl, rfl, rfl, rfl, rfl, trivial⟩ ⟨rfl, rfl, trivial⟩)
     apply Dag.new (i := 3)
     case ha | ho | hb => rfl
     case hE =>
      intro w9
      refine AWl.put (by exact R_load rfl (.no rfl) rfl (.tmp rfl fun _ => rfl) ty85 rfl rfl) rfl ?_
      exact AWl.nil (Le.sub0 (σ' := ⟨_, [(2, _), (3, _), (4, _), (5, _), (6, _), (7, _), (23, _), (29, _)], [(8, _), (18, _)]⟩) rfl ⟨rfl, rfl, rfl, rfl, rfl, rfl, rfl, rfl, trivial⟩ ⟨rfl, rfl, trivial⟩)
     apply Dag.new (i := 4)
     case ha | ho | hb => rfl
     case hE =>
      intro w9
      refine AWl.put (R_move rfl (.no rfl) rfl (.tmp rfl fun _ => rfl)) rfl ?_
      exact AWl.nil (Le.sub0 (σ' := ⟨_, [(2, _), (3, _), (4, _), (5, _), (6, _), (7, _), (23, _), (28, _), (30, _)], [(8, _), (18, _)]⟩) rfl ⟨rfl, rfl, rfl, rfl, rfl, rfl, rfl, rfl, rfl, trivial⟩ ⟨rfl, rfl, trivial⟩)
     apply Dag.old (i := 2)
     case ha | ho | hb => rfl
     case hE =>
      intro w9
      refine AWl.put (by exact R_fieldAddr rfl (.no rfl) rfl (.tmp rfl fun _ => rfl) fl87_1) rfl ?_
      exact AWl.nil (Le.sub0 rfl ⟨rfl, rfl, rfl, rfl, rfl, rfl, rfl, rfl, rfl, trivial⟩ ⟨rfl, rfl, trivial⟩)
     apply Dag.new (i := 2)
     case ha | ho | hb => rfl
     case hE =>
      intro w9
      refine AWl.put (by exact R_fieldAddr rfl (.no rfl) rfl (.tmp rfl fun _ => rfl) fl87_1) rfl ?_
      exact AWl.nil (Le.sub0 (σ' := ⟨_, [(2, _), (3, _), (4, _), (5, _), (6, _), (7, _), (23, _), (26, _), (27, _), (28, _)], [(8, _), (18, _)]⟩) rfl ⟨rfl, rfl, rfl, rfl, rfl, rfl, rfl, rfl, rfl, rfl, trivial⟩ ⟨rfl, rfl, trivial⟩)
     apply Dag.old (i := 0)
     case ha | ho | hb => rfl
     case hE =>
      intro w9
      refine AWl.put (R_move rfl (.no rfl) rfl (.tmp rfl fun _ => rfl)) rfl ?_
      exact AWl.nil (Le.sub0 rfl ⟨rfl, rfl, rfl, rfl, rfl, rfl, rfl, rfl, rfl, rfl, trivial⟩ ⟨rfl, rfl, trivial⟩)
     apply Dag.old (i := 1)
     case ha | ho | hb => rfl
     case hE =>
      intro w9
      refine AWl.put (by exact R_load rfl (.no rfl) rfl (.tmp rfl fun _ => rfl) ty43 rfl rfl) rfl ?_
      exact AWl.nil (Le.sub0 rfl ⟨rfl, rfl, rfl, rfl, rfl, rfl, rfl, rfl, rfl, rfl, trivial⟩ ⟨rfl, rfl, trivial⟩)
     apply Dag.new (i := 4)
     case ha | ho | hb => rfl
     case hE =>
      intro w9
      refine AWl.put (R_move rfl (.no rfl) rfl (.tmp rfl fun _ => rfl)) rfl ?_
      exact AWl.nil (Le.sub0 (σ' := ⟨_, [(2, _), (3, _), (4, _), (5, _), (6, _), (7, _), (23, _), (26, _), (27, _), (30, _)], [(8, _), (18, _)]⟩) rfl ⟨rfl, rfl, rfl, rfl, rfl, rfl, rfl, rfl, rfl, rfl, trivial⟩ ⟨rfl, rfl, trivial⟩)
     apply Dag.old (i := 0)
     case ha | ho | hb => rfl
     case hE =>
      intro w9
      refine AWl.put (R_move rfl (.no rfl) rfl (.tmp rfl fun _ => rfl)) rfl ?_
      exact AWl.nil (Le.sub0 rfl ⟨rfl, rfl, rfl, rfl, rfl, rfl, rfl, rfl, rfl, rfl, trivial⟩ ⟨rfl, rfl, trivial⟩)
     apply Dag.old (i := 1)
     case ha | ho | hb => rfl
     case hE =>
      intro w9
      refine AWl.put (by exact R_load rfl (.no rfl) rfl (.tmp rfl fun _ => rfl) ty43 rfl rfl) rfl ?_
      exact AWl.nil (Le.sub0 rfl ⟨rfl, rfl, rfl, rfl, rfl, rfl, rfl, rfl, rfl, rfl, trivial⟩ ⟨rfl, rfl, trivial⟩)
     apply Dag.new (i := 3)
     case ha | ho | hb => rfl
     case hE =>
      intro w9
      refine AWl.put (by exact R_load rfl (.no rfl) rfl (.tmp rfl fun _ => rfl) ty85 rfl rfl) rfl ?_
      exact AWl.nil (Le.sub0 (σ' := ⟨_, [(2, _), (3, _), (4, _), (5, _), (6, _), (7, _), (23, _), (26, _), (29, _)], [(8, _), (18, _)]⟩) rfl ⟨rfl, rfl, rfl, rfl, rfl, rfl, rfl, rfl, rfl, trivial⟩ ⟨rfl, rfl, trivial⟩)
     apply Dag.old (i := 0)
     case ha | ho | hb => rfl
     case hE =>
      intro w9
      refine AWl.put (R_move rfl (.no rfl) rfl (.tmp rfl fun _ => rfl)) rfl ?_
      exact AWl.nil (Le.sub0 rfl ⟨rfl, rfl, rfl, rfl, rfl, rfl, rfl, rfl, rfl, trivial⟩ ⟨rfl, rfl, trivial⟩)
     apply Dag.new (i := 4)
     case ha | ho | hb => rfl
     case hE =>
      intro w9
      refine AWl.put (R_move rfl (.no rfl) rfl (.tmp rfl fun _ => rfl)) rfl ?_
      exact AWl.nil (Le.sub0 (σ' := ⟨_, [(2, _), (3, _), (4, _), (5, _), (6, _), (7, _), (23, _), (26, _), (28, _), (30, _)], [(8, _), (18, _)]⟩) rfl ⟨rfl, rfl, rfl, rfl, rfl, rfl, rfl, rfl, rfl, rfl, trivial⟩ ⟨rfl, rfl, trivial⟩)
     apply Dag.old (i := 0)
     case ha | ho | hb => rfl
     case hE =>
      intro w9
      refine AWl.put (R_move rfl (.no rfl) rfl (.tmp rfl fun _ => rfl)) rfl ?_
      exact AWl.nil (Le.sub0 rfl ⟨rfl, rfl, rfl, rfl, rfl, rfl, rfl, rfl, rfl, rfl, trivial⟩ ⟨rfl, rfl, trivial⟩)
     apply Dag.old (i := 2)
     case ha | ho | hb => rfl
     case hE =>
      intro w9
      refine AWl.put (by exact R_fieldAddr rfl (.no rfl) rfl (.tmp rfl fun _ => rfl) fl87_1) rfl ?_
      exact AWl.nil (Le.sub0 rfl ⟨rfl, rfl, rfl, rfl, rfl, rfl, rfl, rfl, rfl, rfl, trivial⟩ ⟨rfl, rfl, trivial⟩)
     apply Dag.new (i := 3)
     case ha | ho | hb => rfl
     case hE =>
      intro w9
      refine AWl.put (by exact R_load rfl (.no rfl) rfl (.tmp rfl fun _ => rfl) ty85 rfl rfl) rfl ?_
      exact AWl.nil (Le.sub0 (σ' := ⟨_, [(2, _), (3, _), (4, _), (5, _), (6, _), (7, _), (23, _), (27, _), (29, _)], [(8, _), (18, _)]⟩) rfl ⟨rfl, rfl, rfl, rfl, rfl, rfl, rfl, rfl, rfl, trivial⟩ ⟨rfl, rfl, trivial⟩)
     apply Dag.old (i := 1)
     case ha | ho | hb => rfl
     case hE =>
      intro w9
      refine AWl.put (by exact R_load rfl (.no rfl) rfl (.tmp rfl fun _ => rfl) ty43 rfl rfl) rfl ?_
      exact AWl.nil (Le.sub0 rfl ⟨rfl, rfl, rfl, rfl, rfl, rfl, rfl, rfl, rfl, trivial⟩ ⟨rfl, rfl, trivial⟩)
     apply Dag.new (i := 4)
     case ha | ho | hb => rfl
     case hE =>
      intro w9
      refine AWl.put (R_move rfl (.no rfl) rfl (.tmp rfl fun _ => rfl)) rfl ?_
      exact AWl.nil (Le.sub0 (σ' := ⟨_, [(2, _), (3, _), (4, _), (5, _), (6, _), (7, _), (23, _), (27, _), (28, _), (30, _)], [(8, _), (18, _)]⟩) rfl ⟨rfl, rfl, rfl, rfl, rfl, rfl, rfl, rfl, rfl, rfl, trivial⟩ ⟨rfl, rfl, trivial⟩)
     apply Dag.old (i := 1)
     case ha | ho | hb => rfl
     case hE =>
      intro w9
      refine AWl.put (by exact R_load rfl (.no rfl) rfl (.tmp rfl fun _ => rfl) ty43 rfl rfl) rfl ?_
      exact AWl.nil (Le.sub0 rfl ⟨rfl, rfl, rfl, rfl, rfl, rfl, rfl, rfl, rfl, rfl, trivial⟩ ⟨rfl, rfl, trivial⟩)
     apply Dag.old (i := 2)
     case ha | ho | hb => rfl
     case hE =>
      intro w9
      refine AWl.put (by exact R_fieldAddr rfl (.no rfl) rfl (.tmp rfl fun _ => rfl) fl87_1) rfl ?_
      exact AWl.nil (Le.sub0 rfl ⟨rfl, rfl, rfl, rfl, rfl, rfl, rfl, rfl, rfl, rfl, trivial⟩ ⟨rfl, rfl, trivial⟩)
     apply Dag.new (i := 4)
     case ha | ho | hb => rfl
     case hE =>
      intro w9
      refine AWl.put (R_move rfl (.no rfl) rfl (.tmp rfl fun _ => rfl)) rfl ?_
      exact AWl.nil (Le.sub0 (σ' := ⟨_, [(2, _), (3, _), (4, _), (5, _), (6, _), (7, _), (23, _), (29, _), (30, _)], [(8, _), (18, _)]⟩) rfl ⟨rfl, rfl, rfl, rfl, rfl, rfl, rfl, rfl, rfl, trivial⟩ ⟨rfl, rfl, trivial⟩)
     apply Dag.old (i := 3)
     case ha | ho | hb => rfl
     case hE =>
      intro w9
      refine AWl.put (by exact R_load rfl (.no rfl) rfl (.tmp rfl fun _ => rfl) ty85 rfl rfl) rfl ?_
      exact AWl.nil (Le.sub0 rfl ⟨rfl, rfl, rfl, rfl, rfl, rfl, rfl, rfl, rfl, trivial⟩ ⟨rfl, rfl, trivial⟩)
     apply Dag.new (i := 3)
     case ha | ho | hb => rfl
     case hE =>
      intro w9
      refine AWl.put (by exact R_load rfl (.no rfl) rfl (.tmp rfl fun _ => rfl) ty85 rfl rfl) rfl ?_
      exact AWl.nil (Le.sub0 (σ' := ⟨_, [(2, _), (3, _), (4, _), (5, _), (6, _), (7, _), (23, _), (26, _), (27, _), (29, _)], [(8, _), (18, _)]⟩) rfl ⟨rfl, rfl, rfl, rfl, rfl, rfl, rfl, rfl, rfl, rfl, trivial⟩ ⟨rfl, rfl, trivial⟩)
     apply Dag.old (i := 0)
     case ha | ho | hb => rfl
     case hE =>
      intro w9
      refine AWl.put (R_move rfl (.no rfl) rfl (.tmp rfl fun _ => rfl)) rfl ?_
      exact AWl.nil (Le.sub0 rfl ⟨rfl, rfl, rfl, rfl, rfl, rfl, rfl, rfl, rfl, rfl, trivial⟩ ⟨rfl, rfl, trivial⟩)
     apply Dag.old (i := 1)
     case ha | ho | hb => rfl
     case hE =>
      intro w9
      refine AWl.put (by exact R_load rfl (.no rfl) rfl (.tmp rfl fun _ => rfl) ty43 rfl rfl) rfl ?_
      exact AWl.nil (Le.sub0 rfl ⟨rfl, rfl, rfl, rfl, rfl, rfl, rfl, rfl, rfl, rfl, trivial⟩ ⟨rfl, rfl, trivial⟩)
     apply Dag.new (i := 4)
     case ha | ho | hb => rfl
     case hE =>
      intro w9
      refine AWl.put (R_move rfl (.no rfl) rfl (.tmp rfl fun _ => rfl)) rfl ?_
      exact AWl.nil (Le.sub0 (σ' := ⟨_, [(2, _), (3, _), (4, _), (5, _), (6, _), (7, _), (23, _), (26, _), (27, _), (28, _), (30, _)], [(8, _), (18, _)]⟩) rfl ⟨rfl, rfl, rfl, rfl, rfl, rfl, rfl, rfl, rfl, rfl, rfl, trivial⟩ ⟨rfl, rfl, trivial⟩)
     apply Dag.old (i := 0)
     case ha | ho | hb => rfl
     case hE =>
      intro w9
      refine AWl.put (R_move rfl (.no rfl) rfl (.tmp rfl fun _ => rfl)) rfl ?_
      exact AWl.nil (Le.sub0 rfl ⟨rfl, rfl, rfl, rfl, rfl, rfl, rfl, rfl, rfl, rfl, rfl, trivial⟩ ⟨rfl, rfl, trivial⟩)
     apply Dag.old (i := 1)
     case ha | ho | hb => rfl
     case hE =>
      intro w9
      refine AWl.put (by exact R_load rfl (.no rfl) rfl (.tmp rfl fun _ => rfl) ty43 rfl rfl) rfl ?_
      exact AWl.nil (Le.sub0 rfl ⟨rfl, rfl, rfl, rfl, rfl, rfl, rfl, rfl, rfl, rfl, rfl, trivial⟩ ⟨rfl, rfl, trivial⟩)
     apply Dag.old (i := 2)
     case ha | ho | hb => rfl
     case hE =>
      intro w9
      refine AWl.put (by exact R_fieldAddr rfl (.no rfl) rfl (.tmp rfl fun _ => rfl) fl87_1) rfl ?_
      exact AWl.nil (Le.sub0 rfl ⟨rfl, rfl, rfl, rfl, rfl, rfl, rfl, rfl, rfl, rfl, rfl, trivial⟩ ⟨rfl, rfl, trivial⟩)
     apply Dag.new (i := 4)
     case ha | ho | hb => rfl
     case hE =>
      intro w9
      refine AWl.put (R_move rfl (.no rfl) rfl (.tmp rfl fun _ => rfl)) rfl ?_
      exact AWl.nil (Le.sub0 (σ' := ⟨_, [(2, _), (3, _), (4, _), (5, _), (6, _), (7, _), (23, _), (26, _), (29, _), (30, _)], [(8, _), (18, _)]⟩) rfl ⟨rfl, rfl, rfl, rfl, rfl, rfl, rfl, rfl, rfl, rfl, trivial⟩ ⟨rfl, rfl, trivial⟩)
     apply Dag.old (i := 0)
     case ha | ho | hb => rfl
     case hE =>
      intro w9
      refine AWl.put (R_move rfl (.no rfl) rfl (.tmp rfl fun _ => rfl)) rfl ?_
      exact AWl.nil (Le.sub0 rfl ⟨rfl, rfl, rfl, rfl, rfl, rfl, rfl, rfl, rfl, rfl, trivial⟩ ⟨rfl, rfl, trivial⟩)
     apply Dag.old (i := 3)
     case ha | ho | hb => rfl
     case hE =>
      intro w9
      refine AWl.put (by exact R_load rfl (.no rfl) rfl (.tmp rfl fun _ => rfl) ty85 rfl rfl) rfl ?_
      exact AWl.nil (Le.sub0 rfl ⟨rfl, rfl, rfl, rfl, rfl, rfl, rfl, rfl, rfl, rfl, trivial⟩ ⟨rfl, rfl, trivial⟩)
     apply Dag.new (i := 4)
     case ha | ho | hb => rfl
     case hE =>
      intro w9
      refine AWl.put (R_move rfl (.no rfl) rfl (.tmp rfl fun _ => rfl)) rfl ?_
      exact AWl.nil (Le.sub0 (σ' := ⟨_, [(2, _), (3, _), (4, _), (5, _), (6, _), (7, _), (23, _), (27, _), (29, _), (30, _)], [(8, _), (18, _)]⟩) rfl ⟨rfl, rfl, rfl, rfl, rfl, rfl, rfl, rfl, rfl, rfl, trivial⟩ ⟨rfl, rfl, trivial⟩)
     apply Dag.old (i := 1)
     case ha | ho | hb => rfl
     case hE =>
      intro w9
      refine AWl.put (by exact R_load rfl (.no rfl) rfl (.tmp rfl fun _ => rfl) ty43 rfl rfl) rfl ?_
      exact AWl.nil (Le.sub0 rfl ⟨rfl, rfl, rfl, rfl, rfl, rfl, rfl, rfl, rfl, rfl, trivial⟩ ⟨rfl, rfl, trivial⟩)
     apply Dag.old (i := 3)
     case ha | ho | hb => rfl
     case hE =>
      intro w9
      refine AWl.put (by exact R_load rfl (.no rfl) rfl (.tmp rfl fun _ => rfl) ty85 rfl rfl) rfl ?_
      exact AWl.nil (Le.sub0 rfl ⟨rfl, rfl, rfl, rfl, rfl, rfl, rfl, rfl, rfl, rfl, trivial⟩ ⟨rfl, rfl, trivial⟩)
     apply Dag.new (i := 5)
     case ha | ho | hb => rfl
     case hE =>
      intro w9
      refine AWl.put (by exact R_indexAddr rfl (.no rfl) rfl (.tmp rfl fun _ => rfl) (.tmp rfl fun _ => rfl) Tryz.underlying85 ty129 (fun _ => ⟨by omega, (map_get hx)⟩)) rfl ?_
      exact AWl.nil (Le.sub0 (σ' := ⟨_, [(2, _), (3, _), (4, _), (5, _), (6, _), (7, _), (23, _), (31, _)], [(8, _), (18, _)]⟩) rfl ⟨rfl, rfl, rfl, rfl, rfl, rfl, rfl, rfl, trivial⟩ ⟨rfl, rfl, trivial⟩)
     apply Dag.new (i := 4)
     case ha | ho | hb => rfl
     case hE =>
      intro w9
      refine AWl.put (R_move rfl (.no rfl) rfl (.tmp rfl fun _ => rfl)) rfl ?_
      exact AWl.nil (Le.sub0 (σ' := ⟨_, [(2, _), (3, _), (4, _), (5, _), (6, _), (7, _), (23, _), (26, _), (27, _), (29, _), (30, _)], [(8, _), (18, _)]⟩) rfl ⟨rfl, rfl, rfl, rfl, rfl, rfl, rfl, rfl, rfl, rfl, rfl, trivial⟩ ⟨rfl, rfl, trivial⟩)
     apply Dag.old (i := 0)
     case ha | ho | hb => rfl
     case hE =>
      intro w9
      refine AWl.put (R_move rfl (.no rfl) rfl (.tmp rfl fun _ => rfl)) rfl ?_
      exact AWl.nil (Le.sub0 rfl ⟨rfl, rfl, rfl, rfl, rfl, rfl, rfl, rfl, rfl, rfl, rfl, trivial⟩ ⟨rfl, rfl, trivial⟩)
     apply Dag.old (i := 1)
     case ha | ho | hb => rfl
     case hE =>
      intro w9
      refine AWl.put (by exact R_load rfl (.no rfl) rfl (.tmp rfl fun _ => rfl) ty43 rfl rfl) rfl ?_
      exact AWl.nil (Le.sub0 rfl ⟨rfl, rfl, rfl, rfl, rfl, rfl, rfl, rfl, rfl, rfl, rfl, trivial⟩ ⟨rfl, rfl, trivial⟩)
     apply Dag.old (i := 3)
     case ha | ho | hb => rfl
     case hE =>
      intro w9
      refine AWl.put (by exact R_load rfl (.no rfl) rfl (.tmp rfl fun _ => rfl) ty85 rfl rfl) rfl ?_
      exact AWl.nil (Le.sub0 rfl ⟨rfl, rfl, rfl, rfl, rfl, rfl, rfl, rfl, rfl, rfl, rfl, trivial⟩ ⟨rfl, rfl, trivial⟩)
     apply Dag.new (i := 5)
     case ha | ho | hb => rfl
     case hE =>
      intro w9
      refine AWl.put (by exact R_indexAddr rfl (.no rfl) rfl (.tmp rfl fun _ => rfl) (.tmp rfl fun _ => rfl) Tryz.underlying85 ty129 (fun _ => ⟨by omega, (map_get hx)⟩)) rfl ?_
      exact AWl.nil (Le.sub0 (σ' := ⟨_, [(2, _), (3, _), (4, _), (5, _), (6, _), (7, _), (23, _), (26, _), (31, _)], [(8, _), (18, _)]⟩) rfl ⟨rfl, rfl, rfl, rfl, rfl, rfl, rfl, rfl, rfl, trivial⟩ ⟨rfl, rfl, trivial⟩)
     apply Dag.old (i := 0)
     case ha | ho | hb => rfl
     case hE =>
      intro w9
      refine AWl.put (R_move rfl (.no rfl) rfl (.tmp rfl fun _ => rfl)) rfl ?_
      exact AWl.nil (Le.sub0 rfl ⟨rfl, rfl, rfl, rfl, rfl, rfl, rfl, rfl, rfl, trivial⟩ ⟨rfl, rfl, trivial⟩)
     apply Dag.new (i := 5)
     case ha | ho | hb => rfl
     case hE =>
      intro w9
      refine AWl.put (by exact R_indexAddr rfl (.no rfl) rfl (.tmp rfl fun _ => rfl) (.tmp rfl fun _ => rfl) Tryz.underlying85 ty129 (fun _ => ⟨by omega, (map_get hx)⟩)) rfl ?_
      exact AWl.nil (Le.sub0 (σ' := ⟨_, [(2, _), (3, _), (4, _), (5, _), (6, _), (7, _), (23, _), (27, _), (31, _)], [(8, _), (18, _)]⟩) rfl ⟨rfl, rfl, rfl, rfl, rfl, rfl, rfl, rfl, rfl, trivial⟩ ⟨rfl, rfl, trivial⟩)
     apply Dag.old (i := 1)
     case ha | ho | hb => rfl
     case hE =>
      intro w9
      refine AWl.put (by exact R_load rfl (.no rfl) rfl (.tmp rfl fun _ => rfl) ty43 rfl rfl) rfl ?_
      exact AWl.nil (Le.sub0 rfl ⟨rfl, rfl, rfl, rfl, rfl, rfl, rfl, rfl, rfl, trivial⟩ ⟨rfl, rfl, trivial⟩)
     apply Dag.new (i := 6)
     case ha | ho | hb => rfl
     case hE =>
      intro w9
      refine AWl.put (by exact R_fieldAddr rfl (.no rfl) rfl (.tmp rfl fun _ => rfl) fl129_2) rfl ?_
      exact AWl.nil (Le.sub0 (σ' := ⟨_, [(2, _), (3, _), (4, _), (5, _), (6, _), (7, _), (23, _), (32, _)], [(8, _), (18, _)]⟩) rfl ⟨rfl, rfl, rfl, rfl, rfl, rfl, rfl, rfl, trivial⟩ ⟨rfl, rfl, trivial⟩)
     apply Dag.new (i := 5)
     case ha | ho | hb => rfl
     case hE =>
      intro w9
      refine AWl.put (by exact R_indexAddr rfl (.no rfl) rfl (.tmp rfl fun _ => rfl) (.tmp rfl fun _ => rfl) Tryz.underlying85 ty129 (fun _ => ⟨by omega, (map_get hx)⟩)) rfl ?_
      exact AWl.nil (Le.sub0 (σ' := ⟨_, [(2, _), (3, _), (4, _), (5, _), (6, _), (7, _), (23, _), (26, _), (27, _), (31, _)], [(8, _), (18, _)]⟩) rfl ⟨rfl, rfl, rfl, rfl, rfl, rfl, rfl, rfl, rfl, rfl, trivial⟩ ⟨rfl, rfl, trivial⟩)
     apply Dag.old (i := 0)
     case ha | ho | hb => rfl
     case hE =>
      intro w9
      refine AWl.put (R_move rfl (.no rfl) rfl (.tmp rfl fun _ => rfl)) rfl ?_
      exact AWl.nil (Le.sub0 rfl ⟨rfl, rfl, rfl, rfl, rfl, rfl, rfl, rfl, rfl, rfl, trivial⟩ ⟨rfl, rfl, trivial⟩)
     apply Dag.old (i := 1)
     case ha | ho | hb => rfl
     case hE =>
      intro w9
      refine AWl.put (by exact R_load rfl (.no rfl) rfl (.tmp rfl fun _ => rfl) ty43 rfl rfl) rfl ?_
      exact AWl.nil (Le.sub0 rfl ⟨rfl, rfl, rfl, rfl, rfl, rfl, rfl, rfl, rfl, rfl, trivial⟩ ⟨rfl, rfl, trivial⟩)
     apply Dag.new (i := 6)
     case ha | ho | hb => rfl
     case hE =>
      intro w9
      refine AWl.put (by exact R_fieldAddr rfl (.no rfl) rfl (.tmp rfl fun _ => rfl) fl129_2) rfl ?_
      exact AWl.nil (Le.sub0 (σ' := ⟨_, [(2, _), (3, _), (4, _), (5, _), (6, _), (7, _), (23, _), (26, _), (32, _)], [(8, _), (18, _)]⟩) rfl ⟨rfl, rfl, rfl, rfl, rfl, rfl, rfl, rfl, rfl, trivial⟩ ⟨rfl, rfl, trivial⟩)
     apply Dag.old (i := 0)
     case ha | ho | hb => rfl
     case hE =>
      intro w9
      refine AWl.put (R_move rfl (.no rfl) rfl (.tmp rfl fun _ => rfl)) rfl ?_
      exact AWl.nil (Le.sub0 rfl ⟨rfl, rfl, rfl, rfl, rfl, rfl, rfl, rfl, rfl, trivial⟩ ⟨rfl, rfl, trivial⟩)
     apply Dag.new (i := 6)
     case ha | ho | hb => rfl
     case hE =>
      intro w9
      refine AWl.put (by exact R_fieldAddr rfl (.no rfl) rfl (.tmp rfl fun _ => rfl) fl129_2) rfl ?_
      exact AWl.nil (Le.sub0 (σ' := ⟨_, [(2, _), (3, _), (4, _), (5, _), (6, _), (7, _), (23, _), (27, _), (32, _)], [(8, _), (18, _)]⟩) rfl ⟨rfl, rfl, rfl, rfl, rfl, rfl, rfl, rfl, rfl, trivial⟩ ⟨rfl, rfl, trivial⟩)
     apply Dag.old (i := 1)
     case ha | ho | hb => rfl
     case hE =>
      intro w9
      refine AWl.put (by exact R_load rfl (.no rfl) rfl (.tmp rfl fun _ => rfl) ty43 rfl rfl) rfl ?_
      exact AWl.nil (Le.sub0 rfl ⟨rfl, rfl, rfl, rfl, rfl, rfl, rfl, rfl, rfl, trivial⟩ ⟨rfl, rfl, trivial⟩)
     apply Dag.new (i := 7)
     case ha | ho | hb => rfl
     case hE =>
      intro w9
      refine AWl.put (by exact R_fieldAddr rfl (.no rfl) rfl (.tmp rfl fun _ => rfl) fl73_0) rfl ?_
      exact AWl.nil (Le.sub0 (σ' := ⟨_, [(2, _), (3, _), (4, _), (5, _), (6, _), (7, _), (23, _), (33, _)], [(8, _), (18, _)]⟩) rfl ⟨rfl, rfl, rfl, rfl, rfl, rfl, rfl, rfl, trivial⟩ ⟨rfl, rfl, trivial⟩)
     apply Dag.new (i := 6)
     case ha | ho | hb => rfl
     case hE =>
      intro w9
      refine AWl.put (by exact R_fieldAddr rfl (.no rfl) rfl (.tmp rfl fun _ => rfl) fl129_2) rfl ?_
      exact AWl.nil (Le.sub0 (σ' := ⟨_, [(2, _), (3, _), (4, _), (5, _), (6, _), (7, _), (23, _), (26, _), (27, _), (32, _)], [(8, _), (18, _)]⟩) rfl ⟨rfl, rfl, rfl, rfl, rfl, rfl, rfl, rfl, rfl, rfl, trivial⟩ ⟨rfl, rfl, trivial⟩)
     apply Dag.old (i := 0)
     case ha | ho | hb => rfl
     case hE =>
      intro w9
      refine AWl.put (R_move rfl (.no rfl) rfl (.tmp rfl fun _ => rfl)) rfl ?_
      exact AWl.nil (Le.sub0 rfl ⟨rfl, rfl, rfl, rfl, rfl, rfl, rfl, rfl, rfl, rfl, trivial⟩ ⟨rfl, rfl, trivial⟩)
     apply Dag.old (i := 1)
     case ha | ho | hb => rfl
     case hE =>
      intro w9
      refine AWl.put (by exact R_load rfl (.no rfl) rfl (.tmp rfl fun _ => rfl) ty43 rfl rfl) rfl ?_
      exact AWl.nil (Le.sub0 rfl ⟨rfl, rfl, rfl, rfl, rfl, rfl, rfl, rfl, rfl, rfl, trivial⟩ ⟨rfl, rfl, trivial⟩)
     apply Dag.new (i := 7)
     case ha | ho | hb => rfl
     case hE =>
      intro w9
      refine AWl.put (by exact R_fieldAddr rfl (.no rfl) rfl (.tmp rfl fun _ => rfl) fl73_0) rfl ?_
      exact AWl.nil (Le.sub0 (σ' := ⟨_, [(2, _), (3, _), (4, _), (5, _), (6, _), (7, _), (23, _), (26, _), (33, _)], [(8, _), (18, _)]⟩) rfl ⟨rfl, rfl, rfl, rfl, rfl, rfl, rfl, rfl, rfl, trivial⟩ ⟨rfl, rfl, trivial⟩)
     apply Dag.old (i := 0)
     case ha | ho | hb => rfl
     case hE =>
      intro w9
      refine AWl.put (R_move rfl (.no rfl) rfl (.tmp rfl fun _ => rfl)) rfl ?_
      exact AWl.nil (Le.sub0 rfl ⟨rfl, rfl, rfl, rfl, rfl, rfl, rfl, rfl, rfl, trivial⟩ ⟨rfl, rfl, trivial⟩)
     apply Dag.new (i := 7)
     case ha | ho | hb => rfl
     case hE =>
      intro w9
      refine AWl.put (by exact R_fieldAddr rfl (.no rfl) rfl (.tmp rfl fun _ => rfl) fl73_0) rfl ?_
      exact AWl.nil (Le.sub0 (σ' := ⟨_, [(2, _), (3, _), (4, _), (5, _), (6, _), (7, _), (23, _), (27, _), (33, _)], [(8, _), (18, _)]⟩) rfl ⟨rfl, rfl, rfl, rfl, rfl, rfl, rfl, rfl, rfl, trivial⟩ ⟨rfl, rfl, trivial⟩)
     apply Dag.old (i := 1)
     case ha | ho | hb => rfl
     case hE =>
      intro w9
      refine AWl.put (by exact R_load rfl (.no rfl) rfl (.tmp rfl fun _ => rfl) ty43 rfl rfl) rfl ?_
      exact AWl.nil (Le.sub0 rfl ⟨rfl, rfl, rfl, rfl, rfl, rfl, rfl, rfl, rfl, trivial⟩ ⟨rfl, rfl, trivial⟩)
     apply Dag.new (i := 8)
     case ha | ho | hb => rfl
     case hE =>
      intro w9
      refine AWl.put (by exact R_load rfl (.no rfl) rfl (.tmp rfl fun _ => rfl) ty71 rfl rfl) rfl ?_
      exact AWl.nil (Le.sub0 (σ' := ⟨_, [(2, _), (3, _), (4, _), (5, _), (6, _), (7, _), (23, _), (34, _)], [(8, _), (18, _)]⟩) rfl ⟨rfl, rfl, rfl, rfl, rfl, rfl, rfl, rfl, trivial⟩ ⟨rfl, rfl, trivial⟩)
     apply Dag.new (i := 7)
     case ha | ho | hb => rfl
     case hE =>
      intro w9
      refine AWl.put (by exact R_fieldAddr rfl (.no rfl) rfl (.tmp rfl fun _ => rfl) fl73_0) rfl ?_
      exact AWl.nil (Le.sub0 (σ' := ⟨_, [(2, _), (3, _), (4, _), (5, _), (6, _), (7, _), (23, _), (26, _), (27, _), (33, _)], [(8, _), (18, _)]⟩) rfl ⟨rfl, rfl, rfl, rfl, rfl, rfl, rfl, rfl, rfl, rfl, trivial⟩ ⟨rfl, rfl, trivial⟩)
     apply Dag.old (i := 0)
     case ha | ho | hb => rfl
     case hE =>
      intro w9
      refine AWl.put (R_move rfl (.no rfl) rfl (.tmp rfl fun _ => rfl)) rfl ?_
      exact AWl.nil (Le.sub0 rfl ⟨rfl, rfl, rfl, rfl, rfl, rfl, rfl, rfl, rfl, rfl, trivial⟩ ⟨rfl, rfl, trivial⟩)
     apply Dag.old (i := 1)
     case ha | ho | hb => rfl
     case hE =>
      intro w9
      refine AWl.put (by exact R_load rfl (.no rfl) rfl (.tmp rfl fun _ => rfl) ty43 rfl rfl) rfl ?_
      exact AWl.nil (Le.sub0 rfl ⟨rfl, rfl, rfl, rfl, rfl, rfl, rfl, rfl, rfl, rfl, trivial⟩ ⟨rfl, rfl, trivial⟩)
     apply Dag.new (i := 8)
     case ha | ho | hb => rfl
     case hE =>
      intro w9
      refine AWl.put (by exact R_load rfl (.no rfl) rfl (.tmp rfl fun _ => rfl) ty71 rfl rfl) rfl ?_
      exact AWl.nil (Le.sub0 (σ' := ⟨_, [(2, _), (3, _), (4, _), (5, _), (6, _), (7, _), (23, _), (26, _), (34, _)], [(8, _), (18, _)]⟩) rfl ⟨rfl, rfl, rfl, rfl, rfl, rfl, rfl, rfl, rfl, trivial⟩ ⟨rfl, rfl, trivial⟩)
     apply Dag.old (i := 0)
     case ha | ho | hb => rfl
     case hE =>
      intro w9
      refine AWl.put (R_move rfl (.no rfl) rfl (.tmp rfl fun _ => rfl)) rfl ?_
      exact AWl.nil (Le.sub0 rfl ⟨rfl, rfl, rfl, rfl, rfl, rfl, rfl, rfl, rfl, trivial⟩ ⟨rfl, rfl, trivial⟩)
     apply Dag.new (i := 8)
     case ha | ho | hb => rfl
     case hE =>
      intro w9
      refine AWl.put (by exact R_load rfl (.no rfl) rfl (.tmp rfl fun _ => rfl) ty71 rfl rfl) rfl ?_
      exact AWl.nil (Le.sub0 (σ' := ⟨_, [(2, _), (3, _), (4, _), (5, _), (6, _), (7, _), (23, _), (27, _), (34, _)], [(8, _), (18, _)]⟩) rfl ⟨rfl, rfl, rfl, rfl, rfl, rfl, rfl, rfl, rfl, trivial⟩ ⟨rfl, rfl, trivial⟩)
     apply Dag.old (i := 1)
     case ha | ho | hb => rfl
     case hE =>
      intro w9
      refine AWl.put (by exact R_load rfl (.no rfl) rfl (.tmp rfl fun _ => rfl) ty43 rfl rfl) rfl ?_
      exact AWl.nil (Le.sub0 rfl ⟨rfl, rfl, rfl, rfl, rfl, rfl, rfl, rfl, rfl, trivial⟩ ⟨rfl, rfl, trivial⟩)
     apply Dag.new (i := 8)
     case ha | ho | hb => rfl
     case hE =>
      intro w9
      refine AWl.put (by exact R_load rfl (.no rfl) rfl (.tmp rfl fun _ => rfl) ty71 rfl rfl) rfl ?_
      exact AWl.nil (Le.sub0 (σ' := ⟨_, [(2, _), (3, _), (4, _), (5, _), (6, _), (7, _), (23, _), (26, _), (27, _), (34, _)], [(8, _), (18, _)]⟩) rfl ⟨rfl, rfl, rfl, rfl, rfl, rfl, rfl, rfl, rfl, rfl, trivial⟩ ⟨rfl, rfl, trivial⟩)
     apply Dag.old (i := 0)
     case ha | ho | hb => rfl
     case hE =>
      intro w9
      refine AWl.put (R_move rfl (.no rfl) rfl (.tmp rfl fun _ => rfl)) rfl ?_
      exact AWl.nil (Le.sub0 rfl ⟨rfl, rfl, rfl, rfl, rfl, rfl, rfl, rfl, rfl, rfl, trivial⟩ ⟨rfl, rfl, trivial⟩)
     apply Dag.old (i := 1)
     case ha | ho | hb => rfl
     case hE =>
      intro w9
      refine AWl.put (by exact R_load rfl (.no rfl) rfl (.tmp rfl fun _ => rfl) ty43 rfl rfl) rfl ?_
      exact AWl.nil (Le.sub0 rfl ⟨rfl, rfl, rfl, rfl, rfl, rfl, rfl, rfl, rfl, rfl, trivial⟩ ⟨rfl, rfl, trivial⟩)
     apply Dag.new (i := 9)
     case ha | ho | hb => rfl
     case hE =>
      intro w9
      refine AWl.adds (R_call 3500 (specl16Eval g hg x.Expr (hvt.2.2 x (List.mem_of_getElem? hx)).2) rfl rfl rfl (.cons (.tmp rfl fun _ => rfl) rfl (.cons (.tmp rfl fun _ => rfl) rfl .nil)) rfl rfl) rfl ?_
      exact AWl.nil (Le.sub0 (σ' := ⟨_, [(2, _), (3, _), (4, _), (5, _), (6, _), (7, _), (23, _), (35, _)], [(8, _), (18, _), (3500, _)]⟩) rfl ⟨rfl, rfl, rfl, rfl, rfl, rfl, rfl, rfl, trivial⟩ ⟨rfl, rfl, rfl, trivial⟩)
     apply Dag.new (i := 9)
     case ha | ho | hb => rfl
     case hE =>
      intro w9
      refine AWl.adds (R_call 3500 (specl16Eval g hg x.Expr (hvt.2.2 x (List.mem_of_getElem? hx)).2) rfl rfl rfl (.cons (.tmp rfl fun _ => rfl) rfl (.cons (.tmp rfl fun _ => rfl) rfl .nil)) rfl rfl) rfl ?_
      exact AWl.nil (Le.sub0 (σ' := ⟨_, [(2, _), (3, _), (4, _), (5, _), (6, _), (7, _), (23, _), (26, _), (35, _)], [(8, _), (18, _), (3500, _)]⟩) rfl ⟨rfl, rfl, rfl, rfl, rfl, rfl, rfl, rfl, rfl, trivial⟩ ⟨rfl, rfl, rfl, trivial⟩)
     apply Dag.old (i := 0)
     case ha | ho | hb => rfl
     case hE =>
      intro w9
      refine AWl.put (R_move rfl (.no rfl) rfl (.tmp rfl fun _ => rfl)) rfl ?_
      exact AWl.nil (Le.sub0 rfl ⟨rfl, rfl, rfl, rfl, rfl, rfl, rfl, rfl, rfl, trivial⟩ ⟨rfl, rfl, rfl, trivial⟩)
     apply Dag.new (i := 10)
     case ha | ho | hb => rfl
     case hE =>
      intro w9
      refine AWl.absadd (R_list (xs := [.tmp 35]) 36 rfl rfl rfl (.cons (.tmp rfl fun _ => rfl) rfl rfl .nil) Tryz.underlying125 in126 rfl rfl rfl rfl) rfl ?_
      exact AWl.nil (Le.sub0 (σ' := ⟨_, [(2, _), (3, _), (4, _), (5, _), (6, _), (7, _), (23, _), (36, _)], [(8, _), (18, _), (36, _)]⟩) rfl ⟨rfl, rfl, rfl, rfl, rfl, rfl, rfl, rfl, trivial⟩ ⟨rfl, rfl, rfl, trivial⟩)
     apply Dag.new (i := 10)
     case ha | ho | hb => rfl
     case hE =>
      intro w9
      refine AWl.absadd (R_list (xs := [.tmp 35]) 36 rfl rfl rfl (.cons (.tmp rfl fun _ => rfl) rfl rfl .nil) Tryz.underlying125 in126 rfl rfl rfl rfl) rfl ?_
      exact AWl.nil (Le.sub0 (σ' := ⟨_, [(2, _), (3, _), (4, _), (5, _), (6, _), (7, _), (23, _), (26, _), (36, _)], [(8, _), (18, _), (36, _)]⟩) rfl ⟨rfl, rfl, rfl, rfl, rfl, rfl, rfl, rfl, rfl, trivial⟩ ⟨rfl, rfl, rfl, trivial⟩)
     apply Dag.old (i := 0)
     case ha | ho | hb => rfl
     case hE =>
      intro w9
      refine AWl.put (R_move rfl (.no rfl) rfl (.tmp rfl fun _ => rfl)) rfl ?_
      exact AWl.nil (Le.sub0 rfl ⟨rfl, rfl, rfl, rfl, rfl, rfl, rfl, rfl, rfl, trivial⟩ ⟨rfl, rfl, rfl, trivial⟩)
     apply Dag.new (i := 11)
     case ha | ho | hb => rfl
     case hE =>
      intro w9
      refine AWl.abschgput (R_append_own rfl rfl rfl (.tmp rfl fun _ => rfl) rfl (.tmp rfl fun _ => rfl) rfl rfl Tryz.underlying125 in126 rfl (by (simp [chunk]; omega)) (by (unfold maxLen; simp [chunk]; omega))) rfl ?_
      exact AWl.nil (Le.sub0 (σ' := ⟨_, [(2, _), (3, _), (4, _), (5, _), (6, _), (7, _), (23, _), (37, _)], [(8, _), (18, _)]⟩) rfl ⟨rfl, rfl, rfl, rfl, rfl, rfl, rfl, rfl, trivial⟩ ⟨rfl, rfl, trivial⟩)
     apply Dag.new (i := 12)
     case ha | ho | hb => rfl
     case hE =>
      intro w9
      refine AWl.put (R_assign rfl (.no rfl) rfl (.tmp rfl fun _ => rfl)) rfl ?_
      exact AWl.nil (Le.sub0 (σ' := ⟨_, [(2, _), (3, _), (4, _), (5, _), (6, _), (7, _), (23, _)], [(8, _), (18, _)]⟩) rfl ⟨rfl, rfl, rfl, rfl, rfl, rfl, rfl, trivial⟩ ⟨rfl, rfl, trivial⟩)
     refine Dag.fin (k := 45) rfl ?_
     refine AWl.nil (AW.region ?_)
     refine AWl.put (R_move rfl (.no rfl) rfl (.tmp rfl fun _ => rfl)) rfl ?_
     refine AWl.put (R_add rfl (.no rfl) rfl (.tmp rfl fun _ => rfl) (.const rfl) (fun _ => by omega)) rfl ?_
     refine AWl.put (R_assign rfl (.no rfl) rfl (.tmp rfl fun _ => rfl)) rfl ?_
     refine AWl.nil ?_
     repeat (with_reducible refine BlockQ.nor ?_)
     refine Round1.next (k + 1) ⟨by omega, trivial⟩ (by omega) (Le.sub0 rfl ⟨rfl, rfl, rfl, rfl, rfl, rfl, trivial⟩ ⟨(by rfl), (by refine congrArg (fun r => some (R.row 1 r)) ?_; rw [take_at hx]; simp [cPairS, chunk]; done), trivial⟩)
   · skip
     try simp at h23
     refine AW.exit ?_
     refine AW.seq ?_
     refine AW.le (σ' := ⟨_, [(2, _), (3, _), (4, _), (5, _), (6, _), (7, _)], [(8, _), (18, .row 1 ((relsV g q).map cPairS))]⟩) (Le.sub0 rfl ⟨rfl, rfl, rfl, rfl, rfl, rfl, trivial⟩ ⟨rfl, (by refine congrArg (fun r => some (R.row 1 r)) ?_; unfold relsV; rw [List.take_of_length_le (by omega)]), trivial⟩) ?_
     refine AW.region ?_
     refine AWl.put (by exact R_load rfl (.no rfl) rfl (.tmp rfl fun _ => rfl) ty87 rfl rfl) rfl ?_
     refine AWl.put (R_move rfl (.no rfl) rfl (.tmp rfl fun _ => rfl)) rfl ?_
     refine AWl.le (Le.frzR 18 39 rfl rfl) ?_
     refine AWl.put (by exact R_fieldAddr rfl (.no rfl) rfl (.tmp rfl fun _ => rfl) fl43_0) rfl ?_
     refine AWl.put (by exact R_load rfl (.no rfl) rfl (.tmp rfl fun _ => rfl) ty22 rfl rfl) rfl ?_
     refine AWl.put (by exact R_lenm rfl (.no rfl) rfl (.tmp rfl fun _ => rfl) (by exact .t) Tryz.underlying22) rfl ?_
     refine AWl.add (R_empty 43 rfl rfl rfl Tryz.underlying22 ty3 rfl) rfl ?_
     refine AWl.le (Le.frzR 43 43 rfl rfl) ?_
     refine AWl.put (R_move rfl (.no rfl) rfl (.tmp rfl fun _ => rfl)) rfl ?_
     apply AWl.consume
     case ho =>
      apply R_consume (xo := .tmp 44) 4500 (specl26Walk g q hv (by omega) q.VariableCount.toNat [] [] (by simp) (by have := Nat.pow_le_pow_right (show 5 > 0 by omega) (show q.VariableCount.toNat ≤ 4 by omega); simp; omega)) rfl rfl rfl (.tmp rfl fun _ => rfl)
      case ha => rfl
      case hargs => exact (ArgC.agg (.tmp rfl fun _ => rfl) (ArgC.one (.tmp rfl fun _ => rfl) (ArgC.one (.tmp rfl fun _ => rfl) (ArgC.one (.tmp rfl fun _ => rfl) (ArgC.own .nil)))))
      all_goals rfl
     case hd => rfl
     refine AWl.put (R_assign rfl (.no rfl) rfl (.tmp rfl fun _ => rfl)) rfl ?_
     refine AWl.nil (AW.ret ?_)
     refine Res.one rfl (.tmp rfl .nil) rfl ?_
     rw [walkV_evalC g q hv]; unfold evalC; rw [if_pos (by rw [hg, hv]; rfl)]; simp; rfl
end Go.Proofs.YtoealglkenhphaaGreat
