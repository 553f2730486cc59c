import Derived.Test.YtbkhopfpejhnlaaGreatB116ra
import Derived.Test.YtbkhopfpejhnlaaGreatB30ra
import Derived.Test.YtbkhopfpejhnlaaGreatB20ra
import Derived.Test.YtbkhopfpejhnlaaGreatAbsRra
set_option linter.unusedVariables false
set_option linter.unusedSimpArgs false
set_option maxHeartbeats 1000000
set_option maxRecDepth 100000
namespace Go.Q
open Go.RowKit Go.D
theorem wordR_none {w : List Int} {x : Tr} (h : x.kids = []) : wordR w x = if x.tok.Kind = 2 then idR else if x.tok.Kind = 3 then letR w x.tok.Letter else noR := by
 cases x with
 | leaf t => rfl
 | un t y => cases h
 | bin t y z => cases h
theorem wordR_one {w : List Int} {x y : Tr} (h : x.kids = [y]) : wordR w x = if x.tok.Kind = 6 then starR (w.length + 1) (wordR w y) (w.length + 1) else repR (w.length + 1) (wordR w y) x.tok.Low (x.tok.High.toNat + 1) := by
 cases x with
 | leaf t => cases h
 | un t z => simp only [Tr.kids, List.cons.injEq, and_true] at h; subst h; rfl
 | bin t z z' => simp [Tr.kids] at h
theorem wordR_two {w : List Int} {x y z : Tr} (h : x.kids = [y, z]) : wordR w x = if x.tok.Kind = 4 then thenR (w.length + 1) (wordR w y) (wordR w z) else orR (wordR w y) (wordR w z) := by
 cases x with
 | leaf t => cases h
 | un t y' => simp [Tr.kids] at h
 | bin t y' z' => simp only [Tr.kids, List.cons.injEq, and_true] at h; obtain ⟨rfl, rfl⟩ := h; rfl
def lTo (w : List Int) (L : Int) (k : Nat) : GR := fun i j => decide (i < k) && letR w L i j
theorem lTo_zero (w : List Int) (L : Int) : diagR false = lTo w L 0 := by funext i j; simp [diagR, lTo]
theorem lTo_step {w : List Int} {L y : Int} {k : Nat} (h : w[k]? = some y) : setF (lTo w L k) k (k + 1) (decide (y = L)) = lTo w L (k + 1) := by
 funext i j
 unfold setF lTo letR
 by_cases h1 : i = k
 · subst h1
   by_cases h2 : j = i + 1
   · subst h2; simp [h]
   · simp [h2]
 · by_cases h3 : i < k
   · simp [h1, h3, show i < k + 1 by omega]
   · simp [h1, h3, show ¬ i < k + 1 by omega]
theorem lTo_end {w : List Int} {L : Int} {k : Nat} (h : w.length ≤ k) : lTo w L k = letR w L := by
 funext i j
 unfold lTo
 by_cases hi : i < k
 · simp [hi]
 · unfold letR
   rw [List.getElem?_eq_none (by omega)]
   simp [hi]
end Go.Q
namespace Go.Proofs.YtbkhopfpejhnlaaGreat
open Go.RowKit Go.Q Go.D
theorem implreach1 (w : List Int) (hw : w.length ≤ 4000) (x : Tr) (hgx : good x) (hh : x.tok.Kind = 7 → 0 ≤ x.tok.High ∧ x.tok.High ≤ 3) (ih : ∀ y ∈ x.kids, FnT Tryz.prog 117 [.one (.ad (treeCells y)), .one (.sl 1 (w.map cInt))] (.a (.one (.sl 1 ((gridF (w.length + 1) (wordR w y)).map cBoolS))))) : FnT Tryz.prog 117 [.one (.ad (treeCells x)), .one (.sl 1 (w.map cInt))] (.a (.one (.sl 1 ((gridF (w.length + 1) (wordR w x)).map cBoolS)))) := by
 refine FnT.walk Tryz.func117 rfl (by kernel_rfl) Tryz.ntmps117 rfl fun hlen w0 => ?_
 try simp [cPair, cToken, cExpr, cEdge, cGraph, cStep, cWalk, cChange, cBatch, cHistory, cPositions, cAutomaton, cProductStep, cPathAtom, cConjunction, cView, cDelta, cRegistered, cRegistry] at hlen
 clear hlen; rw [treeCells_eq]; obtain ⟨hlow, hlow3, -⟩ := good_cases hgx
 refine AW.sr ?_
 refine AWl.ac rfl rfl rfl rfl rfl ?_
 refine AWl.nilS (i := 4) 20001 1 rfl rfl ?_
 refine AWl.nil (AW.sr ?_)
 refine AWl.mv rfl rfl rfl rfl rfl ?_
 refine AWl.put (by exact R_lenm rfl (.no rfl) rfl (.tm rfl) (by exact .t) Tryz.underlying24) rfl ?_
 refine AWl.put (R_add rfl (.no rfl) rfl (.tm rfl) (.const rfl) (fun _ => by omega)) rfl ?_
 refine AWl.av rfl rfl rfl rfl rfl ?_
 refine AWl.nil (AW.sr ?_)
 refine AWl.mv rfl rfl rfl rfl rfl ?_
 refine AWl.adds (R_call 1700 (implways' _ (w.length + 1) false (by simp) (by omega)) rfl rfl rfl (.cons (.tm rfl) rfl (.cons (.const rfl) rfl .nil)) rfl rfl) rfl ?_
 refine AWl.av rfl rfl rfl rfl rfl ?_
 refine AWl.nil (AW.seq ?_)
 refine AW.sr ?_
 refine AWl.mv rfl rfl rfl rfl rfl ?_
 refine AWl.put (by exact R_nilCheck rfl (.no rfl) rfl (.tm rfl)) rfl ?_
 refine AWl.put (by exact R_fieldAddr rfl (.no rfl) rfl (.tm rfl) fl127_0) rfl ?_
 refine AWl.put (by exact R_fieldAddr rfl (.no rfl) rfl (.tm rfl) fl100_0) rfl ?_
 refine AWl.put (by exact R_load rfl (.no rfl) rfl (.tm rfl) ty3 rfl rfl) rfl ?_
 refine AWl.nil (AW.block ?_)
 refine AW.seq ?_
 refine AW.le (σ' := ⟨_, [(0, _), (1, _), (4, _), (5, _), (6, _), (22, _)], [(20001, _), (1700, _)]⟩) (Le.sub0 rfl ⟨rfl, rfl, rfl, rfl, rfl, rfl, trivial⟩ ⟨rfl, rfl, trivial⟩) ?_
 refine AW.region ?_
 refine AWl.put (R_eq rfl (.no rfl) rfl (.tm rfl) (.const rfl)) rfl ?_
 refine AWl.av rfl rfl rfl rfl rfl ?_
 refine AWl.nil ?_
 refine AW.cond (.tm rfl) (fun h23 => ?_) (fun h23 => ?_)
 · skip
   try simp at h23
   refine AW.region ?_
   refine AWl.mv rfl rfl rfl rfl rfl ?_
   refine AWl.adds (R_call 2600 (implways' _ (w.length + 1) true (by simp) (by omega)) rfl rfl rfl (.cons (.tm rfl) rfl (.cons (.const rfl) rfl .nil)) rfl rfl) rfl ?_
   refine AWl.av rfl rfl rfl rfl rfl ?_
   refine AWl.nil (AW.sr ?_)
   refine AWl.mv rfl rfl rfl rfl rfl ?_
   refine AWl.av rfl rfl rfl rfl rfl ?_
   refine AWl.nil (AW.ret ?_)
   refine Res.one rfl (.tmp rfl .nil) rfl ?_
   rw [wordR_none (kind_no' hgx (by omega)), if_pos h23, diag_id]; rfl
 · skip
   try simp at h23
   refine AW.sr ?_
   refine AWl.put (R_eq rfl (.no rfl) rfl (.tm rfl) (.const rfl)) rfl ?_
   refine AWl.av rfl rfl rfl rfl rfl ?_
   refine AWl.nil ?_
   refine AW.cond (.tm rfl) (fun h27 => ?_) (fun h27 => ?_)
   · skip
     try simp at h27
     refine AW.sr ?_
     refine AWl.mv rfl rfl rfl rfl rfl ?_
     refine AWl.put (by exact R_lenm rfl (.no rfl) rfl (.tm rfl) (by exact .t) Tryz.underlying24) rfl ?_
     refine AWl.put (R_move rfl (.no rfl) rfl (.const rfl)) rfl ?_
     refine AWl.nil (AW.block ?_)
     refine AW.loop1 (fun (k : Nat) => (k ≤ w.length) ∧ True) (fun (k : Nat) => ⟨_, [(31, (true, .a (.one (.t (.v (.int .i64 (k : Nat))))))), (6, (true, .a (.one (.rf 1700)))), (0, _), (1, _), (4, _), (5, _), (22, _), (29, _), (30, _)], [(1700, .row 1 ((gridF (w.length + 1) (lTo w x.tok.Letter k)).map cBoolS))]⟩) (fun (k : Nat) => w.length - k) (0) ⟨Nat.zero_le _, trivial⟩ (Le.sub0 rfl ⟨rfl, rfl, rfl, rfl, rfl, rfl, rfl, rfl, rfl, trivial⟩ ⟨(by refine congrArg (fun r => some (R.row 1 r)) ?_; first | rfl | (rw [lTo_zero w x.tok.Letter]; done) | (rw [diag_no]; rfl)), trivial⟩) ?_
     rintro k ⟨hk, he⟩
     refine AW.sr ?_
     refine AWl.put (R_lt rfl (.no rfl) rfl (.tm rfl) (.tm rfl)) rfl ?_
     refine AWl.nil (AW.seq ?_)
     refine AW.cond (.tm rfl) (fun h32 => ?_) (fun h32 => ?_)
     · skip
       try simp at h32
       have hkn : k < w.length := (by omega)
       obtain ⟨y, hy⟩ : ∃ ξ, w[k]? = some ξ := ⟨_, List.getElem?_eq_getElem hkn⟩
       refine AW.skip ?_
       refine AW.seq ?_
       refine AW.block ?_
       refine AW.sr ?_
       refine AWl.mv rfl rfl rfl rfl rfl ?_
       refine AWl.put (by exact R_indexAddr rfl (.no rfl) rfl (.tm rfl) (.tm rfl) Tryz.underlying24 ty3 (fun _ => ⟨by omega, (by exact map_get hy)⟩)) rfl ?_
       refine AWl.put (by exact R_load rfl (.no rfl) rfl (.tm rfl) ty3 rfl rfl) rfl ?_
       refine AWl.av rfl rfl rfl rfl rfl ?_
       refine AWl.av rfl rfl rfl rfl rfl ?_
       refine AWl.nil ?_
       refine AW.takeR (id := 1700) (i := k) (p := 0) 721 722 rfl (map_get (gridF_row (by omega))) rfl (fun _ => rfl) (fun _ => rfl) fun c721 => ?_
       refine AW.drawn 14 (nthB [[], [], [0, 1], [0, 1, 2], [], [4], [], [], [7], [7, 8], [7, 8, 9], [7, 8, 9, 10], [6, 7, 8, 9, 10, 11], [0, 1, 2, 3, 4, 5, 6, 7, 8, 9, 10, 11, 12]]) (by kernel_rfl) (by kernel_rfl) (by kernel_rfl) ?_
       refine DrawC.step rfl rfl rfl (Loc.of rfl fun σ' hs => R_move rfl (.no rfl) (hd_sup hs rfl) (.tm (hs.slots _ _ rfl))) ?_
       refine DrawC.step rfl rfl rfl (Loc.of rfl fun σ' hs => R_move rfl (.no rfl) (hd_sup hs rfl) (.tm (hs.slots _ _ rfl))) ?_
       refine DrawC.step rfl rfl rfl (Loc.of rfl fun σ' hs => (by exact R_indexAddr_rf rfl (.no rfl) (hd_sup hs rfl) (.tm (hs.slots _ _ rfl)) (hs.res _ _ rfl) (.tm (hs.slots _ _ rfl)) Tryz.underlying109 ty71 (fun _ => ⟨by omega, set_self (by simp [gridF_len]; omega)⟩))) ?_
       refine DrawC.step rfl rfl rfl (Loc.of rfl fun σ' hs => R_load_hdr (nid := 721) (hid := 722) rfl (.no rfl) (hd_sup hs rfl) (.tm (hs.slots _ _ rfl)) (hs.res _ _ rfl) (set_self (by simp [gridF_len]; omega)) ty71 rfl rfl rfl rfl (hs.res _ _ rfl) (hs.res _ _ rfl)) ?_
       refine DrawC.step rfl rfl rfl (Loc.of rfl fun σ' hs => R_move rfl (.no rfl) (hd_sup hs rfl) (.tm (hs.slots _ _ rfl))) ?_
       refine DrawC.step rfl rfl rfl (Loc.of rfl fun σ' hs => R_add rfl (.no rfl) (hd_sup hs rfl) (.tm (hs.slots _ _ rfl)) (.const rfl) (fun _ => by omega)) ?_
       refine DrawC.step rfl rfl rfl (Loc.of rfl fun σ' hs => R_move rfl (.no rfl) (hd_sup hs rfl) (.tm (hs.slots _ _ rfl))) ?_
       refine DrawC.step rfl rfl rfl (Loc.of rfl fun σ' hs => R_move rfl (.no rfl) (hd_sup hs rfl) (.tm (hs.slots _ _ rfl))) ?_
       refine DrawC.step rfl rfl rfl (Loc.of rfl fun σ' hs => (by exact R_nilCheck rfl (.no rfl) (hd_sup hs rfl) (.tm (hs.slots _ _ rfl)))) ?_
       refine DrawC.step rfl rfl rfl (Loc.of rfl fun σ' hs => (by exact R_fieldAddr rfl (.no rfl) (hd_sup hs rfl) (.tm (hs.slots _ _ rfl)) fl127_0)) ?_
       refine DrawC.step rfl rfl rfl (Loc.of rfl fun σ' hs => (by exact R_fieldAddr rfl (.no rfl) (hd_sup hs rfl) (.tm (hs.slots _ _ rfl)) fl100_1)) ?_
       refine DrawC.step rfl rfl rfl (Loc.of rfl fun σ' hs => (by exact R_load rfl (.no rfl) (hd_sup hs rfl) (.tm (hs.slots _ _ rfl)) ty3 rfl rfl)) ?_
       refine DrawC.step rfl rfl rfl (Loc.of rfl fun σ' hs => R_eq rfl (.no rfl) (hd_sup hs rfl) (.tm (hs.slots _ _ rfl)) (.tm (hs.slots _ _ rfl))) ?_
       refine DrawC.step rfl rfl rfl (Loc.of rfl fun σ' hs => (by exact R_indexAddr_rf rfl (.no rfl) (hd_sup hs rfl) (.tm (hs.slots _ _ rfl)) (hs.res _ _ rfl) (.tm (hs.slots _ _ rfl)) Tryz.underlying71 ty4 (fun _ => ⟨by omega, map_get (row_at (j := k + 1) (by omega))⟩))) ?_
       refine DrawC.fin rfl rfl ?_
       refine AWl.absupd (R_store_pr rfl rfl rfl (.tm rfl) rfl (.tm rfl) rfl (map_get (row_at (j := k + 1) (by omega))) ty4 rfl rfl rfl rfl) ?_
       refine AWl.nil ?_
       refine AW.le (Le.putR (nid := 721) (hid := 722) (id := 1700) (i := k) (p := 0) rfl rfl rfl (set_self (by simp [gridF_len]; omega)) rfl rfl rfl rfl) ?_
       refine AW.le (σ' := ⟨_, [(0, _), (1, _), (4, _), (5, _), (6, _), (7, _), (8, _), (22, _), (29, _), (30, _), (31, _)], [(1700, _)]⟩) (Le.sub0 rfl ⟨rfl, rfl, rfl, rfl, rfl, rfl, rfl, rfl, rfl, rfl, rfl, trivial⟩ ⟨rfl, trivial⟩) ?_
       refine AW.region ?_
       refine AWl.put (R_add rfl (.no rfl) rfl (.tm rfl) (.const rfl) (fun _ => by omega)) rfl ?_
       refine AWl.mv rfl rfl rfl rfl rfl ?_
       refine AWl.nil ?_
       repeat (with_reducible refine BlockQ.nor ?_)
       refine Round1.next (k + 1) ⟨by omega, trivial⟩ (by omega) (Le.sub0 rfl ⟨rfl, rfl, rfl, rfl, rfl, rfl, rfl, rfl, rfl, trivial⟩ ⟨(by refine congrArg (fun r => some (R.row 1 r)) ?_; first | (rw [repR, if_pos hlk]; done) | (rw [repR, if_neg hlk]; done) | (rw [← lTo_step hy]; exact grid_put)), trivial⟩)
     · skip
       try simp at h32
       refine AW.exit ?_
       refine AW.sr ?_
       refine AWl.mv rfl rfl rfl rfl rfl ?_
       refine AWl.av rfl rfl rfl rfl rfl ?_
       refine AWl.nil (AW.ret ?_)
       refine Res.one rfl (.tmp rfl .nil) rfl ?_
       rw [wordR_none (kind_no' hgx (by omega)), if_neg h23, if_pos h27, lTo_end (by omega)]; rfl
   · skip
     try simp at h27
     refine AW.sr ?_
     refine AWl.put (R_eq rfl (.no rfl) rfl (.tm rfl) (.const rfl)) rfl ?_
     refine AWl.av rfl rfl rfl rfl rfl ?_
     refine AWl.nil ?_
     refine AW.cond (.tm rfl) (fun h51 => ?_) (fun h51 => ?_)
     · skip
       try simp at h51
       obtain ⟨y, z, hk2, -, hgy, hgz⟩ := kind_two' hgx (by omega)
       have hi0 : (x.kids.map cKid)[(0 : Int).toNat]? = some (cKid y) := by rw [hk2]; rfl
       have hi1 : (x.kids.map cKid)[(1 : Int).toNat]? = some (cKid z) := by rw [hk2]; rfl
       have hln : x.kids.length = 2 := by rw [hk2]; rfl
       refine AW.le (σ' := ⟨_, [(0, _), (1, _), (4, _), (5, _), (6, _), (22, _)], [(20001, _), (1700, _)]⟩) (Le.sub0 rfl ⟨rfl, rfl, rfl, rfl, rfl, rfl, trivial⟩ ⟨rfl, rfl, trivial⟩) ?_
       refine AW.drawn 18 (nthB [[], [0], [0, 1], [0, 1, 2], [0, 1, 2, 3], [0, 1, 2, 3, 4], [], [0, 1, 2, 3, 4, 5, 6], [], [8], [8, 9], [8, 9, 10], [8, 9, 10, 11], [8, 9, 10, 11, 12], [], [0, 1, 2, 3, 4, 5, 6, 7, 8, 9, 10, 11, 12, 13, 14], [0, 1, 2, 3, 4, 5, 6, 7, 8, 9, 10, 11, 12, 13, 14, 15], [0, 1, 2, 3, 4, 5, 6, 7, 8, 9, 10, 11, 12, 13, 14, 15, 16]]) (by kernel_rfl) (by kernel_rfl) (by kernel_rfl) ?_
       refine DrawC.step rfl rfl rfl (Loc.of rfl fun σ' hs => R_move rfl (.no rfl) (hd_sup hs rfl) (.tm (hs.slots _ _ rfl))) ?_
       refine DrawC.step rfl rfl rfl (Loc.of rfl fun σ' hs => (by exact R_nilCheck rfl (.no rfl) (hd_sup hs rfl) (.tm (hs.slots _ _ rfl)))) ?_
       refine DrawC.step rfl rfl rfl (Loc.of rfl fun σ' hs => (by exact R_fieldAddr rfl (.no rfl) (hd_sup hs rfl) (.tm (hs.slots _ _ rfl)) fl127_1)) ?_
       refine DrawC.step rfl rfl rfl (Loc.of rfl fun σ' hs => (by exact R_load rfl (.no rfl) (hd_sup hs rfl) (.tm (hs.slots _ _ rfl)) ty123 rfl rfl)) ?_
       refine DrawC.step rfl rfl rfl (Loc.of rfl fun σ' hs => (by exact R_indexAddr rfl (.no rfl) (hd_sup hs rfl) (.tm (hs.slots _ _ rfl)) (.const rfl) Tryz.underlying123 ty91 (fun _ => ⟨by omega, (by exact hi0)⟩))) ?_
       refine DrawC.step rfl rfl rfl (Loc.of rfl fun σ' hs => (by exact R_load rfl (.no rfl) (hd_sup hs rfl) (.tm (hs.slots _ _ rfl)) ty91 rfl rfl)) ?_
       refine DrawC.step rfl rfl rfl (Loc.of rfl fun σ' hs => R_move rfl (.no rfl) (hd_sup hs rfl) (.tm (hs.slots _ _ rfl))) ?_
       refine DrawC.step rfl rfl rfl (Loc.of rfl fun σ' hs => R_callz (FnT.fr (ih y (by rw [hk2]; simp))) rfl (.no rfl) (hd_sup hs rfl) (.cons (.tm (hs.slots _ _ rfl)) (readA_sup hs rfl) (.cons (.tm (hs.slots _ _ rfl)) (readA_sup hs rfl) .nil))) ?_
       refine DrawC.step rfl rfl rfl (Loc.of rfl fun σ' hs => R_move rfl (.no rfl) (hd_sup hs rfl) (.tm (hs.slots _ _ rfl))) ?_
       refine DrawC.step rfl rfl rfl (Loc.of rfl fun σ' hs => (by exact R_nilCheck rfl (.no rfl) (hd_sup hs rfl) (.tm (hs.slots _ _ rfl)))) ?_
       refine DrawC.step rfl rfl rfl (Loc.of rfl fun σ' hs => (by exact R_fieldAddr rfl (.no rfl) (hd_sup hs rfl) (.tm (hs.slots _ _ rfl)) fl127_1)) ?_
       refine DrawC.step rfl rfl rfl (Loc.of rfl fun σ' hs => (by exact R_load rfl (.no rfl) (hd_sup hs rfl) (.tm (hs.slots _ _ rfl)) ty123 rfl rfl)) ?_
       refine DrawC.step rfl rfl rfl (Loc.of rfl fun σ' hs => (by exact R_indexAddr rfl (.no rfl) (hd_sup hs rfl) (.tm (hs.slots _ _ rfl)) (.const rfl) Tryz.underlying123 ty91 (fun _ => ⟨by omega, (by exact hi1)⟩))) ?_
       refine DrawC.step rfl rfl rfl (Loc.of rfl fun σ' hs => (by exact R_load rfl (.no rfl) (hd_sup hs rfl) (.tm (hs.slots _ _ rfl)) ty91 rfl rfl)) ?_
       refine DrawC.step rfl rfl rfl (Loc.of rfl fun σ' hs => R_move rfl (.no rfl) (hd_sup hs rfl) (.tm (hs.slots _ _ rfl))) ?_
       refine DrawC.step rfl rfl rfl (Loc.of rfl fun σ' hs => R_callz (FnT.fr (ih z (by rw [hk2]; simp))) rfl (.no rfl) (hd_sup hs rfl) (.cons (.tm (hs.slots _ _ rfl)) (readA_sup hs rfl) (.cons (.tm (hs.slots _ _ rfl)) (readA_sup hs rfl) .nil))) ?_
       refine DrawC.step rfl rfl rfl (Loc.ofs rfl fun σ' hs hf => R_call 6900 (implinTurn (w.length + 1) (wordR w y) (wordR w z) (by omega)) rfl rfl (hd_sup hs rfl) (.cons (.tm (hs.slots _ _ rfl)) (readA_sup hs rfl) (.cons (.tm (hs.slots _ _ rfl)) (readA_sup hs rfl) .nil)) rfl (all_fresh hf)) ?_
       refine DrawC.step rfl rfl rfl (Loc.of rfl fun σ' hs => R_assign rfl (.no rfl) (hd_sup hs rfl) (.tm (hs.slots _ _ rfl))) ?_
       refine DrawC.fin rfl rfl ?_
       refine AWl.nil (AW.seq ?_)
       refine AW.le (σ' := ⟨_, [(0, _), (1, _), (4, _), (5, _), (6, _), (22, _)], [(20001, _), (1700, _), (6900, _)]⟩) (Le.sub0 rfl ⟨rfl, rfl, rfl, rfl, rfl, rfl, trivial⟩ ⟨rfl, rfl, rfl, trivial⟩) ?_
       refine AW.region ?_
       refine AWl.mv rfl rfl rfl rfl rfl ?_
       refine AWl.av rfl rfl rfl rfl rfl ?_
       refine AWl.nil (AW.ret ?_)
       refine Res.one rfl (.tmp rfl .nil) rfl ?_
       rw [wordR_two hk2, if_pos h51]; rfl
     · skip
       try simp at h51
       refine AW.seq ?_
       refine AW.le (σ' := ⟨_, [(0, _), (1, _), (4, _), (5, _), (6, _), (22, _)], [(20001, _), (1700, _)]⟩) (Le.sub0 rfl ⟨rfl, rfl, rfl, rfl, rfl, rfl, trivial⟩ ⟨rfl, rfl, trivial⟩) ?_
       refine AW.region ?_
       refine AWl.put (R_eq rfl (.no rfl) rfl (.tm rfl) (.const rfl)) rfl ?_
       refine AWl.av rfl rfl rfl rfl rfl ?_
       refine AWl.nil ?_
       refine AW.cond (.tm rfl) (fun h70 => ?_) (fun h70 => ?_)
       · skip
         try simp at h70
         obtain ⟨y, z, hk2, -, hgy, hgz⟩ := kind_two' hgx (by omega)
         have hi0 : (x.kids.map cKid)[(0 : Int).toNat]? = some (cKid y) := by rw [hk2]; rfl
         have hi1 : (x.kids.map cKid)[(1 : Int).toNat]? = some (cKid z) := by rw [hk2]; rfl
         have hln : x.kids.length = 2 := by rw [hk2]; rfl
         refine AW.drawn 18 (nthB [[], [0], [0, 1], [0, 1, 2], [0, 1, 2, 3], [0, 1, 2, 3, 4], [], [0, 1, 2, 3, 4, 5, 6], [], [8], [8, 9], [8, 9, 10], [8, 9, 10, 11], [8, 9, 10, 11, 12], [], [0, 1, 2, 3, 4, 5, 6, 7, 8, 9, 10, 11, 12, 13, 14], [0, 1, 2, 3, 4, 5, 6, 7, 8, 9, 10, 11, 12, 13, 14, 15], [0, 1, 2, 3, 4, 5, 6, 7, 8, 9, 10, 11, 12, 13, 14, 15, 16]]) (by kernel_rfl) (by kernel_rfl) (by kernel_rfl) ?_
         refine DrawC.step rfl rfl rfl (Loc.of rfl fun σ' hs => R_move rfl (.no rfl) (hd_sup hs rfl) (.tm (hs.slots _ _ rfl))) ?_
         refine DrawC.step rfl rfl rfl (Loc.of rfl fun σ' hs => (by exact R_nilCheck rfl (.no rfl) (hd_sup hs rfl) (.tm (hs.slots _ _ rfl)))) ?_
         refine DrawC.step rfl rfl rfl (Loc.of rfl fun σ' hs => (by exact R_fieldAddr rfl (.no rfl) (hd_sup hs rfl) (.tm (hs.slots _ _ rfl)) fl127_1)) ?_
         refine DrawC.step rfl rfl rfl (Loc.of rfl fun σ' hs => (by exact R_load rfl (.no rfl) (hd_sup hs rfl) (.tm (hs.slots _ _ rfl)) ty123 rfl rfl)) ?_
         refine DrawC.step rfl rfl rfl (Loc.of rfl fun σ' hs => (by exact R_indexAddr rfl (.no rfl) (hd_sup hs rfl) (.tm (hs.slots _ _ rfl)) (.const rfl) Tryz.underlying123 ty91 (fun _ => ⟨by omega, (by exact hi0)⟩))) ?_
         refine DrawC.step rfl rfl rfl (Loc.of rfl fun σ' hs => (by exact R_load rfl (.no rfl) (hd_sup hs rfl) (.tm (hs.slots _ _ rfl)) ty91 rfl rfl)) ?_
         refine DrawC.step rfl rfl rfl (Loc.of rfl fun σ' hs => R_move rfl (.no rfl) (hd_sup hs rfl) (.tm (hs.slots _ _ rfl))) ?_
         refine DrawC.step rfl rfl rfl (Loc.of rfl fun σ' hs => R_callz (FnT.fr (ih y (by rw [hk2]; simp))) rfl (.no rfl) (hd_sup hs rfl) (.cons (.tm (hs.slots _ _ rfl)) (readA_sup hs rfl) (.cons (.tm (hs.slots _ _ rfl)) (readA_sup hs rfl) .nil))) ?_
         refine DrawC.step rfl rfl rfl (Loc.of rfl fun σ' hs => R_move rfl (.no rfl) (hd_sup hs rfl) (.tm (hs.slots _ _ rfl))) ?_
         refine DrawC.step rfl rfl rfl (Loc.of rfl fun σ' hs => (by exact R_nilCheck rfl (.no rfl) (hd_sup hs rfl) (.tm (hs.slots _ _ rfl)))) ?_
         refine DrawC.step rfl rfl rfl (Loc.of rfl fun σ' hs => (by exact R_fieldAddr rfl (.no rfl) (hd_sup hs rfl) (.tm (hs.slots _ _ rfl)) fl127_1)) ?_
         refine DrawC.step rfl rfl rfl (Loc.of rfl fun σ' hs => (by exact R_load rfl (.no rfl) (hd_sup hs rfl) (.tm (hs.slots _ _ rfl)) ty123 rfl rfl)) ?_
         refine DrawC.step rfl rfl rfl (Loc.of rfl fun σ' hs => (by exact R_indexAddr rfl (.no rfl) (hd_sup hs rfl) (.tm (hs.slots _ _ rfl)) (.const rfl) Tryz.underlying123 ty91 (fun _ => ⟨by omega, (by exact hi1)⟩))) ?_
         refine DrawC.step rfl rfl rfl (Loc.of rfl fun σ' hs => (by exact R_load rfl (.no rfl) (hd_sup hs rfl) (.tm (hs.slots _ _ rfl)) ty91 rfl rfl)) ?_
         refine DrawC.step rfl rfl rfl (Loc.of rfl fun σ' hs => R_move rfl (.no rfl) (hd_sup hs rfl) (.tm (hs.slots _ _ rfl))) ?_
         refine DrawC.step rfl rfl rfl (Loc.of rfl fun σ' hs => R_callz (FnT.fr (ih z (by rw [hk2]; simp))) rfl (.no rfl) (hd_sup hs rfl) (.cons (.tm (hs.slots _ _ rfl)) (readA_sup hs rfl) (.cons (.tm (hs.slots _ _ rfl)) (readA_sup hs rfl) .nil))) ?_
         refine DrawC.step rfl rfl rfl (Loc.ofs rfl fun σ' hs hf => R_call 8800 (impleither (w.length + 1) (wordR w y) (wordR w z) (by omega)) rfl rfl (hd_sup hs rfl) (.cons (.tm (hs.slots _ _ rfl)) (readA_sup hs rfl) (.cons (.tm (hs.slots _ _ rfl)) (readA_sup hs rfl) .nil)) rfl (all_fresh hf)) ?_
         refine DrawC.step rfl rfl rfl (Loc.of rfl fun σ' hs => R_assign rfl (.no rfl) (hd_sup hs rfl) (.tm (hs.slots _ _ rfl))) ?_
         refine DrawC.fin rfl rfl ?_
         refine AWl.nil (AW.seq ?_)
         refine AW.le (σ' := ⟨_, [(0, _), (1, _), (4, _), (5, _), (6, _), (22, _)], [(20001, _), (1700, _), (8800, _)]⟩) (Le.sub0 rfl ⟨rfl, rfl, rfl, rfl, rfl, rfl, trivial⟩ ⟨rfl, rfl, rfl, trivial⟩) ?_
         refine AW.region ?_
         refine AWl.mv rfl rfl rfl rfl rfl ?_
         refine AWl.av rfl rfl rfl rfl rfl ?_
         refine AWl.nil (AW.ret ?_)
         refine Res.one rfl (.tmp rfl .nil) rfl ?_
         rw [wordR_two hk2, if_neg h51]; rfl
       · skip
         try simp at h70
         refine AW.sr ?_
         refine AWl.put (R_eq rfl (.no rfl) rfl (.tm rfl) (.const rfl)) rfl ?_
         refine AWl.av rfl rfl rfl rfl rfl ?_
         refine AWl.nil ?_
         refine AW.cond (.tm rfl) (fun h89 => ?_) (fun h89 => ?_)
         · skip
           try simp at h89
           obtain ⟨y, hk2, -, hgy⟩ := kind_one' hgx (by omega)
           have hi0 : (x.kids.map cKid)[(0 : Int).toNat]? = some (cKid y) := by rw [hk2]; rfl
           have hln : x.kids.length = 1 := by rw [hk2]; rfl
           refine AW.sr ?_
           refine AWl.mv rfl rfl rfl rfl rfl ?_
           refine AWl.adds (R_call 9200 (implways' _ (w.length + 1) true (by simp) (by omega)) rfl rfl rfl (.cons (.tm rfl) rfl (.cons (.const rfl) rfl .nil)) rfl rfl) rfl ?_
           refine AWl.av rfl rfl rfl rfl rfl ?_
           refine AWl.nil (AW.seq ?_)
           refine AW.le (σ' := ⟨_, [(0, _), (1, _), (4, _), (5, _), (6, _), (22, _)], [(20001, _), (1700, _), (9200, _)]⟩) (Le.sub0 rfl ⟨rfl, rfl, rfl, rfl, rfl, rfl, trivial⟩ ⟨rfl, rfl, rfl, trivial⟩) ?_
           refine AW.region ?_
           refine AWl.mv rfl rfl rfl rfl rfl ?_
           refine AWl.put (by exact R_nilCheck rfl (.no rfl) rfl (.tm rfl)) rfl ?_
           refine AWl.put (by exact R_fieldAddr rfl (.no rfl) rfl (.tm rfl) fl127_1) rfl ?_
           refine AWl.put (by exact R_load rfl (.no rfl) rfl (.tm rfl) ty123 rfl rfl) rfl ?_
           refine AWl.put (by exact R_indexAddr rfl (.no rfl) rfl (.tm rfl) (.const rfl) Tryz.underlying123 ty91 (fun _ => ⟨by omega, (by exact hi0)⟩)) rfl ?_
           refine AWl.put (by exact R_load rfl (.no rfl) rfl (.tm rfl) ty91 rfl rfl) rfl ?_
           refine AWl.mv rfl rfl rfl rfl rfl ?_
           refine AWl.put (R_callz (FnT.fr (ih y (by rw [hk2]; simp))) rfl (.no rfl) rfl (.cons (.tm rfl) rfl (.cons (.tm rfl) rfl .nil))) rfl ?_
           refine AWl.av rfl rfl rfl rfl rfl ?_
           refine AWl.nil (AW.seq ?_)
           refine AW.le (σ' := ⟨_, [(0, _), (1, _), (4, _), (5, _), (6, _), (9, _), (22, _)], [(20001, _), (1700, _), (9200, _)]⟩) (Le.sub0 rfl ⟨rfl, rfl, rfl, rfl, rfl, rfl, rfl, trivial⟩ ⟨rfl, rfl, rfl, trivial⟩) ?_
           refine AW.region ?_
           refine AWl.mv rfl rfl rfl rfl rfl ?_
           refine AWl.put (R_move rfl (.no rfl) rfl (.const rfl)) rfl ?_
           refine AWl.nil (AW.block ?_)
           refine AW.loop1 (fun (k : Nat) => (k ≤ w.length + 1) ∧ True) (fun (k : Nat) => ⟨_, [(102, (true, .a (.one (.t (.v (.int .i64 (k : Nat))))))), (6, (true, .a (.one (.rf 9200)))), (0, _), (1, _), (4, _), (5, _), (9, _), (22, _), (101, _)], [(9200, .row 1 ((gridF (w.length + 1) (starR (w.length + 1) (wordR w y) k)).map cBoolS))]⟩) (fun (k : Nat) => w.length + 1 - k) (0) ⟨Nat.zero_le _, trivial⟩ (Le.sub0 rfl ⟨rfl, rfl, rfl, rfl, rfl, rfl, rfl, rfl, rfl, trivial⟩ ⟨(by refine congrArg (fun r => some (R.row 1 r)) ?_; rw [diag_id]; rfl), trivial⟩) ?_
           rintro k ⟨hk, he⟩
           refine AW.sr ?_
           refine AWl.put (R_lt rfl (.no rfl) rfl (.tm rfl) (.tm rfl)) rfl ?_
           refine AWl.nil (AW.seq ?_)
           refine AW.cond (.tm rfl) (fun h103 => ?_) (fun h103 => ?_)
           · skip
             try simp at h103
             have hkn : k < w.length + 1 := (by omega)
             refine AW.skip ?_
             refine AW.seq ?_
             refine AW.block ?_
             refine AW.region ?_
             refine AWl.mv rfl rfl rfl rfl rfl ?_
             refine AWl.mv rfl rfl rfl rfl rfl ?_
             refine AWl.mv rfl rfl rfl rfl rfl ?_
             refine AWl.put (R_callz (FnT.fr (implinTurn (w.length + 1) (starR (w.length + 1) (wordR w y) k) (wordR w y) (by omega))) rfl (.no rfl) rfl (.cons (.tm rfl) rfl (.cons (.tm rfl) rfl .nil))) rfl ?_
             refine AWl.adds (R_call 10800 (impleither (w.length + 1) (starR (w.length + 1) (wordR w y) k) (thenR (w.length + 1) (starR (w.length + 1) (wordR w y) k) (wordR w y)) (by omega)) rfl rfl rfl (.cons (.tm rfl) rfl (.cons (.tm rfl) rfl .nil)) rfl rfl) rfl ?_
             refine AWl.av rfl rfl rfl rfl rfl ?_
             refine AWl.nil ?_
             refine AW.le (Le.sw 9200 10800 _) ?_
             refine AW.le (σ' := ⟨_, [(0, _), (1, _), (4, _), (5, _), (6, _), (9, _), (22, _), (101, _), (102, _)], [(10800, _), (9200, _)]⟩) (Le.sub0 rfl ⟨rfl, rfl, rfl, rfl, rfl, rfl, rfl, rfl, rfl, trivial⟩ ⟨rfl, rfl, trivial⟩) ?_
             refine AW.region ?_
             refine AWl.put (R_add rfl (.no rfl) rfl (.tm rfl) (.const rfl) (fun _ => by omega)) rfl ?_
             refine AWl.mv rfl rfl rfl rfl rfl ?_
             refine AWl.nil ?_
             repeat (with_reducible refine BlockQ.nor ?_)
             refine Round1.next (k + 1) ⟨by omega, trivial⟩ (by omega) (Le.sub0 rfl ⟨rfl, rfl, rfl, rfl, rfl, rfl, rfl, rfl, rfl, trivial⟩ ⟨(by rfl), trivial⟩)
           · skip
             try simp at h103
             refine AW.exit ?_
             refine AW.sr ?_
             refine AWl.mv rfl rfl rfl rfl rfl ?_
             refine AWl.av rfl rfl rfl rfl rfl ?_
             refine AWl.nil (AW.ret ?_)
             refine Res.one rfl (.tmp rfl .nil) rfl ?_
             rw [wordR_one hk2, if_pos h89, show k = w.length + 1 by first | omega | (simp at h103; omega)]; rfl
         · skip
           try simp at h89
           refine AW.sr ?_
           refine AWl.put (R_eq rfl (.no rfl) rfl (.tm rfl) (.const rfl)) rfl ?_
           refine AWl.av rfl rfl rfl rfl rfl ?_
           refine AWl.nil ?_
           refine AW.cond (.tm rfl) (fun h110 => ?_) (fun h110 => ?_)
           · skip
             try simp at h110
             obtain ⟨y, hk2, -, hgy⟩ := kind_one' hgx (by omega)
             have hi0 : (x.kids.map cKid)[(0 : Int).toNat]? = some (cKid y) := by rw [hk2]; rfl
             have hln : x.kids.length = 1 := by rw [hk2]; rfl
             have hhi := hh h110
             refine AW.seq ?_
             refine AW.le (σ' := ⟨_, [(0, _), (1, _), (4, _), (5, _), (6, _), (22, _)], [(20001, _), (1700, _)]⟩) (Le.sub0 rfl ⟨rfl, rfl, rfl, rfl, rfl, rfl, trivial⟩ ⟨rfl, rfl, trivial⟩) ?_
             refine AW.region ?_
             refine AWl.mv rfl rfl rfl rfl rfl ?_
             refine AWl.put (by exact R_nilCheck rfl (.no rfl) rfl (.tm rfl)) rfl ?_
             refine AWl.put (by exact R_fieldAddr rfl (.no rfl) rfl (.tm rfl) fl127_1) rfl ?_
             refine AWl.put (by exact R_load rfl (.no rfl) rfl (.tm rfl) ty123 rfl rfl) rfl ?_
             refine AWl.put (by exact R_indexAddr rfl (.no rfl) rfl (.tm rfl) (.const rfl) Tryz.underlying123 ty91 (fun _ => ⟨by omega, (by exact hi0)⟩)) rfl ?_
             refine AWl.put (by exact R_load rfl (.no rfl) rfl (.tm rfl) ty91 rfl rfl) rfl ?_
             refine AWl.mv rfl rfl rfl rfl rfl ?_
             refine AWl.put (R_callz (FnT.fr (ih y (by rw [hk2]; simp))) rfl (.no rfl) rfl (.cons (.tm rfl) rfl (.cons (.tm rfl) rfl .nil))) rfl ?_
             refine AWl.av rfl rfl rfl rfl rfl ?_
             refine AWl.nil (AW.seq ?_)
             refine AW.le (σ' := ⟨_, [(0, _), (1, _), (4, _), (5, _), (6, _), (10, _), (22, _)], [(20001, _), (1700, _)]⟩) (Le.sub0 rfl ⟨rfl, rfl, rfl, rfl, rfl, rfl, rfl, trivial⟩ ⟨rfl, rfl, trivial⟩) ?_
             refine AW.region ?_
             refine AWl.mv rfl rfl rfl rfl rfl ?_
             refine AWl.adds (R_call 12100 (implways' _ (w.length + 1) true (by simp) (by omega)) rfl rfl rfl (.cons (.tm rfl) rfl (.cons (.const rfl) rfl .nil)) rfl rfl) rfl ?_
             refine AWl.av rfl rfl rfl rfl rfl ?_
             refine AWl.nil (AW.sr ?_)
             refine AWl.ac rfl rfl rfl rfl rfl ?_
             refine AWl.nil (AW.block ?_)
             refine AW.loop1 (fun (k : Nat) => (k ≤ x.tok.High.toNat + 1) ∧ True) (fun (k : Nat) => ⟨_, [(12, (true, .a (.one (.t (.v (.int .i64 (k : Nat))))))), (6, (true, .a (.one (.rf 1700)))), (11, (true, .a (.one (.rf 12100)))), (0, _), (4, _), (10, _)], [(1700, .row 1 ((gridF (w.length + 1) (repR (w.length + 1) (wordR w y) x.tok.Low k)).map cBoolS)), (12100, .row 1 ((gridF (w.length + 1) (powR (w.length + 1) (wordR w y) k)).map cBoolS))]⟩) (fun (k : Nat) => x.tok.High.toNat + 1 - k) (0) ⟨by omega, trivial⟩ (Le.sub0 rfl ⟨rfl, rfl, rfl, rfl, rfl, rfl, trivial⟩ ⟨(by refine congrArg (fun r => some (R.row 1 r)) ?_; first | rfl | (rw [lTo_zero w x.tok.Letter]; done) | (rw [diag_no]; rfl)), (by refine congrArg (fun r => some (R.row 1 r)) ?_; rw [diag_id]; rfl), trivial⟩) ?_
             rintro k ⟨hk, he⟩
             refine AW.seq ?_
             refine AW.sr ?_
             refine AWl.mv rfl rfl rfl rfl rfl ?_
             refine AWl.mv rfl rfl rfl rfl rfl ?_
             refine AWl.put (by exact R_nilCheck rfl (.no rfl) rfl (.tm rfl)) rfl ?_
             refine AWl.put (by exact R_fieldAddr rfl (.no rfl) rfl (.tm rfl) fl127_0) rfl ?_
             refine AWl.put (by exact R_fieldAddr rfl (.no rfl) rfl (.tm rfl) fl100_3) rfl ?_
             refine AWl.put (by exact R_load rfl (.no rfl) rfl (.tm rfl) ty3 rfl rfl) rfl ?_
             refine AWl.put (R_le rfl (.no rfl) rfl (.tm rfl) (.tm rfl)) rfl ?_
             refine AWl.nil ?_
             refine AW.cond (.tm rfl) (fun h128 => ?_) (fun h128 => ?_)
             · skip
               try simp at h128
               have hkh : (k : Int) ≤ x.tok.High := by (have h := h128; first | omega | (simp at h; omega))
               refine AW.skip ?_
               refine AW.seq ?_
               refine AW.block ?_
               refine AW.seq ?_
               refine AW.seq ?_
               refine AW.le (σ' := ⟨_, [(0, _), (4, _), (6, _), (10, _), (11, _), (12, _)], [(1700, _), (12100, _)]⟩) (Le.sub0 rfl ⟨rfl, rfl, rfl, rfl, rfl, rfl, trivial⟩ ⟨rfl, rfl, trivial⟩) ?_
               refine AW.region ?_
               refine AWl.mv rfl rfl rfl rfl rfl ?_
               refine AWl.mv rfl rfl rfl rfl rfl ?_
               refine AWl.put (by exact R_nilCheck rfl (.no rfl) rfl (.tm rfl)) rfl ?_
               refine AWl.put (by exact R_fieldAddr rfl (.no rfl) rfl (.tm rfl) fl127_0) rfl ?_
               refine AWl.put (by exact R_fieldAddr rfl (.no rfl) rfl (.tm rfl) fl100_2) rfl ?_
               refine AWl.put (by exact R_load rfl (.no rfl) rfl (.tm rfl) ty3 rfl rfl) rfl ?_
               refine AWl.put (R_ge rfl (.no rfl) rfl (.tm rfl) (.tm rfl)) rfl ?_
               refine AWl.nil ?_
               refine AW.cond (.tm rfl) (fun h137 => ?_) (fun h137 => ?_)
               · skip
                 try simp at h137
                 have hlk : x.tok.Low ≤ (k : Int) := by (have h := h137; first | omega | (simp at h; omega))
                 refine AW.le (σ' := ⟨_, [(0, _), (4, _), (6, _), (10, _), (11, _), (12, _)], [(1700, _), (12100, _)]⟩) (Le.sub0 rfl ⟨rfl, rfl, rfl, rfl, rfl, rfl, trivial⟩ ⟨rfl, rfl, trivial⟩) ?_
                 refine AW.region ?_
                 refine AWl.mv rfl rfl rfl rfl rfl ?_
                 refine AWl.mv rfl rfl rfl rfl rfl ?_
                 refine AWl.adds (R_call 14000 (impleither (w.length + 1) (repR (w.length + 1) (wordR w y) x.tok.Low k) (powR (w.length + 1) (wordR w y) k) (by omega)) rfl rfl rfl (.cons (.tm rfl) rfl (.cons (.tm rfl) rfl .nil)) rfl rfl) rfl ?_
                 refine AWl.av rfl rfl rfl rfl rfl ?_
                 refine AWl.nil ?_
                 refine AW.le (Le.sw 1700 14000 _) ?_
                 refine AW.region ?_
                 refine AWl.mv rfl rfl rfl rfl rfl ?_
                 refine AWl.mv rfl rfl rfl rfl rfl ?_
                 refine AWl.adds (R_call 14300 (implinTurn (w.length + 1) (powR (w.length + 1) (wordR w y) k) (wordR w y) (by omega)) rfl rfl rfl (.cons (.tm rfl) rfl (.cons (.tm rfl) rfl .nil)) rfl rfl) rfl ?_
                 refine AWl.av rfl rfl rfl rfl rfl ?_
                 refine AWl.nil ?_
                 refine AW.le (Le.sw 12100 14300 _) ?_
                 refine AW.le (σ' := ⟨_, [(0, _), (4, _), (6, _), (10, _), (11, _), (12, _)], [(14000, _), (14300, _), (1700, _), (12100, _)]⟩) (Le.sub0 rfl ⟨rfl, rfl, rfl, rfl, rfl, rfl, trivial⟩ ⟨rfl, rfl, rfl, rfl, trivial⟩) ?_
                 refine AW.region ?_
                 refine AWl.mv rfl rfl rfl rfl rfl ?_
                 refine AWl.put (R_add rfl (.no rfl) rfl (.tm rfl) (.const rfl) (fun _ => by omega)) rfl ?_
                 refine AWl.av rfl rfl rfl rfl rfl ?_
                 refine AWl.nil ?_
                 repeat (with_reducible refine BlockQ.nor ?_)
                 refine Round1.next (k + 1) ⟨by omega, trivial⟩ (by omega) (Le.sub0 rfl ⟨rfl, rfl, rfl, rfl, rfl, rfl, trivial⟩ ⟨(by refine congrArg (fun r => some (R.row 1 r)) ?_; first | (rw [repR, if_pos hlk]; done) | (rw [repR, if_neg hlk]; done) | (rw [← lTo_step hy]; exact grid_put)), (by rfl), trivial⟩)
               · skip
                 try simp at h137
                 have hlk : ¬ x.tok.Low ≤ (k : Int) := by (have h := h137; first | omega | (simp at h; omega))
                 refine AW.skip ?_
                 refine AW.le (σ' := ⟨_, [(0, _), (4, _), (6, _), (10, _), (11, _), (12, _)], [(1700, _), (12100, _)]⟩) (Le.sub0 rfl ⟨rfl, rfl, rfl, rfl, rfl, rfl, trivial⟩ ⟨rfl, rfl, trivial⟩) ?_
                 refine AW.region ?_
                 refine AWl.mv rfl rfl rfl rfl rfl ?_
                 refine AWl.mv rfl rfl rfl rfl rfl ?_
                 refine AWl.adds (R_call 14300 (implinTurn (w.length + 1) (powR (w.length + 1) (wordR w y) k) (wordR w y) (by omega)) rfl rfl rfl (.cons (.tm rfl) rfl (.cons (.tm rfl) rfl .nil)) rfl rfl) rfl ?_
                 refine AWl.av rfl rfl rfl rfl rfl ?_
                 refine AWl.nil ?_
                 refine AW.le (Le.sw 12100 14300 _) ?_
                 refine AW.region ?_
                 refine AWl.mv rfl rfl rfl rfl rfl ?_
                 refine AWl.put (R_add rfl (.no rfl) rfl (.tm rfl) (.const rfl) (fun _ => by omega)) rfl ?_
                 refine AWl.av rfl rfl rfl rfl rfl ?_
                 refine AWl.nil ?_
                 repeat (with_reducible refine BlockQ.nor ?_)
                 refine Round1.next (k + 1) ⟨by omega, trivial⟩ (by omega) (Le.sub0 rfl ⟨rfl, rfl, rfl, rfl, rfl, rfl, trivial⟩ ⟨(by refine congrArg (fun r => some (R.row 1 r)) ?_; first | (rw [repR, if_pos hlk]; done) | (rw [repR, if_neg hlk]; done) | (rw [← lTo_step hy]; exact grid_put)), (by rfl), trivial⟩)
             · skip
               try simp at h128
               refine AW.exit ?_
               refine AW.seq ?_
               refine AW.le (σ' := ⟨_, [(0, _), (4, _), (6, _), (10, _), (11, _), (12, _)], [(1700, _), (12100, _)]⟩) (Le.sub0 rfl ⟨rfl, rfl, rfl, rfl, rfl, rfl, trivial⟩ ⟨rfl, rfl, trivial⟩) ?_
               refine AW.region ?_
               refine AWl.mv rfl rfl rfl rfl rfl ?_
               refine AWl.av rfl rfl rfl rfl rfl ?_
               refine AWl.nil (AW.ret ?_)
               refine Res.one rfl (.tmp rfl .nil) rfl ?_
               rw [wordR_one hk2, if_neg h89, show k = x.tok.High.toNat + 1 by have h := h128; first | omega | (simp at h; omega)]; rfl
           · skip
             try simp at h110
             refine AW.skip ?_
             refine AW.seq ?_
             refine AW.le (σ' := ⟨_, [(0, _), (1, _), (4, _), (5, _), (6, _), (22, _)], [(20001, _), (1700, _)]⟩) (Le.sub0 rfl ⟨rfl, rfl, rfl, rfl, rfl, rfl, trivial⟩ ⟨rfl, rfl, trivial⟩) ?_
             refine AW.region ?_
             refine AWl.mv rfl rfl rfl rfl rfl ?_
             refine AWl.av rfl rfl rfl rfl rfl ?_
             refine AWl.nil (AW.ret ?_)
             refine Res.one rfl (.tmp rfl .nil) rfl ?_
             rw [wordR_none (kind_no' hgx (by omega)), if_neg h23, if_neg h27, diag_no]; rfl
end Go.Proofs.YtbkhopfpejhnlaaGreat
