import Derived.Test.YtoealglkenhphaaGreatB19xb
import Derived.Test.YtoealglkenhphaaGreatAbsOxb
set_option linter.unusedVariables false
set_option linter.unusedSimpArgs false
set_option maxHeartbeats 1000000
set_option maxRecDepth 100000
namespace Go.Q
open Go.D
theorem validA_rows {a : TAutomaton} (h : validA a = true) : ∀ x ∈ a.Next, x.length = 9 := by
 intro x hx
 unfold validA at h
 simp only [Bool.and_eq_true] at h
 have := List.all_eq_true.1 h.2 x hx
 unfold rowOk at this
 simp only [Bool.and_eq_true, decide_eq_true_eq] at this
 exact this.2
theorem validA_okz {a : TAutomaton} (h : validA a = true) : okAutomaton a := by
 have hA := validA_len h
 exact ⟨show a.Accept.length ≤ 1048576 by omega, ⟨show a.Next.length ≤ 1048576 by omega, fun x hx => show x.length ≤ 1048576 by have := validA_rows h x hx; omega⟩, trivial⟩
end Go.Q
namespace Go.Proofs.YtoealglkenhphaaGreat
open Go.RowKit Go.Q Go.D
theorem implcopyInts (l : List Int) (hz : l.length ≤ 1073741824) : FnT Tryz.prog 87 [.one (.sl 1 (l.map cInt))] (.a (.one (.sl 1 (l.map cInt)))) := by
 refine FnT.walk Tryz.func87 rfl (by kernel_rfl) Tryz.ntmps87 rfl fun hlen w0 => ?_
 try simp [cEdge, cGraph, cStep, cChange, cBatch, cAutomaton, cProductStep, cView] at hlen
 refine AW.sr ?_
 refine AWl.ac rfl rfl rfl rfl rfl ?_
 refine AWl.nilS (i := 2) 20001 1 rfl rfl ?_
 refine AWl.nil ?_
 refine AW.sr ?_
 refine AWl.add (R_empty 3 rfl rfl rfl Tryz.underlying22 ty3 rfl) rfl ?_
 refine AWl.mv rfl rfl rfl rfl rfl ?_
 refine AWl.chgput (R_append rfl rfl rfl (.tm rfl) rfl (.tm rfl) (by exact .t) (by exact isV_map (fun _ => rfl) _) Tryz.underlying22 in3 rfl (by (simp [chunk]; omega)) (by (unfold maxLen; simp [chunk]; omega))) rfl ?_
 refine AWl.le (σ' := ⟨_, [(0, _), (2, _), (5, _)], [(20001, _), (3, _)]⟩) (Le.sub0 rfl ⟨rfl, rfl, rfl, trivial⟩ ⟨rfl, rfl, trivial⟩) ?_
 refine AWl.av rfl rfl rfl rfl rfl ?_
 refine AWl.nil ?_
 refine AW.ret ?_
 refine Res.one rfl (.tmp rfl .nil) rfl ?_
 rfl
theorem implcopyAutomatonZ (a : TAutomaton) (hz : okAutomaton a) : FnT Tryz.prog 163 [.agg (cAutomaton a)] (.a (.agg (cAutomaton a))) := by
 refine FnT.walk Tryz.func163 rfl (by kernel_rfl) Tryz.ntmps163 rfl fun hlen w0 => ?_
 try simp [cEdge, cGraph, cStep, cChange, cBatch, cAutomaton, cProductStep, cView] at hlen
 have hz1 : a.Accept.length ≤ 1048576 := hz.1
 have hz2 : a.Next.length ≤ 1048576 := hz.2.1.1
 refine AW.sr ?_
 refine AWl.put (R_boxz rfl rfl rfl (.tm rfl) (ts := _) (by rfl)) rfl ?_
 refine AWl.add (R_alloc 2 rfl rfl rfl in36 rfl rfl rfl) rfl ?_
 refine AWl.nil ?_
 refine AW.seq ?_
 refine AW.le (σ' := ⟨_, [(0, _), (1, _), (2, _)], [(2, _)]⟩) (Le.sub0 rfl ⟨rfl, rfl, rfl, trivial⟩ ⟨rfl, trivial⟩) ?_
 refine AW.drawK 8 (nthB [[], [0], [], [], [3], [2, 3, 4], [0, 1, 2, 3, 4, 5], []]) [(5, 8)] (by kernel_rfl) (by kernel_rfl) (by kernel_rfl) ?_
 refine DrawK.step (LocK.of rfl fun σ' hs => (by exact R_fieldAddr rfl (.no rfl) (hd_sup hs rfl) (.tm (hs.slots _ _ rfl)) fl36_0)) ?_
 refine DrawK.step (LocK.of rfl fun σ' hs => (by exact R_load rfl (.no rfl) (hd_sup hs rfl) (.tm (hs.slots _ _ rfl)) ty3 rfl rfl)) ?_
 refine DrawK.step (LocK.of1 rfl fun σ' hs hf => R_empty 8 rfl rfl (hd_sup hs rfl) Tryz.underlying26 ty4 hf) ?_
 refine DrawK.step (LocK.of rfl fun σ' hs => (by exact R_fieldAddr rfl (.no rfl) (hd_sup hs rfl) (.tm (hs.slots _ _ rfl)) fl36_1)) ?_
 refine DrawK.step (LocK.of rfl fun σ' hs => (by exact R_load rfl (.no rfl) (hd_sup hs rfl) (.tm (hs.slots _ _ rfl)) ty26 rfl rfl)) ?_
 refine DrawK.step (LocK.ofc rfl rfl fun σ' hs => R_append (id := 8) rfl rfl (hd_sup hs rfl) (.tm (hs.slots _ _ rfl)) (hs.res _ _ rfl) (.tm (hs.slots _ _ rfl)) (by exact .t) (by exact isV_map (fun _ => rfl) _) Tryz.underlying26 in4 rfl (by (simp [chunk]; omega)) (by (unfold maxLen; simp [chunk]; omega))) ?_
 refine DrawK.step (LocK.of rfl fun σ' hs => R_build (ps := [(0, .tmp 7), (1, .tmp 11)]) rfl rfl (hd_sup hs rfl) in36 rfl rfl st36 (.cons (.tm (hs.slots _ _ rfl)) rfl rfl fp36_0 (.cons (.tm (hs.slots _ _ rfl)) rfl rfl fp36_1 .nil)) rfl) ?_
 refine DrawK.step (LocK.of1 rfl fun σ' hs hf => R_alloc 3 rfl rfl (hd_sup hs rfl) in36 rfl rfl hf) ?_
 refine DrawK.fin rfl rfl rfl ?_
 refine AWl.le (σ' := ⟨_, [(0, _), (1, _), (2, _), (3, _), (12, _)], [(2, _), (8, _), (3, _)]⟩) (Le.sub0 rfl ⟨rfl, rfl, rfl, rfl, rfl, trivial⟩ ⟨rfl, rfl, rfl, trivial⟩) ?_
 refine AWl.nilA (i := 12) 20001 1 2 rfl rfl rfl ?_
 refine AWl.chgb (R_store_pb rfl rfl rfl (.tm rfl) (.tm rfl) rfl ty36 rfl rfl rfl (by kernel_rfl) rfl) ?_
 refine AWl.nil ?_
 refine AW.seq ?_
 refine AW.sr ?_
 refine AWl.put (by exact R_fieldAddr rfl (.no rfl) rfl (.tm rfl) fl36_2) rfl ?_
 refine AWl.put (by exact R_load rfl (.no rfl) rfl (.tm rfl) ty27 rfl rfl) rfl ?_
 refine AWl.put (by exact R_lenm rfl (.no rfl) rfl (.tm rfl) (by exact .t) Tryz.underlying27) rfl ?_
 refine AWl.put (R_move rfl (.no rfl) rfl (.const rfl)) rfl ?_
 refine AWl.nil ?_
 refine AW.block ?_
 refine AW.loop1 (fun (k : Nat) => (k ≤ a.Next.length) ∧ True) (fun (k : Nat) => ⟨_, [(16, (true, .a (.one (.t (.v (.int .i64 (k : Nat))))))), (2, _), (3, _), (14, _), (15, _)], [(2, .box [.t (.v (.int .i64 0)), .t (.v (.slice none 0 0)), .t (.v (.slice none 0 0))]), (3, .box [.t (.v (.int .i64 a.Start)), .rf 8, .rf 20001]), (8, .row 1 (a.Accept.map cBool)), (20001, .row 1 ((a.Next.take k).map cIntS))]⟩) (fun (k : Nat) => a.Next.length - k) (0) ⟨Nat.zero_le _, trivial⟩ (Le.sub0 rfl ⟨rfl, rfl, rfl, rfl, rfl, trivial⟩ ⟨rfl, rfl, rfl, rfl, trivial⟩) ?_
 rintro k ⟨hk, he⟩
 refine AW.sr ?_
 refine AWl.put (R_lt rfl (.no rfl) rfl (.tm rfl) (.tm rfl)) rfl ?_
 refine AWl.nil ?_
 refine AW.seq ?_
 refine AW.cond (.tm rfl) (fun h17 => ?_) (fun h17 => ?_)
 ·skip
  try simp at h17
  obtain ⟨x, hx⟩ : ∃ ξ, a.Next[k]? = some ξ := ⟨_, List.getElem?_eq_getElem (by omega)⟩
  refine AW.skip ?_
  refine AW.seq ?_
  refine AW.block ?_
  refine AW.sr ?_
  refine AWl.put (by exact R_indexAddr rfl (.no rfl) rfl (.tm rfl) (.tm rfl) Tryz.underlying27 ty22 (fun _ => ⟨by omega, (map_get hx)⟩)) rfl ?_
  refine AWl.put (by exact R_load rfl (.no rfl) rfl (.tm rfl) ty22 rfl rfl) rfl ?_
  refine AWl.av rfl rfl rfl rfl rfl ?_
  refine AWl.nil ?_
  refine AW.dagn 8 14 [[], [0], [2], [0, 1], [0, 2], [2, 3], [0, 1, 2], [0, 2, 3], [2, 3, 4], [0, 1, 2, 3], [0, 2, 3, 4], [0, 1, 2, 3, 4], [0, 1, 2, 3, 4, 5], [0, 1, 2, 3, 4, 5, 6], [0, 1, 2, 3, 4, 5, 6, 7]] [(0, 0, 1), (0, 2, 2), (1, 1, 3), (1, 2, 4), (2, 0, 4), (2, 3, 5), (3, 2, 6), (4, 1, 6), (4, 3, 7), (5, 0, 7), (5, 4, 8), (6, 3, 9), (7, 1, 9), (7, 4, 10), (8, 0, 10), (9, 4, 11), (10, 1, 11), (11, 5, 12), (12, 6, 13), (13, 7, 14)] (by kernel_rfl) (by kernel_rfl) (by kernel_rfl) ?_
  apply Dag.new (i := 0)
  case ha => rfl
  case ho => rfl
  case hb => rfl
  case hE =>
   intro w9
   refine AWl.put (by exact R_fieldAddr_pp rfl (.no rfl) rfl (.tm rfl) fl36_2) rfl ?_
   refine AWl.nil ?_
   exact Le.sub0 (σ' := ⟨_, [(2, _), (3, _), (5, _), (14, _), (15, _), (16, _), (17, _), (20, _)], [(2, _), (3, _), (8, _), (20001, _)]⟩) rfl ⟨rfl, rfl, rfl, rfl, rfl, rfl, rfl, rfl, trivial⟩ ⟨rfl, rfl, rfl, rfl, trivial⟩
  apply Dag.new (i := 2)
  case ha => rfl
  case ho => rfl
  case hb => rfl
  case hE =>
   intro w9
   refine AWl.mv rfl rfl rfl rfl rfl ?_
   refine AWl.nil ?_
   exact Le.sub0 (σ' := ⟨_, [(2, _), (3, _), (5, _), (14, _), (15, _), (16, _), (17, _), (22, _)], [(2, _), (3, _), (8, _), (20001, _)]⟩) rfl ⟨rfl, rfl, rfl, rfl, rfl, rfl, rfl, rfl, trivial⟩ ⟨rfl, rfl, rfl, rfl, trivial⟩
  apply Dag.new (i := 1)
  case ha => rfl
  case ho => rfl
  case hb => rfl
  case hE =>
   intro w9
   refine AWl.put (by exact R_load_pp rfl (.no rfl) rfl (.tm rfl) rfl ty27 rfl rfl) rfl ?_
   refine AWl.nil ?_
   exact Le.sub0 (σ' := ⟨_, [(2, _), (3, _), (5, _), (14, _), (15, _), (16, _), (17, _), (21, _)], [(2, _), (3, _), (8, _), (20001, _)]⟩) rfl ⟨rfl, rfl, rfl, rfl, rfl, rfl, rfl, rfl, trivial⟩ ⟨rfl, rfl, rfl, rfl, trivial⟩
  apply Dag.new (i := 2)
  case ha => rfl
  case ho => rfl
  case hb => rfl
  case hE =>
   intro w9
   refine AWl.mv rfl rfl rfl rfl rfl ?_
   refine AWl.nil ?_
   exact Le.sub0 (σ' := ⟨_, [(2, _), (3, _), (5, _), (14, _), (15, _), (16, _), (17, _), (20, _), (22, _)], [(2, _), (3, _), (8, _), (20001, _)]⟩) rfl ⟨rfl, rfl, rfl, rfl, rfl, rfl, rfl, rfl, rfl, trivial⟩ ⟨rfl, rfl, rfl, rfl, trivial⟩
  apply Dag.old (i := 0)
  case ha => rfl
  case ho => rfl
  case hb => rfl
  case hE =>
   intro w9
   refine AWl.put (by exact R_fieldAddr_pp rfl (.no rfl) rfl (.tm rfl) fl36_2) rfl ?_
   refine AWl.nil ?_
   exact Le.sub0 rfl ⟨rfl, rfl, rfl, rfl, rfl, rfl, rfl, rfl, rfl, trivial⟩ ⟨rfl, rfl, rfl, rfl, trivial⟩
  apply Dag.new (i := 3)
  case ha => rfl
  case ho => rfl
  case hb => rfl
  case hE =>
   intro w9
   refine AWl.adds (R_call 2300 (implcopyInts x (by have : x.length ≤ 1048576 := hz.2.1.2 x (List.mem_of_getElem? hx); omega)) rfl rfl rfl (.cons (.tm rfl) rfl .nil) rfl rfl) rfl ?_
   refine AWl.nil ?_
   exact Le.sub0 (σ' := ⟨_, [(2, _), (3, _), (5, _), (14, _), (15, _), (16, _), (17, _), (23, _)], [(2, _), (3, _), (8, _), (20001, _), (2300, _)]⟩) rfl ⟨rfl, rfl, rfl, rfl, rfl, rfl, rfl, rfl, trivial⟩ ⟨rfl, rfl, rfl, rfl, rfl, trivial⟩
  apply Dag.new (i := 2)
  case ha => rfl
  case ho => rfl
  case hb => rfl
  case hE =>
   intro w9
   refine AWl.mv rfl rfl rfl rfl rfl ?_
   refine AWl.nil ?_
   exact Le.sub0 (σ' := ⟨_, [(2, _), (3, _), (5, _), (14, _), (15, _), (16, _), (17, _), (21, _), (22, _)], [(2, _), (3, _), (8, _), (20001, _)]⟩) rfl ⟨rfl, rfl, rfl, rfl, rfl, rfl, rfl, rfl, rfl, trivial⟩ ⟨rfl, rfl, rfl, rfl, trivial⟩
  apply Dag.old (i := 1)
  case ha => rfl
  case ho => rfl
  case hb => rfl
  case hE =>
   intro w9
   refine AWl.put (by exact R_load_pp rfl (.no rfl) rfl (.tm rfl) rfl ty27 rfl rfl) rfl ?_
   refine AWl.nil ?_
   exact Le.sub0 rfl ⟨rfl, rfl, rfl, rfl, rfl, rfl, rfl, rfl, rfl, trivial⟩ ⟨rfl, rfl, rfl, rfl, trivial⟩
  apply Dag.new (i := 3)
  case ha => rfl
  case ho => rfl
  case hb => rfl
  case hE =>
   intro w9
   refine AWl.adds (R_call 2300 (implcopyInts x (by have : x.length ≤ 1048576 := hz.2.1.2 x (List.mem_of_getElem? hx); omega)) rfl rfl rfl (.cons (.tm rfl) rfl .nil) rfl rfl) rfl ?_
   refine AWl.nil ?_
   exact Le.sub0 (σ' := ⟨_, [(2, _), (3, _), (5, _), (14, _), (15, _), (16, _), (17, _), (20, _), (23, _)], [(2, _), (3, _), (8, _), (20001, _), (2300, _)]⟩) rfl ⟨rfl, rfl, rfl, rfl, rfl, rfl, rfl, rfl, rfl, trivial⟩ ⟨rfl, rfl, rfl, rfl, rfl, trivial⟩
  apply Dag.old (i := 0)
  case ha => rfl
  case ho => rfl
  case hb => rfl
  case hE =>
   intro w9
   refine AWl.put (by exact R_fieldAddr_pp rfl (.no rfl) rfl (.tm rfl) fl36_2) rfl ?_
   refine AWl.nil ?_
   exact Le.sub0 rfl ⟨rfl, rfl, rfl, rfl, rfl, rfl, rfl, rfl, rfl, trivial⟩ ⟨rfl, rfl, rfl, rfl, rfl, trivial⟩
  apply Dag.new (i := 4)
  case ha => rfl
  case ho => rfl
  case hb => rfl
  case hE =>
   intro w9
   refine AWl.absadd (R_list (xs := [.tmp 23]) 24 rfl rfl rfl (.cons (.tm rfl) rfl rfl .nil) Tryz.underlying27 in22 rfl rfl rfl rfl) rfl ?_
   refine AWl.nil ?_
   exact Le.sub0 (σ' := ⟨_, [(2, _), (3, _), (5, _), (14, _), (15, _), (16, _), (17, _), (24, _)], [(2, _), (3, _), (8, _), (20001, _), (24, _)]⟩) rfl ⟨rfl, rfl, rfl, rfl, rfl, rfl, rfl, rfl, trivial⟩ ⟨rfl, rfl, rfl, rfl, rfl, trivial⟩
  apply Dag.new (i := 3)
  case ha => rfl
  case ho => rfl
  case hb => rfl
  case hE =>
   intro w9
   refine AWl.adds (R_call 2300 (implcopyInts x (by have : x.length ≤ 1048576 := hz.2.1.2 x (List.mem_of_getElem? hx); omega)) rfl rfl rfl (.cons (.tm rfl) rfl .nil) rfl rfl) rfl ?_
   refine AWl.nil ?_
   exact Le.sub0 (σ' := ⟨_, [(2, _), (3, _), (5, _), (14, _), (15, _), (16, _), (17, _), (21, _), (23, _)], [(2, _), (3, _), (8, _), (20001, _), (2300, _)]⟩) rfl ⟨rfl, rfl, rfl, rfl, rfl, rfl, rfl, rfl, rfl, trivial⟩ ⟨rfl, rfl, rfl, rfl, rfl, trivial⟩
  apply Dag.old (i := 1)
  case ha => rfl
  case ho => rfl
  case hb => rfl
  case hE =>
   intro w9
   refine AWl.put (by exact R_load_pp rfl (.no rfl) rfl (.tm rfl) rfl ty27 rfl rfl) rfl ?_
   refine AWl.nil ?_
   exact Le.sub0 rfl ⟨rfl, rfl, rfl, rfl, rfl, rfl, rfl, rfl, rfl, trivial⟩ ⟨rfl, rfl, rfl, rfl, rfl, trivial⟩
  apply Dag.new (i := 4)
  case ha => rfl
  case ho => rfl
  case hb => rfl
  case hE =>
   intro w9
   refine AWl.absadd (R_list (xs := [.tmp 23]) 24 rfl rfl rfl (.cons (.tm rfl) rfl rfl .nil) Tryz.underlying27 in22 rfl rfl rfl rfl) rfl ?_
   refine AWl.nil ?_
   exact Le.sub0 (σ' := ⟨_, [(2, _), (3, _), (5, _), (14, _), (15, _), (16, _), (17, _), (20, _), (24, _)], [(2, _), (3, _), (8, _), (20001, _), (24, _)]⟩) rfl ⟨rfl, rfl, rfl, rfl, rfl, rfl, rfl, rfl, rfl, trivial⟩ ⟨rfl, rfl, rfl, rfl, rfl, trivial⟩
  apply Dag.old (i := 0)
  case ha => rfl
  case ho => rfl
  case hb => rfl
  case hE =>
   intro w9
   refine AWl.put (by exact R_fieldAddr_pp rfl (.no rfl) rfl (.tm rfl) fl36_2) rfl ?_
   refine AWl.nil ?_
   exact Le.sub0 rfl ⟨rfl, rfl, rfl, rfl, rfl, rfl, rfl, rfl, rfl, trivial⟩ ⟨rfl, rfl, rfl, rfl, rfl, trivial⟩
  apply Dag.new (i := 4)
  case ha => rfl
  case ho => rfl
  case hb => rfl
  case hE =>
   intro w9
   refine AWl.absadd (R_list (xs := [.tmp 23]) 24 rfl rfl rfl (.cons (.tm rfl) rfl rfl .nil) Tryz.underlying27 in22 rfl rfl rfl rfl) rfl ?_
   refine AWl.nil ?_
   exact Le.sub0 (σ' := ⟨_, [(2, _), (3, _), (5, _), (14, _), (15, _), (16, _), (17, _), (21, _), (24, _)], [(2, _), (3, _), (8, _), (20001, _), (24, _)]⟩) rfl ⟨rfl, rfl, rfl, rfl, rfl, rfl, rfl, rfl, rfl, trivial⟩ ⟨rfl, rfl, rfl, rfl, rfl, trivial⟩
  apply Dag.old (i := 1)
  case ha => rfl
  case ho => rfl
  case hb => rfl
  case hE =>
   intro w9
   refine AWl.put (by exact R_load_pp rfl (.no rfl) rfl (.tm rfl) rfl ty27 rfl rfl) rfl ?_
   refine AWl.nil ?_
   exact Le.sub0 rfl ⟨rfl, rfl, rfl, rfl, rfl, rfl, rfl, rfl, rfl, trivial⟩ ⟨rfl, rfl, rfl, rfl, rfl, trivial⟩
  apply Dag.new (i := 5)
  case ha => rfl
  case ho => rfl
  case hb => rfl
  case hE =>
   intro w9
   refine AWl.abschgput (R_append_own rfl rfl rfl (.tm rfl) rfl (.tm rfl) rfl rfl Tryz.underlying27 in22 rfl (by (simp [chunk]; omega)) (by (unfold maxLen; simp [chunk]; omega))) rfl ?_
   refine AWl.nil ?_
   exact Le.sub0 (σ' := ⟨_, [(2, _), (3, _), (5, _), (14, _), (15, _), (16, _), (17, _), (25, _)], [(2, _), (3, _), (8, _), (20001, _)]⟩) rfl ⟨rfl, rfl, rfl, rfl, rfl, rfl, rfl, rfl, trivial⟩ ⟨rfl, rfl, rfl, rfl, trivial⟩
  apply Dag.new (i := 6)
  case ha => rfl
  case ho => rfl
  case hb => rfl
  case hE =>
   intro w9
   refine AWl.put (by exact R_fieldAddr_pp rfl (.no rfl) rfl (.tm rfl) fl36_2) rfl ?_
   refine AWl.nil ?_
   exact Le.sub0 (σ' := ⟨_, [(2, _), (3, _), (5, _), (14, _), (15, _), (16, _), (17, _), (25, _), (26, _)], [(2, _), (3, _), (8, _), (20001, _)]⟩) rfl ⟨rfl, rfl, rfl, rfl, rfl, rfl, rfl, rfl, rfl, trivial⟩ ⟨rfl, rfl, rfl, rfl, trivial⟩
  apply Dag.new (i := 7)
  case ha => rfl
  case ho => rfl
  case hb => rfl
  case hE =>
   intro w9
   refine AWl.chgb (R_store_pb rfl rfl rfl (.tm rfl) (.tm rfl) rfl ty27 rfl rfl rfl (by kernel_rfl) rfl) ?_
   refine AWl.nil ?_
   exact Le.sub0 (σ' := ⟨_, [(2, _), (3, _), (5, _), (14, _), (15, _), (16, _), (17, _)], [(2, _), (3, _), (8, _), (20001, _)]⟩) rfl ⟨rfl, rfl, rfl, rfl, rfl, rfl, rfl, trivial⟩ ⟨rfl, rfl, rfl, rfl, trivial⟩
  refine Dag.fin (k := 14) rfl ?_
  refine AWl.nil ?_
  refine AW.region ?_
  refine AWl.put (R_add rfl (.no rfl) rfl (.tm rfl) (.const rfl) (fun _ => by omega)) rfl ?_
  refine AWl.mv rfl rfl rfl rfl rfl ?_
  refine AWl.nil ?_
  repeat (with_reducible refine BlockQ.nor ?_)
  refine Round1.next (k + 1) ⟨by omega, trivial⟩ (by omega) (Le.sub0 rfl ⟨rfl, rfl, rfl, rfl, rfl, trivial⟩ ⟨(by rfl), (by rfl), (by rfl), (by refine congrArg (fun r => some (R.row 1 r)) ?_; rw [take_at hx]; simp; try rfl), trivial⟩)
 ·skip
  try simp at h17
  refine AW.exit ?_
  refine AW.sr ?_
  refine AWl.put (by exact R_load_pp rfl (.no rfl) rfl (.tm rfl) rfl ty36 rfl rfl) rfl ?_
  refine AWl.chgb (R_store_pb rfl rfl rfl (.tm rfl) (.tm rfl) rfl ty36 rfl rfl rfl (by kernel_rfl) rfl) ?_
  refine AWl.nil ?_
  refine AW.ret ?_
  refine Res.one rfl (.cell rfl rfl ty36 rfl rfl .nil) rfl ?_
  rw [List.take_of_length_le (l := a.Next) (by omega)]; rfl
theorem implcopyAutomaton (a : TAutomaton) (ha : validA a = true) : FnT Tryz.prog 163 [.agg (cAutomaton a)] (.a (.agg (cAutomaton a))) := implcopyAutomatonZ a (validA_okz ha)
end Go.Proofs.YtoealglkenhphaaGreat
