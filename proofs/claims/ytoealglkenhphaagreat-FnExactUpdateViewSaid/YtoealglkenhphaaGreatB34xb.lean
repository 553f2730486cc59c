import Derived.Test.YtoealglkenhphaaGreatB27xb
set_option linter.unusedVariables false
set_option linter.unusedSimpArgs false
set_option maxHeartbeats 1000000
set_option maxRecDepth 100000
namespace Go.Q
open Go.D
theorem supRow_full {RK S l : List Int} {i k : Nat} (h : l.length ≤ k ∨ atI RK i < 0) : supRow RK i S (l.take k) = supRow RK i S l := by
 rcases h with h | h
 ·rw [List.take_of_length_le h]
 ·rw [supRow_neg h, supRow_neg h]
end Go.Q
namespace Go.Proofs.YtoealglkenhphaaGreat
open Go.RowKit Go.Q Go.D
theorem specl27Build (g : TGraph) (a : TAutomaton) (ha : validA a = true) (hg : validG g = true) (x : Int) (hx : 0 ≤ x ∧ x < g.Values.length) : FnT Tryz.prog 49 [.agg (cGraph g), .agg (cAutomaton a), .one (.v (.int .i64 x))] (.a (.agg (cView (viewOf g a x)))) := by
 refine FnT.walk Tryz.func49 rfl (by kernel_rfl) Tryz.ntmps49 rfl fun hlen w0 => ?_
 try simp [cEdge, cGraph, cStep, cChange, cBatch, cAutomaton, cProductStep, cView] at hlen
 have hA := validA_len ha
 have hG := validG_len hg
 have hN := prod_le ha hg
 have hRK := ranks_ok ha hg hx
 have hnk := fun p (hp : p < a.Accept.length * g.Values.length) => nxN_ok ha hg hp
 have hsa := fun n (hn : n ≤ a.Accept.length * g.Values.length) => SupI.all (R := ranksOf g a x) (c := 1536) hnk (fun p _ => nxN_len a hg p) hn
 refine AW.sr ?_
 refine AWl.put (R_boxz rfl rfl rfl (.tm rfl) (ts := _) (by rfl)) rfl ?_
 refine AWl.put (R_boxz rfl rfl rfl (.tm rfl) (ts := _) (by rfl)) rfl ?_
 refine AWl.add (R_alloc 6 rfl rfl rfl in38 rfl rfl rfl) rfl ?_
 refine AWl.nil ?_
 refine AW.sr ?_
 refine AWl.put (by exact R_fieldAddr rfl (.no rfl) rfl (.tm rfl) fl36_1) rfl ?_
 refine AWl.put (by exact R_load rfl (.no rfl) rfl (.tm rfl) ty26 rfl rfl) rfl ?_
 refine AWl.put (by exact R_lenm rfl (.no rfl) rfl (.tm rfl) (by exact .t) Tryz.underlying26) rfl ?_
 refine AWl.av rfl rfl rfl rfl rfl ?_
 refine AWl.nil ?_
 refine AW.seq ?_
 refine AW.drawn 9 (nthB [[], [0], [], [], [], [], [0, 1, 3, 4, 5], [0, 1, 2, 3, 4, 5, 6], []]) (by kernel_rfl) (by kernel_rfl) (by kernel_rfl) ?_
 refine DrawC.step rfl rfl rfl (Loc.of rfl fun σ' hs => (by exact R_load rfl (.no rfl) (hd_sup hs rfl) (.tm (hs.slots _ _ rfl)) ty36 rfl rfl)) ?_
 refine DrawC.step rfl rfl rfl (Loc.ofs rfl fun σ' hs hf => R_call 1700 (specl11Copy a ha) rfl rfl (hd_sup hs rfl) (.cons (.tm (hs.slots _ _ rfl)) (readA_sup hs rfl) .nil) rfl (all_fresh hf)) ?_
 refine DrawC.step rfl rfl rfl (Loc.of rfl fun σ' hs => R_move rfl (.no rfl) (hd_sup hs rfl) (.tm (hs.slots _ _ rfl))) ?_
 refine DrawC.step rfl rfl rfl (Loc.of rfl fun σ' hs => (by exact R_load rfl (.no rfl) (hd_sup hs rfl) (.tm (hs.slots _ _ rfl)) ty43 rfl rfl)) ?_
 refine DrawC.step rfl rfl rfl (Loc.of rfl fun σ' hs => (by exact R_load rfl (.no rfl) (hd_sup hs rfl) (.tm (hs.slots _ _ rfl)) ty36 rfl rfl)) ?_
 refine DrawC.step rfl rfl rfl (Loc.of rfl fun σ' hs => R_move rfl (.no rfl) (hd_sup hs rfl) (.tm (hs.slots _ _ rfl))) ?_
 refine DrawC.step rfl rfl rfl (Loc.ofs rfl fun σ' hs hf => R_call 2200 (specl14Ranks g a ha hg x hx) rfl rfl (hd_sup hs rfl) (.cons (.tm (hs.slots _ _ rfl)) (readA_sup hs rfl) (.cons (.tm (hs.slots _ _ rfl)) (readA_sup hs rfl) (.cons (.tm (hs.slots _ _ rfl)) (readA_sup hs rfl) .nil))) rfl (all_fresh hf)) ?_
 refine DrawC.step rfl rfl rfl (Loc.of rfl fun σ' hs => R_build (ps := [(0, .tmp 17), (1, .tmp 18), (2, .tmp 22)]) rfl rfl (hd_sup hs rfl) in38 rfl rfl st38 (.cons (.tm (hs.slots _ _ rfl)) rfl rfl fp38_0 (.cons (.tm (hs.slots _ _ rfl)) rfl rfl fp38_1 (.cons (.tm (hs.slots _ _ rfl)) rfl rfl fp38_2 .nil))) rfl) ?_
 refine DrawC.step rfl rfl rfl (Loc.of1 rfl fun σ' hs hf => R_alloc 8 rfl rfl (hd_sup hs rfl) in38 rfl rfl hf) ?_
 refine DrawC.fin rfl rfl ?_
 refine AWl.nilA (i := 23) 20001 1 5 rfl rfl rfl ?_
 refine AWl.chgb (R_store_pb rfl rfl rfl (.tm rfl) (.tm rfl) rfl ty38 rfl rfl rfl (by kernel_rfl) rfl) ?_
 refine AWl.nil ?_
 refine AW.seq ?_
 refine AW.le (σ' := ⟨_, [(0, _), (1, _), (2, _), (3, _), (4, _), (6, _), (7, _), (8, _)], [(6, _), (1700, _), (1701, _), (2200, _), (8, _), (20001, _)]⟩) (Le.sub0 rfl ⟨rfl, rfl, rfl, rfl, rfl, rfl, rfl, rfl, trivial⟩ ⟨rfl, rfl, rfl, rfl, rfl, rfl, trivial⟩) ?_
 refine AW.region ?_
 refine AWl.put (by exact R_fieldAddr_pp rfl (.no rfl) rfl (.tm rfl) fl38_2) rfl ?_
 refine AWl.put (by exact R_load_pp rfl (.no rfl) rfl (.tm rfl) rfl ty22 rfl rfl) rfl ?_
 refine AWl.put (by exact R_lenm rfl (.no rfl) rfl (.tm rfl) (by exact .rf rfl) Tryz.underlying22) rfl ?_
 refine AWl.add (R_makeSlice 27 rfl rfl rfl (.tm rfl) Tryz.underlying22 in3 rfl rfl rfl rfl (by omega)) rfl ?_
 refine AWl.put (by exact R_fieldAddr_pp rfl (.no rfl) rfl (.tm rfl) fl38_3) rfl ?_
 refine AWl.chgb (R_store_pb rfl rfl rfl (.tm rfl) (.tm rfl) rfl ty22 rfl rfl rfl (by kernel_rfl) rfl) ?_
 refine AWl.nil ?_
 refine AW.seq ?_
 refine AW.sr ?_
 refine AWl.ac rfl rfl rfl rfl rfl ?_
 refine AWl.nil ?_
 refine AW.block ?_
 refine AW.loop1 (fun (i : Nat) => (i ≤ a.Accept.length * g.Values.length) ∧ True) (fun (i : Nat) => ⟨_, [(9, (true, .a (.one (.t (.v (.int .i64 (i : Nat))))))), (3, _), (4, _), (6, _), (7, _), (8, _)], [(6, .box [.t (.v (.int .i64 0)), .t (.v (.slice none 0 0)), .t (.v (.slice none 0 0)), .t (.v (.int .i64 0)), .t (.v (.slice none 0 0)), .t (.v (.slice none 0 0))]), (8, .box [.t (.v (.int .i64 a.Start)), .rf 1700, .rf 1701, .t (.v (.int .i64 x)), .rf 2200, .rf 27]), (1700, .row 1 (a.Accept.map cBool)), (1701, .row 1 (a.Next.map cIntS)), (2200, .row 1 ((ranksOf g a x).map cInt)), (27, .row 1 ((supAll (nxN g a) (ranksOf g a x) (List.replicate (a.Accept.length * g.Values.length) 0) i).map cInt))]⟩) (fun (i : Nat) => a.Accept.length * g.Values.length - i) (0) ⟨Nat.zero_le _, trivial⟩ (Le.sub0 rfl ⟨rfl, rfl, rfl, rfl, rfl, rfl, trivial⟩ ⟨rfl, rfl, rfl, rfl, rfl, (by refine congrArg (fun r => some (R.row 1 r)) ?_; first | rfl | (simp only [Int.toNat_natCast, List.length_map, hRK.1, supAll, List.map_replicate]; rfl)), trivial⟩) ?_
 rintro i ⟨hk, he⟩
 refine AW.seq ?_
 refine AW.sr ?_
 refine AWl.mv rfl rfl rfl rfl rfl ?_
 refine AWl.put (by exact R_fieldAddr_pp rfl (.no rfl) rfl (.tm rfl) fl38_2) rfl ?_
 refine AWl.put (by exact R_load_pp rfl (.no rfl) rfl (.tm rfl) rfl ty22 rfl rfl) rfl ?_
 refine AWl.put (by exact R_lenm rfl (.no rfl) rfl (.tm rfl) (by exact .rf rfl) Tryz.underlying22) rfl ?_
 refine AWl.put (R_lt rfl (.no rfl) rfl (.tm rfl) (.tm rfl)) rfl ?_
 refine AWl.nil ?_
 refine AW.cond (.tm rfl) (fun h33 => ?_) (fun h33 => ?_)
 ·skip
  try simp at h33
  have hpl : i < a.Accept.length * g.Values.length := by (rw [hRK.1] at h33; exact h33)
  have hdm := nd_ok (by omega) hpl
  obtain ⟨v, hv⟩ : ∃ v, g.Values[((i : Int) / (a.Accept.length : Int)).toNat]? = some v := ⟨_, List.getElem?_eq_getElem (by omega)⟩
  have hnx := nxN_steps g a i
  have hS : (stepsOf g a ((i : Int) / (a.Accept.length : Int)) ((i : Int) % (a.Accept.length : Int))).length = (nxN g a i).length := by rw [hnx, List.length_map]
  have hni := hnk i hpl
  have hSl := nxN_len a hg i
  have hgi := atI_get (out := ranksOf g a x) (k := (i : Int)) (by rw [hRK.1]; omega)
  have hvi := hRK.2 _ (List.mem_of_getElem? hgi)
  have hsi := hsa i (by omega)
  refine AW.skip ?_
  refine AW.seq ?_
  refine AW.block ?_
  refine AW.seq ?_
  refine AW.drawn 10 (nthB [[], [], [], [], [2, 3], [], [], [5, 6], [0, 1, 2, 3, 4, 5, 6, 7], [0, 1, 2, 3, 4, 5, 6, 7, 8]]) (by kernel_rfl) (by kernel_rfl) (by kernel_rfl) ?_
  refine DrawC.step rfl rfl rfl (Loc.of rfl fun σ' hs => (by exact R_load rfl (.no rfl) (hd_sup hs rfl) (.tm (hs.slots _ _ rfl)) ty43 rfl rfl)) ?_
  refine DrawC.step rfl rfl rfl (Loc.of rfl fun σ' hs => (by exact R_load rfl (.no rfl) (hd_sup hs rfl) (.tm (hs.slots _ _ rfl)) ty36 rfl rfl)) ?_
  refine DrawC.step rfl rfl rfl (Loc.of rfl fun σ' hs => R_move rfl (.no rfl) (hd_sup hs rfl) (.tm (hs.slots _ _ rfl))) ?_
  refine DrawC.step rfl rfl rfl (Loc.of rfl fun σ' hs => R_move rfl (.no rfl) (hd_sup hs rfl) (.tm (hs.slots _ _ rfl))) ?_
  refine DrawC.step rfl rfl rfl (Loc.of rfl fun σ' hs => R_quo rfl (.no rfl) (hd_sup hs rfl) (.tm (hs.slots _ _ rfl)) (.tm (hs.slots _ _ rfl)) (fun _ => by omega)) ?_
  refine DrawC.step rfl rfl rfl (Loc.of rfl fun σ' hs => R_move rfl (.no rfl) (hd_sup hs rfl) (.tm (hs.slots _ _ rfl))) ?_
  refine DrawC.step rfl rfl rfl (Loc.of rfl fun σ' hs => R_move rfl (.no rfl) (hd_sup hs rfl) (.tm (hs.slots _ _ rfl))) ?_
  refine DrawC.step rfl rfl rfl (Loc.of rfl fun σ' hs => R_rem rfl (.no rfl) (hd_sup hs rfl) (.tm (hs.slots _ _ rfl)) (.tm (hs.slots _ _ rfl)) (fun _ => by omega)) ?_
  refine DrawC.step rfl rfl rfl (Loc.of rfl fun σ' hs => R_callz (FnT.fr (specl14Steps g a ha hg ((i : Int) / (a.Accept.length : Int)) ((i : Int) % (a.Accept.length : Int)) v (by omega) hv (by omega))) rfl (.no rfl) (hd_sup hs rfl) (.cons (.tm (hs.slots _ _ rfl)) (readA_sup hs rfl) (.cons (.tm (hs.slots _ _ rfl)) (readA_sup hs rfl) (.cons (.tm (hs.slots _ _ rfl)) (readA_sup hs rfl) (.cons (.tm (hs.slots _ _ rfl)) (readA_sup hs rfl) .nil))))) ?_
  refine DrawC.step rfl rfl rfl (Loc.of rfl fun σ' hs => R_assign rfl (.no rfl) (hd_sup hs rfl) (.tm (hs.slots _ _ rfl))) ?_
  refine DrawC.fin rfl rfl ?_
  refine AWl.nil ?_
  refine AW.seq ?_
  refine AW.le (σ' := ⟨_, [(3, _), (4, _), (6, _), (7, _), (8, _), (9, _), (10, _)], [(6, _), (8, _), (1700, _), (1701, _), (2200, _), (27, _)]⟩) (Le.sub0 rfl ⟨rfl, rfl, rfl, rfl, rfl, rfl, rfl, trivial⟩ ⟨rfl, rfl, rfl, rfl, rfl, rfl, trivial⟩) ?_
  refine AW.region ?_
  refine AWl.ac rfl rfl rfl rfl rfl ?_
  refine AWl.nil ?_
  refine AW.block ?_
  refine AW.loop1 (fun (k : Nat) => (k ≤ (nxN g a i).length) ∧ True) (fun (k : Nat) => ⟨_, [(11, (true, .a (.one (.t (.v (.int .i64 (k : Nat))))))), (3, _), (4, _), (6, _), (7, _), (8, _), (9, _), (10, _)], [(6, .box [.t (.v (.int .i64 0)), .t (.v (.slice none 0 0)), .t (.v (.slice none 0 0)), .t (.v (.int .i64 0)), .t (.v (.slice none 0 0)), .t (.v (.slice none 0 0))]), (8, .box [.t (.v (.int .i64 a.Start)), .rf 1700, .rf 1701, .t (.v (.int .i64 x)), .rf 2200, .rf 27]), (1700, .row 1 (a.Accept.map cBool)), (1701, .row 1 (a.Next.map cIntS)), (2200, .row 1 ((ranksOf g a x).map cInt)), (27, .row 1 ((supRow (ranksOf g a x) i (supAll (nxN g a) (ranksOf g a x) (List.replicate (a.Accept.length * g.Values.length) 0) i) ((nxN g a i).take k)).map cInt))]⟩) (fun (k : Nat) => (nxN g a i).length - k) (0) ⟨Nat.zero_le _, trivial⟩ (Le.sub0 rfl ⟨rfl, rfl, rfl, rfl, rfl, rfl, rfl, rfl, trivial⟩ ⟨rfl, rfl, rfl, rfl, rfl, (by refine congrArg (fun r => some (R.row 1 r)) ?_; first | rfl | (simp only [Int.toNat_natCast, List.length_map, hRK.1, supAll, List.map_replicate]; rfl)), trivial⟩) ?_
  rintro k ⟨hk1, he1⟩
  refine AW.seq ?_
  refine AW.sr ?_
  refine AWl.mv rfl rfl rfl rfl rfl ?_
  refine AWl.mv rfl rfl rfl rfl rfl ?_
  refine AWl.put (by exact R_lenm rfl (.no rfl) rfl (.tm rfl) (by exact .t) Tryz.underlying144) rfl ?_
  refine AWl.put (R_lt rfl (.no rfl) rfl (.tm rfl) (.tm rfl)) rfl ?_
  refine AWl.mv rfl rfl rfl rfl rfl ?_
  refine AWl.put (by exact R_fieldAddr_pp rfl (by exact .yes1 rfl rfl rfl rfl) rfl (.tmp rfl (by exact fun _ => rfl)) fl38_2) rfl ?_
  refine AWl.put (by exact R_load_pp rfl (by exact .yes1 rfl rfl rfl rfl) rfl (.tmp rfl (by exact id)) rfl ty22 rfl rfl) rfl ?_
  refine AWl.put (R_move rfl (by exact .yes1 rfl rfl rfl rfl) rfl (.tmp rfl (by exact fun _ => rfl))) rfl ?_
  refine AWl.put (by exact R_indexAddr_rf rfl (by exact .yes1 rfl rfl rfl rfl) rfl (.tmp rfl (by exact id)) rfl (.tmp rfl (by exact id)) Tryz.underlying22 ty3 (fun hq => by (try simp at hq); exact ⟨by omega, (by exact map_get hgi)⟩)) rfl ?_
  refine AWl.put (by exact R_load_pr rfl (by exact .yes1 rfl rfl rfl rfl) rfl (.tmp rfl (by exact id)) rfl (by exact map_get hgi) ty3 rfl rfl) rfl ?_
  refine AWl.put (R_ge rfl (by exact .yes1 rfl rfl rfl rfl) rfl (.tmp rfl (by exact id)) (.const rfl)) rfl ?_
  refine AWl.put (R_and rfl (.no rfl) rfl (.tm rfl) (.tmp rfl (by exact id))) rfl ?_
  refine AWl.nil ?_
  refine AW.cond (.tm rfl) (fun h56 => ?_) (fun h56 => ?_)
  ·skip
   try simp at h56
   obtain ⟨z, hz⟩ : ∃ ξ, (stepsOf g a ((i : Int) / (a.Accept.length : Int)) ((i : Int) % (a.Accept.length : Int)))[k]? = some ξ := ⟨_, List.getElem?_eq_getElem (by omega)⟩
   have hzk : (nxN g a i)[k]? = some (z.Node * (a.Accept.length : Int) + z.State) := by rw [hnx, List.getElem?_map, hz]; rfl
   have hzo := steps_ok ha hg hv (by omega) z (List.mem_of_getElem? hz)
   have hkk := hni _ (List.mem_of_getElem? hzk)
   have hzm : 0 ≤ z.Node * (a.Accept.length : Int) := Int.mul_nonneg hzo.1 (by omega)
   have hsr := SupI.row (R := ranksOf g a x) (i := i) (l := (nxN g a i).take k) hsi (fun q hq => hni q (List.mem_of_mem_take hq))
   have htl : ((nxN g a i).take k).length ≤ 1536 := by (rw [List.length_take]; omega)
   have hgk := atI_get (out := ranksOf g a x) (k := z.Node * (a.Accept.length : Int) + z.State) (by rw [hRK.1]; omega)
   have hvk := hRK.2 _ (List.mem_of_getElem? hgk)
   have hgS := atI_get (out := supRow (ranksOf g a x) i (supAll (nxN g a) (ranksOf g a x) (List.replicate (a.Accept.length * g.Values.length) 0) i) ((nxN g a i).take k)) (k := z.Node * (a.Accept.length : Int) + z.State) (by rw [hsr.len]; omega)
   have hvS := hsr.val _ (List.mem_of_getElem? hgS)
   refine AW.skip ?_
   refine AW.seq ?_
   refine AW.block ?_
   refine AW.seq ?_
   refine AW.le (σ' := ⟨_, [(3, _), (4, _), (6, _), (7, _), (8, _), (9, _), (10, _), (11, _)], [(6, _), (8, _), (1700, _), (1701, _), (2200, _), (27, _)]⟩) (Le.sub0 rfl ⟨rfl, rfl, rfl, rfl, rfl, rfl, rfl, rfl, trivial⟩ ⟨rfl, rfl, rfl, rfl, rfl, rfl, trivial⟩) ?_
   refine AW.drawn 14 (nthB [[], [], [0, 1], [0, 1, 2], [0, 1, 2, 3], [], [0, 1, 2, 3, 4, 5], [], [], [7, 8], [7, 8, 9], [7, 8, 9, 10], [0, 1, 2, 3, 4, 5, 6, 7, 8, 9, 10, 11], [0, 1, 2, 3, 4, 5, 6, 7, 8, 9, 10, 11, 12]]) (by kernel_rfl) (by kernel_rfl) (by kernel_rfl) ?_
   refine DrawC.step rfl rfl rfl (Loc.of rfl fun σ' hs => R_move rfl (.no rfl) (hd_sup hs rfl) (.tm (hs.slots _ _ rfl))) ?_
   refine DrawC.step rfl rfl rfl (Loc.of rfl fun σ' hs => R_move rfl (.no rfl) (hd_sup hs rfl) (.tm (hs.slots _ _ rfl))) ?_
   refine DrawC.step rfl rfl rfl (Loc.of rfl fun σ' hs => (by exact R_indexAddr rfl (.no rfl) (hd_sup hs rfl) (.tm (hs.slots _ _ rfl)) (.tm (hs.slots _ _ rfl)) Tryz.underlying144 ty149 (fun _ => ⟨by omega, (by exact map_get hz)⟩))) ?_
   refine DrawC.step rfl rfl rfl (Loc.of rfl fun σ' hs => (by exact R_fieldAddr rfl (.no rfl) (hd_sup hs rfl) (.tm (hs.slots _ _ rfl)) fl149_1)) ?_
   refine DrawC.step rfl rfl rfl (Loc.of rfl fun σ' hs => (by exact R_load rfl (.no rfl) (hd_sup hs rfl) (.tm (hs.slots _ _ rfl)) ty3 rfl rfl)) ?_
   refine DrawC.step rfl rfl rfl (Loc.of rfl fun σ' hs => R_move rfl (.no rfl) (hd_sup hs rfl) (.tm (hs.slots _ _ rfl))) ?_
   refine DrawC.step rfl rfl rfl (Loc.of rfl fun σ' hs => R_mul rfl (.no rfl) (hd_sup hs rfl) (.tm (hs.slots _ _ rfl)) (.tm (hs.slots _ _ rfl)) (fun _ => by omega)) ?_
   refine DrawC.step rfl rfl rfl (Loc.of rfl fun σ' hs => R_move rfl (.no rfl) (hd_sup hs rfl) (.tm (hs.slots _ _ rfl))) ?_
   refine DrawC.step rfl rfl rfl (Loc.of rfl fun σ' hs => R_move rfl (.no rfl) (hd_sup hs rfl) (.tm (hs.slots _ _ rfl))) ?_
   refine DrawC.step rfl rfl rfl (Loc.of rfl fun σ' hs => (by exact R_indexAddr rfl (.no rfl) (hd_sup hs rfl) (.tm (hs.slots _ _ rfl)) (.tm (hs.slots _ _ rfl)) Tryz.underlying144 ty149 (fun _ => ⟨by omega, (by exact map_get hz)⟩))) ?_
   refine DrawC.step rfl rfl rfl (Loc.of rfl fun σ' hs => (by exact R_fieldAddr rfl (.no rfl) (hd_sup hs rfl) (.tm (hs.slots _ _ rfl)) fl149_2)) ?_
   refine DrawC.step rfl rfl rfl (Loc.of rfl fun σ' hs => (by exact R_load rfl (.no rfl) (hd_sup hs rfl) (.tm (hs.slots _ _ rfl)) ty3 rfl rfl)) ?_
   refine DrawC.step rfl rfl rfl (Loc.of rfl fun σ' hs => R_add rfl (.no rfl) (hd_sup hs rfl) (.tm (hs.slots _ _ rfl)) (.tm (hs.slots _ _ rfl)) (fun _ => by omega)) ?_
   refine DrawC.step rfl rfl rfl (Loc.of rfl fun σ' hs => R_assign rfl (.no rfl) (hd_sup hs rfl) (.tm (hs.slots _ _ rfl))) ?_
   refine DrawC.fin rfl rfl ?_
   refine AWl.nil ?_
   refine AW.seq ?_
   refine AW.le (σ' := ⟨_, [(3, _), (4, _), (6, _), (7, _), (8, _), (9, _), (10, _), (11, _), (12, _)], [(6, _), (8, _), (1700, _), (1701, _), (2200, _), (27, _)]⟩) (Le.sub0 rfl ⟨rfl, rfl, rfl, rfl, rfl, rfl, rfl, rfl, rfl, trivial⟩ ⟨rfl, rfl, rfl, rfl, rfl, rfl, trivial⟩) ?_
   refine AW.drawn 12 (nthB [[], [0], [], [0, 1, 2], [0, 1, 2, 3], [], [5], [], [5, 6, 7], [5, 6, 7, 8], [5, 6, 7, 8, 9], [0, 1, 2, 3, 4, 5, 6, 7, 8, 9, 10]]) (by kernel_rfl) (by kernel_rfl) (by kernel_rfl) ?_
   refine DrawC.step rfl rfl rfl (Loc.of rfl fun σ' hs => (by exact R_fieldAddr_pp rfl (.no rfl) (hd_sup hs rfl) (.tm (hs.slots _ _ rfl)) fl38_2)) ?_
   refine DrawC.step rfl rfl rfl (Loc.of rfl fun σ' hs => (by exact R_load_pp rfl (.no rfl) (hd_sup hs rfl) (.tm (hs.slots _ _ rfl)) (hs.res _ _ rfl) ty22 rfl rfl)) ?_
   refine DrawC.step rfl rfl rfl (Loc.of rfl fun σ' hs => R_move rfl (.no rfl) (hd_sup hs rfl) (.tm (hs.slots _ _ rfl))) ?_
   refine DrawC.step rfl rfl rfl (Loc.of rfl fun σ' hs => (by exact R_indexAddr_rf rfl (.no rfl) (hd_sup hs rfl) (.tm (hs.slots _ _ rfl)) (hs.res _ _ rfl) (.tm (hs.slots _ _ rfl)) Tryz.underlying22 ty3 (fun _ => ⟨by omega, (by exact map_get hgk)⟩))) ?_
   refine DrawC.step rfl rfl rfl (Loc.of rfl fun σ' hs => (by exact R_load_pr rfl (.no rfl) (hd_sup hs rfl) (.tm (hs.slots _ _ rfl)) (hs.res _ _ rfl) (by exact map_get hgk) ty3 rfl rfl)) ?_
   refine DrawC.step rfl rfl rfl (Loc.of rfl fun σ' hs => (by exact R_fieldAddr_pp rfl (.no rfl) (hd_sup hs rfl) (.tm (hs.slots _ _ rfl)) fl38_2)) ?_
   refine DrawC.step rfl rfl rfl (Loc.of rfl fun σ' hs => (by exact R_load_pp rfl (.no rfl) (hd_sup hs rfl) (.tm (hs.slots _ _ rfl)) (hs.res _ _ rfl) ty22 rfl rfl)) ?_
   refine DrawC.step rfl rfl rfl (Loc.of rfl fun σ' hs => R_move rfl (.no rfl) (hd_sup hs rfl) (.tm (hs.slots _ _ rfl))) ?_
   refine DrawC.step rfl rfl rfl (Loc.of rfl fun σ' hs => (by exact R_indexAddr_rf rfl (.no rfl) (hd_sup hs rfl) (.tm (hs.slots _ _ rfl)) (hs.res _ _ rfl) (.tm (hs.slots _ _ rfl)) Tryz.underlying22 ty3 (fun _ => ⟨by omega, (by exact map_get hgi)⟩))) ?_
   refine DrawC.step rfl rfl rfl (Loc.of rfl fun σ' hs => (by exact R_load_pr rfl (.no rfl) (hd_sup hs rfl) (.tm (hs.slots _ _ rfl)) (hs.res _ _ rfl) (by exact map_get hgi) ty3 rfl rfl)) ?_
   refine DrawC.step rfl rfl rfl (Loc.of rfl fun σ' hs => R_add rfl (.no rfl) (hd_sup hs rfl) (.tm (hs.slots _ _ rfl)) (.const rfl) (fun _ => by omega)) ?_
   refine DrawC.step rfl rfl rfl (Loc.of rfl fun σ' hs => R_eq rfl (.no rfl) (hd_sup hs rfl) (.tm (hs.slots _ _ rfl)) (.tm (hs.slots _ _ rfl))) ?_
   refine DrawC.fin rfl rfl ?_
   refine AWl.nil ?_
   refine AW.cond (.tm rfl) (fun h83 => ?_) (fun h83 => ?_)
   ·skip
    try simp at h83
    refine AW.le (σ' := ⟨_, [(3, _), (4, _), (6, _), (7, _), (8, _), (9, _), (10, _), (11, _), (12, _)], [(6, _), (8, _), (1700, _), (1701, _), (2200, _), (27, _)]⟩) (Le.sub0 rfl ⟨rfl, rfl, rfl, rfl, rfl, rfl, rfl, rfl, rfl, trivial⟩ ⟨rfl, rfl, rfl, rfl, rfl, rfl, trivial⟩) ?_
    refine AW.drawn 10 (nthB [[], [0], [], [], [3], [], [3, 4, 5], [3, 4, 5, 6], [3, 4, 5, 6, 7], [0, 1, 2, 3, 4, 5, 6, 7, 8]]) (by kernel_rfl) (by kernel_rfl) (by kernel_rfl) ?_
    refine DrawC.step rfl rfl rfl (Loc.of rfl fun σ' hs => (by exact R_fieldAddr_pp rfl (.no rfl) (hd_sup hs rfl) (.tm (hs.slots _ _ rfl)) fl38_3)) ?_
    refine DrawC.step rfl rfl rfl (Loc.of rfl fun σ' hs => (by exact R_load_pp rfl (.no rfl) (hd_sup hs rfl) (.tm (hs.slots _ _ rfl)) (hs.res _ _ rfl) ty22 rfl rfl)) ?_
    refine DrawC.step rfl rfl rfl (Loc.of rfl fun σ' hs => R_move rfl (.no rfl) (hd_sup hs rfl) (.tm (hs.slots _ _ rfl))) ?_
    refine DrawC.step rfl rfl rfl (Loc.of rfl fun σ' hs => (by exact R_fieldAddr_pp rfl (.no rfl) (hd_sup hs rfl) (.tm (hs.slots _ _ rfl)) fl38_3)) ?_
    refine DrawC.step rfl rfl rfl (Loc.of rfl fun σ' hs => (by exact R_load_pp rfl (.no rfl) (hd_sup hs rfl) (.tm (hs.slots _ _ rfl)) (hs.res _ _ rfl) ty22 rfl rfl)) ?_
    refine DrawC.step rfl rfl rfl (Loc.of rfl fun σ' hs => R_move rfl (.no rfl) (hd_sup hs rfl) (.tm (hs.slots _ _ rfl))) ?_
    refine DrawC.step rfl rfl rfl (Loc.of rfl fun σ' hs => (by exact R_indexAddr_rf rfl (.no rfl) (hd_sup hs rfl) (.tm (hs.slots _ _ rfl)) (hs.res _ _ rfl) (.tm (hs.slots _ _ rfl)) Tryz.underlying22 ty3 (fun _ => ⟨by omega, (by exact map_get hgS)⟩))) ?_
    refine DrawC.step rfl rfl rfl (Loc.of rfl fun σ' hs => (by exact R_load_pr rfl (.no rfl) (hd_sup hs rfl) (.tm (hs.slots _ _ rfl)) (hs.res _ _ rfl) (by exact map_get hgS) ty3 rfl rfl)) ?_
    refine DrawC.step rfl rfl rfl (Loc.of rfl fun σ' hs => R_add rfl (.no rfl) (hd_sup hs rfl) (.tm (hs.slots _ _ rfl)) (.const rfl) (fun _ => by omega)) ?_
    refine DrawC.step rfl rfl rfl (Loc.of rfl fun σ' hs => (by exact R_indexAddr_rf rfl (.no rfl) (hd_sup hs rfl) (.tm (hs.slots _ _ rfl)) (hs.res _ _ rfl) (.tm (hs.slots _ _ rfl)) Tryz.underlying22 ty3 (fun _ => ⟨by omega, (by exact map_get hgS)⟩))) ?_
    refine DrawC.fin rfl rfl ?_
    refine AWl.absupd (R_store_pr rfl rfl rfl (.tm rfl) rfl (.tm rfl) rfl (by exact map_get hgS) ty3 rfl rfl rfl rfl) ?_
    refine AWl.nil ?_
    refine AW.le (σ' := ⟨_, [(3, _), (4, _), (6, _), (7, _), (8, _), (9, _), (10, _), (11, _), (12, _)], [(6, _), (8, _), (1700, _), (1701, _), (2200, _), (27, _)]⟩) (Le.sub0 rfl ⟨rfl, rfl, rfl, rfl, rfl, rfl, rfl, rfl, rfl, trivial⟩ ⟨rfl, rfl, rfl, rfl, rfl, rfl, trivial⟩) ?_
    refine AW.region ?_
    refine AWl.mv rfl rfl rfl rfl rfl ?_
    refine AWl.put (R_add rfl (.no rfl) rfl (.tm rfl) (.const rfl) (fun _ => by omega)) rfl ?_
    refine AWl.av rfl rfl rfl rfl rfl ?_
    refine AWl.nil ?_
    repeat (with_reducible refine BlockQ.nor ?_)
    refine Round1.next (k + 1) ⟨by omega, trivial⟩ (by omega) (Le.sub0 rfl ⟨rfl, rfl, rfl, rfl, rfl, rfl, rfl, rfl, trivial⟩ ⟨(by rfl), (by rfl), (by rfl), (by rfl), (by rfl), (by refine congrArg (fun r => some (R.row 1 r)) ?_; first | (rw [supRow_at hzk]; unfold sup1; rw [if_pos ⟨by omega, h83⟩]; simp [List.map_set, cInt]; done) | (rw [supRow_at hzk]; unfold sup1; rw [if_neg (fun h => h83 h.2)]; done) | (rw [supRow_full (by omega)]; rfl)), trivial⟩)
   ·skip
    try simp at h83
    refine AW.skip ?_
    refine AW.le (σ' := ⟨_, [(3, _), (4, _), (6, _), (7, _), (8, _), (9, _), (10, _), (11, _), (12, _)], [(6, _), (8, _), (1700, _), (1701, _), (2200, _), (27, _)]⟩) (Le.sub0 rfl ⟨rfl, rfl, rfl, rfl, rfl, rfl, rfl, rfl, rfl, trivial⟩ ⟨rfl, rfl, rfl, rfl, rfl, rfl, trivial⟩) ?_
    refine AW.region ?_
    refine AWl.mv rfl rfl rfl rfl rfl ?_
    refine AWl.put (R_add rfl (.no rfl) rfl (.tm rfl) (.const rfl) (fun _ => by omega)) rfl ?_
    refine AWl.av rfl rfl rfl rfl rfl ?_
    refine AWl.nil ?_
    repeat (with_reducible refine BlockQ.nor ?_)
    refine Round1.next (k + 1) ⟨by omega, trivial⟩ (by omega) (Le.sub0 rfl ⟨rfl, rfl, rfl, rfl, rfl, rfl, rfl, rfl, trivial⟩ ⟨(by rfl), (by rfl), (by rfl), (by rfl), (by rfl), (by refine congrArg (fun r => some (R.row 1 r)) ?_; first | (rw [supRow_at hzk]; unfold sup1; rw [if_pos ⟨by omega, h83⟩]; simp [List.map_set, cInt]; done) | (rw [supRow_at hzk]; unfold sup1; rw [if_neg (fun h => h83 h.2)]; done) | (rw [supRow_full (by omega)]; rfl)), trivial⟩)
  ·skip
   try simp at h56
   refine AW.exit ?_
   refine AW.le (σ' := ⟨_, [(3, _), (4, _), (6, _), (7, _), (8, _), (9, _), (10, _), (11, _)], [(6, _), (8, _), (1700, _), (1701, _), (2200, _), (27, _)]⟩) (Le.sub0 rfl ⟨rfl, rfl, rfl, rfl, rfl, rfl, rfl, rfl, trivial⟩ ⟨rfl, rfl, rfl, rfl, rfl, rfl, trivial⟩) ?_
   refine AW.region ?_
   refine AWl.mv rfl rfl rfl rfl rfl ?_
   refine AWl.put (R_add rfl (.no rfl) rfl (.tm rfl) (.const rfl) (fun _ => by omega)) rfl ?_
   refine AWl.av rfl rfl rfl rfl rfl ?_
   refine AWl.nil ?_
   repeat (with_reducible refine BlockQ.nor ?_)
   refine Round1.next (i + 1) ⟨by omega, trivial⟩ (by omega) (Le.sub0 rfl ⟨rfl, rfl, rfl, rfl, rfl, rfl, trivial⟩ ⟨(by rfl), (by rfl), (by rfl), (by rfl), (by rfl), (by refine congrArg (fun r => some (R.row 1 r)) ?_; first | (rw [supRow_at hzk]; unfold sup1; rw [if_pos ⟨by omega, h83⟩]; simp [List.map_set, cInt]; done) | (rw [supRow_at hzk]; unfold sup1; rw [if_neg (fun h => h83 h.2)]; done) | (rw [supRow_full (by omega)]; rfl)), trivial⟩)
 ·skip
  try simp at h33
  refine AW.exit ?_
  refine AW.sr ?_
  refine AWl.put (by exact R_load_pp rfl (.no rfl) rfl (.tm rfl) rfl ty38 rfl rfl) rfl ?_
  refine AWl.chgb (R_store_pb rfl rfl rfl (.tm rfl) (.tm rfl) rfl ty38 rfl rfl rfl (by kernel_rfl) rfl) ?_
  refine AWl.nil ?_
  refine AW.ret ?_
  refine Res.one rfl (.cell rfl rfl ty38 rfl rfl .nil) rfl ?_
  rw [show i = a.Accept.length * g.Values.length by omega]; rfl
theorem specBuildView (g : TGraph) (a : TAutomaton) (x : Int) : FnT Tryz.prog 98 [.agg (cGraph g), .agg (cAutomaton a), .one (.v (.int .i64 x))] (.tup [.agg (cView (buildV g a x).1), .one (.v (.bool (buildV g a x).2))]) := by
 refine FnT.walk Tryz.func98 rfl (by kernel_rfl) Tryz.ntmps98 rfl fun hlen w0 => ?_
 try simp [cEdge, cGraph, cStep, cChange, cBatch, cAutomaton, cProductStep, cView] at hlen
 skip
 refine AW.sr ?_
 refine AWl.put (R_boxz rfl rfl rfl (.tm rfl) (ts := _) (by rfl)) rfl ?_
 refine AWl.put (R_boxz rfl rfl rfl (.tm rfl) (ts := _) (by rfl)) rfl ?_
 refine AWl.add (R_alloc 6 rfl rfl rfl in38 rfl rfl rfl) rfl ?_
 refine AWl.ac rfl rfl rfl rfl rfl ?_
 refine AWl.nil ?_
 refine AW.seq ?_
 refine AW.sr ?_
 refine AWl.put (by exact R_load rfl (.no rfl) rfl (.tm rfl) ty43 rfl rfl) rfl ?_
 refine AWl.put (by exact R_load rfl (.no rfl) rfl (.tm rfl) ty36 rfl rfl) rfl ?_
 refine AWl.mv rfl rfl rfl rfl rfl ?_
 refine AWl.put (R_callz (FnT.fr (specl14Good g a x 0)) rfl (.no rfl) rfl (.cons (.tm rfl) rfl (.cons (.tm rfl) rfl (.cons (.tm rfl) rfl (.cons (.const rfl) rfl .nil))))) rfl ?_
 refine AWl.put (R_not rfl (.no rfl) rfl (.tm rfl)) rfl ?_
 refine AWl.nil ?_
 refine AW.cond (.tm rfl) (fun h12 => ?_) (fun h12 => ?_)
 ·skip
  try simp at h12
  refine AW.sr ?_
  refine AWl.put (R_build (ps := []) rfl rfl rfl in38 rfl rfl st38 .nil rfl) rfl ?_
  refine AWl.nilA (i := 13) 20001 1 1 rfl rfl rfl ?_
  refine AWl.nilA (i := 13) 20002 1 2 rfl rfl rfl ?_
  refine AWl.nilA (i := 13) 20003 1 4 rfl rfl rfl ?_
  refine AWl.nilA (i := 13) 20004 1 5 rfl rfl rfl ?_
  refine AWl.chgb (R_store_pb rfl rfl rfl (.tm rfl) (.tm rfl) rfl ty38 rfl rfl rfl (by kernel_rfl) rfl) ?_
  refine AWl.le (σ' := ⟨_, [(0, _), (1, _), (2, _), (3, _), (4, _), (6, _), (7, _), (12, _)], [(6, _), (20001, _), (20002, _), (20003, _), (20004, _)]⟩) (Le.sub0 rfl ⟨rfl, rfl, rfl, rfl, rfl, rfl, rfl, rfl, trivial⟩ ⟨rfl, rfl, rfl, rfl, rfl, trivial⟩) ?_
  refine AWl.ac rfl rfl rfl rfl rfl ?_
  refine AWl.nil ?_
  refine AW.ret ?_
  refine Res.many rfl (.cell rfl rfl ty38 rfl rfl (.tmp rfl .nil)) rfl ?_ (by simp)
  unfold buildV; rw [if_neg (by simpa using h12)]; rfl
 ·skip
  try simp at h12
  obtain ⟨hg, ha, hx⟩ := good_parts (h12)
  refine AW.skip ?_
  refine AW.sr ?_
  refine AWl.put (by exact R_load rfl (.no rfl) rfl (.tm rfl) ty43 rfl rfl) rfl ?_
  refine AWl.put (by exact R_load rfl (.no rfl) rfl (.tm rfl) ty36 rfl rfl) rfl ?_
  refine AWl.mv rfl rfl rfl rfl rfl ?_
  refine AWl.adds (R_call 1700 (specl27Build g a ha hg x hx) rfl rfl rfl (.cons (.tm rfl) rfl (.cons (.tm rfl) rfl (.cons (.tm rfl) rfl .nil))) rfl rfl) rfl ?_
  refine AWl.chgb (R_store_pb rfl rfl rfl (.tm rfl) (.tm rfl) rfl ty38 rfl rfl rfl (by kernel_rfl) rfl) ?_
  refine AWl.le (σ' := ⟨_, [(0, _), (1, _), (2, _), (3, _), (4, _), (6, _), (7, _), (12, _)], [(6, _), (1700, _), (1701, _), (1702, _), (1703, _)]⟩) (Le.sub0 rfl ⟨rfl, rfl, rfl, rfl, rfl, rfl, rfl, rfl, trivial⟩ ⟨rfl, rfl, rfl, rfl, rfl, trivial⟩) ?_
  refine AWl.ac rfl rfl rfl rfl rfl ?_
  refine AWl.nil ?_
  refine AW.ret ?_
  refine Res.many rfl (.cell rfl rfl ty38 rfl rfl (.tmp rfl .nil)) rfl ?_ (by simp)
  unfold buildV; rw [if_pos (by simpa using h12)]; rfl
theorem implBuildView_bad (g : TGraph) (a : TAutomaton) (x : Int) (hb : goodB g a x 0 = false) : FnT Tryz.prog 111 [.agg (cGraph g), .agg (cAutomaton a), .one (.v (.int .i64 x))] (.tup [.agg (cView (buildV g a x).1), .one (.v (.bool (buildV g a x).2))]) := by
 refine FnT.walk Tryz.func111 rfl (by kernel_rfl) Tryz.ntmps111 rfl fun hlen w0 => ?_
 try simp [cEdge, cGraph, cStep, cChange, cBatch, cAutomaton, cProductStep, cView] at hlen
 skip
 refine AW.sr ?_
 refine AWl.put (R_boxz rfl rfl rfl (.tm rfl) (ts := _) (by rfl)) rfl ?_
 refine AWl.put (R_boxz rfl rfl rfl (.tm rfl) (ts := _) (by rfl)) rfl ?_
 refine AWl.add (R_alloc 6 rfl rfl rfl in38 rfl rfl rfl) rfl ?_
 refine AWl.ac rfl rfl rfl rfl rfl ?_
 refine AWl.nil ?_
 refine AW.sr ?_
 refine AWl.put (by exact R_load rfl (.no rfl) rfl (.tm rfl) ty43 rfl rfl) rfl ?_
 refine AWl.put (by exact R_load rfl (.no rfl) rfl (.tm rfl) ty36 rfl rfl) rfl ?_
 refine AWl.mv rfl rfl rfl rfl rfl ?_
 refine AWl.put (R_callz (FnT.fr (implDistancesFrom_bad g a x (by rw [both_good]; exact hb))) rfl (.no rfl) rfl (.cons (.tm rfl) rfl (.cons (.tm rfl) rfl (.cons (.tm rfl) rfl .nil)))) rfl ?_
 refine AWl.av rfl rfl rfl rfl rfl ?_
 refine AWl.nil ?_
 refine AW.seq ?_
 refine AW.sr ?_
 refine AWl.mv rfl rfl rfl rfl rfl ?_
 refine AWl.put (by exact R_eqsl_nil rfl (.no rfl) rfl (.tm rfl) (.const rfl) Tryz.underlying22) rfl ?_
 refine AWl.nil ?_
 refine AW.cond (.tm rfl) (fun h19 => ?_) (fun h19 => ?_)
 ·skip
  try simp at h19
  refine AW.seq ?_
  refine AW.le (σ' := ⟨_, [(0, _), (1, _), (2, _), (3, _), (4, _), (6, _), (7, _), (8, _)], [(6, _)]⟩) (Le.sub0 rfl ⟨rfl, rfl, rfl, rfl, rfl, rfl, rfl, rfl, trivial⟩ ⟨rfl, trivial⟩) ?_
  refine AW.region ?_
  refine AWl.put (R_build (ps := []) rfl rfl rfl in38 rfl rfl st38 .nil rfl) rfl ?_
  refine AWl.nilA (i := 20) 20001 1 1 rfl rfl rfl ?_
  refine AWl.nilA (i := 20) 20002 1 2 rfl rfl rfl ?_
  refine AWl.nilA (i := 20) 20003 1 4 rfl rfl rfl ?_
  refine AWl.nilA (i := 20) 20004 1 5 rfl rfl rfl ?_
  refine AWl.chgb (R_store_pb rfl rfl rfl (.tm rfl) (.tm rfl) rfl ty38 rfl rfl rfl (by kernel_rfl) rfl) ?_
  refine AWl.le (σ' := ⟨_, [(0, _), (1, _), (2, _), (3, _), (4, _), (6, _), (7, _), (8, _)], [(6, _), (20001, _), (20002, _), (20003, _), (20004, _)]⟩) (Le.sub0 rfl ⟨rfl, rfl, rfl, rfl, rfl, rfl, rfl, rfl, trivial⟩ ⟨rfl, rfl, rfl, rfl, rfl, trivial⟩) ?_
  refine AWl.ac rfl rfl rfl rfl rfl ?_
  refine AWl.nil ?_
  refine AW.ret ?_
  refine Res.many rfl (.cell rfl rfl ty38 rfl rfl (.tmp rfl .nil)) rfl ?_ (by simp)
  unfold buildV; rw [if_neg (by simp [hb])]; rfl
 ·exact absurd h19 (by simp)
theorem implBuildView_ok (g : TGraph) (a : TAutomaton) (ha : validA a = true) (hg : validG g = true) (x : Int) (hx : 0 ≤ x ∧ x < g.Values.length) (hb : goodB g a x 0 = true) : FnT Tryz.prog 111 [.agg (cGraph g), .agg (cAutomaton a), .one (.v (.int .i64 x))] (.tup [.agg (cView (buildV g a x).1), .one (.v (.bool (buildV g a x).2))]) := by
 refine FnT.walk Tryz.func111 rfl (by kernel_rfl) Tryz.ntmps111 rfl fun hlen w0 => ?_
 try simp [cEdge, cGraph, cStep, cChange, cBatch, cAutomaton, cProductStep, cView] at hlen
 have hA := validA_len ha
 have hG := validG_len hg
 have hN := prod_le ha hg
 have hRK := ranks_ok ha hg hx
 have hnl := nextsV_len g a
 have hnk := fun p (hp : p < a.Accept.length * g.Values.length) => nxN_ok ha hg hp
 have hsa := fun n (hn : n ≤ a.Accept.length * g.Values.length) => SupI.all (R := ranksOf g a x) (c := 1536) hnk (fun p _ => nxN_len a hg p) hn
 refine AW.sr ?_
 refine AWl.put (R_boxz rfl rfl rfl (.tm rfl) (ts := _) (by rfl)) rfl ?_
 refine AWl.put (R_boxz rfl rfl rfl (.tm rfl) (ts := _) (by rfl)) rfl ?_
 refine AWl.add (R_alloc 6 rfl rfl rfl in38 rfl rfl rfl) rfl ?_
 refine AWl.ac rfl rfl rfl rfl rfl ?_
 refine AWl.nil ?_
 refine AW.sr ?_
 refine AWl.put (by exact R_load rfl (.no rfl) rfl (.tm rfl) ty43 rfl rfl) rfl ?_
 refine AWl.put (by exact R_load rfl (.no rfl) rfl (.tm rfl) ty36 rfl rfl) rfl ?_
 refine AWl.mv rfl rfl rfl rfl rfl ?_
 refine AWl.adds (R_call 1700 (implDistancesFrom g a ha hg x hx) rfl rfl rfl (.cons (.tm rfl) rfl (.cons (.tm rfl) rfl (.cons (.tm rfl) rfl .nil))) rfl rfl) rfl ?_
 refine AWl.av rfl rfl rfl rfl rfl ?_
 refine AWl.nil ?_
 refine AW.seq ?_
 refine AW.sr ?_
 refine AWl.mv rfl rfl rfl rfl rfl ?_
 refine AWl.put (by exact R_eqsl_rf rfl (.no rfl) rfl (.tm rfl) rfl (.const rfl) Tryz.underlying22 (by simp; omega)) rfl ?_
 refine AWl.nil ?_
 refine AW.cond (.tm rfl) (fun h19 => ?_) (fun h19 => ?_)
 ·exact absurd h19 (by simp)
 ·skip
  try simp at h19
  refine AW.skip ?_
  refine AW.seq ?_
  refine AW.le (σ' := ⟨_, [(0, _), (1, _), (2, _), (3, _), (4, _), (6, _), (7, _), (8, _)], [(6, _), (1700, _)]⟩) (Le.sub0 rfl ⟨rfl, rfl, rfl, rfl, rfl, rfl, rfl, rfl, trivial⟩ ⟨rfl, rfl, trivial⟩) ?_
  refine AW.drawn 9 (nthB [[], [0], [], [], [], [4], [4, 5], [0, 1, 2, 3, 4, 5, 6], []]) (by kernel_rfl) (by kernel_rfl) (by kernel_rfl) ?_
  refine DrawC.step rfl rfl rfl (Loc.of rfl fun σ' hs => (by exact R_load rfl (.no rfl) (hd_sup hs rfl) (.tm (hs.slots _ _ rfl)) ty36 rfl rfl)) ?_
  refine DrawC.step rfl rfl rfl (Loc.ofs rfl fun σ' hs hf => R_call 2200 (implcopyAutomaton a ha) rfl rfl (hd_sup hs rfl) (.cons (.tm (hs.slots _ _ rfl)) (readA_sup hs rfl) .nil) rfl (all_fresh hf)) ?_
  refine DrawC.step rfl rfl rfl (Loc.of rfl fun σ' hs => R_move rfl (.no rfl) (hd_sup hs rfl) (.tm (hs.slots _ _ rfl))) ?_
  refine DrawC.step rfl rfl rfl (Loc.of rfl fun σ' hs => R_move rfl (.no rfl) (hd_sup hs rfl) (.tm (hs.slots _ _ rfl))) ?_
  refine DrawC.step rfl rfl rfl (Loc.of rfl fun σ' hs => R_move rfl (.no rfl) (hd_sup hs rfl) (.tm (hs.slots _ _ rfl))) ?_
  refine DrawC.step rfl rfl rfl (Loc.of rfl fun σ' hs => (by exact R_lenm rfl (.no rfl) (hd_sup hs rfl) (.tm (hs.slots _ _ rfl)) (by exact .rf (hs.res _ _ rfl)) Tryz.underlying22)) ?_
  refine DrawC.step rfl rfl rfl (Loc.of1 rfl fun σ' hs hf => R_makeSlice 27 rfl rfl (hd_sup hs rfl) (.tm (hs.slots _ _ rfl)) Tryz.underlying22 in3 rfl rfl rfl hf (by omega)) ?_
  refine DrawC.step rfl rfl rfl (Loc.of rfl fun σ' hs => R_build (ps := [(0, .tmp 22), (1, .tmp 23), (2, .tmp 24), (3, .tmp 27)]) rfl rfl (hd_sup hs rfl) in38 rfl rfl st38 (.cons (.tm (hs.slots _ _ rfl)) rfl rfl fp38_0 (.cons (.tm (hs.slots _ _ rfl)) rfl rfl fp38_1 (.cons (.tm (hs.slots _ _ rfl)) rfl rfl fp38_2 (.cons (.tm (hs.slots _ _ rfl)) rfl rfl fp38_3 .nil)))) rfl) ?_
  refine DrawC.step rfl rfl rfl (Loc.of1 rfl fun σ' hs hf => R_alloc 9 rfl rfl (hd_sup hs rfl) in38 rfl rfl hf) ?_
  refine DrawC.fin rfl rfl ?_
  refine AWl.chgb (R_store_pb rfl rfl rfl (.tm rfl) (.tm rfl) rfl ty38 rfl rfl rfl (by kernel_rfl) rfl) ?_
  refine AWl.nil ?_
  refine AW.seq ?_
  refine AW.seq ?_
  refine AW.le (σ' := ⟨_, [(0, _), (1, _), (2, _), (3, _), (4, _), (6, _), (7, _), (8, _), (9, _)], [(6, _), (1700, _), (2200, _), (2201, _), (27, _), (9, _)]⟩) (Le.sub0 rfl ⟨rfl, rfl, rfl, rfl, rfl, rfl, rfl, rfl, rfl, trivial⟩ ⟨rfl, rfl, rfl, rfl, rfl, rfl, trivial⟩) ?_
  refine AW.region ?_
  refine AWl.put (by exact R_load rfl (.no rfl) rfl (.tm rfl) ty43 rfl rfl) rfl ?_
  refine AWl.put (by exact R_load rfl (.no rfl) rfl (.tm rfl) ty36 rfl rfl) rfl ?_
  refine AWl.put (R_callz (FnT.fr (implnextVertices g a ha hg)) rfl (.no rfl) rfl (.cons (.tm rfl) rfl (.cons (.tm rfl) rfl .nil))) rfl ?_
  refine AWl.put (by exact R_lenm rfl (.no rfl) rfl (.tm rfl) (by exact .t) Tryz.underlying27) rfl ?_
  refine AWl.put (R_move rfl (.no rfl) rfl (.const rfl)) rfl ?_
  refine AWl.nil ?_
  refine AW.block ?_
  refine AW.loop1 (fun (i : Nat) => (i ≤ a.Accept.length * g.Values.length) ∧ True) (fun (i : Nat) => ⟨_, [(33, (true, .a (.one (.t (.v (.int .i64 (i : Nat))))))), (6, _), (7, _), (8, _), (9, _), (31, _), (32, _)], [(6, .box [.t (.v (.int .i64 0)), .t (.v (.slice none 0 0)), .t (.v (.slice none 0 0)), .t (.v (.int .i64 0)), .t (.v (.slice none 0 0)), .t (.v (.slice none 0 0))]), (9, .box [.t (.v (.int .i64 a.Start)), .rf 2200, .rf 2201, .t (.v (.int .i64 x)), .rf 1700, .rf 27]), (2200, .row 1 (a.Accept.map cBool)), (2201, .row 1 (a.Next.map cIntS)), (1700, .row 1 ((ranksOf g a x).map cInt)), (27, .row 1 ((supAll (nxN g a) (ranksOf g a x) (List.replicate (a.Accept.length * g.Values.length) 0) i).map cInt))]⟩) (fun (i : Nat) => a.Accept.length * g.Values.length - i) (0) ⟨Nat.zero_le _, trivial⟩ (Le.sub0 rfl ⟨rfl, rfl, rfl, rfl, rfl, rfl, rfl, trivial⟩ ⟨rfl, rfl, rfl, rfl, rfl, (by refine congrArg (fun r => some (R.row 1 r)) ?_; first | rfl | (simp only [Int.toNat_natCast, List.length_map, hRK.1, supAll, List.map_replicate]; rfl)), trivial⟩) ?_
  rintro i ⟨hk, he⟩
  refine AW.sr ?_
  refine AWl.put (R_lt rfl (.no rfl) rfl (.tm rfl) (.tm rfl)) rfl ?_
  refine AWl.nil ?_
  refine AW.seq ?_
  refine AW.cond (.tm rfl) (fun h34 => ?_) (fun h34 => ?_)
  ·skip
   try simp at h34
   have hpl : i < a.Accept.length * g.Values.length := by (rw [hnl] at h34; exact h34)
   have hrow : (nextsV g a)[i]? = some (nxN g a i) := by (unfold nextsV; rw [List.getElem?_map, List.getElem?_range hpl]; rfl)
   have hni := hnk i hpl
   have hSl := nxN_len a hg i
   have hgi := atI_get (out := ranksOf g a x) (k := (i : Int)) (by rw [hRK.1]; omega)
   have hvi := hRK.2 _ (List.mem_of_getElem? hgi)
   have hsi := hsa i (by omega)
   refine AW.skip ?_
   refine AW.seq ?_
   refine AW.block ?_
   refine AW.sr ?_
   refine AWl.mv rfl rfl rfl rfl rfl ?_
   refine AWl.put (by exact R_indexAddr rfl (.no rfl) rfl (.tm rfl) (.tm rfl) Tryz.underlying27 ty22 (fun _ => ⟨by omega, (by exact map_get hrow)⟩)) rfl ?_
   refine AWl.put (by exact R_load rfl (.no rfl) rfl (.tm rfl) ty22 rfl rfl) rfl ?_
   refine AWl.av rfl rfl rfl rfl rfl ?_
   refine AWl.av rfl rfl rfl rfl rfl ?_
   refine AWl.nil ?_
   refine AW.sr ?_
   refine AWl.mv rfl rfl rfl rfl rfl ?_
   refine AWl.put (by exact R_lenm rfl (.no rfl) rfl (.tm rfl) (by exact .t) Tryz.underlying22) rfl ?_
   refine AWl.put (R_move rfl (.no rfl) rfl (.const rfl)) rfl ?_
   refine AWl.nil ?_
   refine AW.block ?_
   refine AW.loop1 (fun (k : Nat) => (k ≤ (nxN g a i).length) ∧ True) (fun (k : Nat) => ⟨_, [(40, (true, .a (.one (.t (.v (.int .i64 (k : Nat))))))), (6, _), (7, _), (8, _), (9, _), (10, _), (31, _), (32, _), (33, _), (38, _), (39, _)], [(6, .box [.t (.v (.int .i64 0)), .t (.v (.slice none 0 0)), .t (.v (.slice none 0 0)), .t (.v (.int .i64 0)), .t (.v (.slice none 0 0)), .t (.v (.slice none 0 0))]), (9, .box [.t (.v (.int .i64 a.Start)), .rf 2200, .rf 2201, .t (.v (.int .i64 x)), .rf 1700, .rf 27]), (2200, .row 1 (a.Accept.map cBool)), (2201, .row 1 (a.Next.map cIntS)), (1700, .row 1 ((ranksOf g a x).map cInt)), (27, .row 1 ((supRow (ranksOf g a x) i (supAll (nxN g a) (ranksOf g a x) (List.replicate (a.Accept.length * g.Values.length) 0) i) ((nxN g a i).take k)).map cInt))]⟩) (fun (k : Nat) => (nxN g a i).length - k) (0) ⟨Nat.zero_le _, trivial⟩ (Le.sub0 rfl ⟨rfl, rfl, rfl, rfl, rfl, rfl, rfl, rfl, rfl, rfl, rfl, trivial⟩ ⟨rfl, rfl, rfl, rfl, rfl, (by refine congrArg (fun r => some (R.row 1 r)) ?_; first | rfl | (simp only [Int.toNat_natCast, List.length_map, hRK.1, supAll, List.map_replicate]; rfl)), trivial⟩) ?_
   rintro k ⟨hk1, he1⟩
   refine AW.sr ?_
   refine AWl.put (R_lt rfl (.no rfl) rfl (.tm rfl) (.tm rfl)) rfl ?_
   refine AWl.nil ?_
   refine AW.seq ?_
   refine AW.cond (.tm rfl) (fun h41 => ?_) (fun h41 => ?_)
   ·skip
    try simp at h41
    obtain ⟨y, hy⟩ : ∃ ξ, (nxN g a i)[k]? = some ξ := ⟨_, List.getElem?_eq_getElem (by omega)⟩
    have hkk := hni _ (List.mem_of_getElem? hy)
    have hsr := SupI.row (R := ranksOf g a x) (i := i) (l := (nxN g a i).take k) hsi (fun q hq => hni q (List.mem_of_mem_take hq))
    have htl : ((nxN g a i).take k).length ≤ 1536 := by (rw [List.length_take]; omega)
    have hgk := atI_get (out := ranksOf g a x) (k := y) (by rw [hRK.1]; omega)
    have hvk := hRK.2 _ (List.mem_of_getElem? hgk)
    have hgS := atI_get (out := supRow (ranksOf g a x) i (supAll (nxN g a) (ranksOf g a x) (List.replicate (a.Accept.length * g.Values.length) 0) i) ((nxN g a i).take k)) (k := y) (by rw [hsr.len]; omega)
    have hvS := hsr.val _ (List.mem_of_getElem? hgS)
    refine AW.skip ?_
    refine AW.seq ?_
    refine AW.block ?_
    refine AW.sr ?_
    refine AWl.put (by exact R_indexAddr rfl (.no rfl) rfl (.tm rfl) (.tm rfl) Tryz.underlying22 ty3 (fun _ => ⟨by omega, (by exact map_get hy)⟩)) rfl ?_
    refine AWl.put (by exact R_load rfl (.no rfl) rfl (.tm rfl) ty3 rfl rfl) rfl ?_
    refine AWl.av rfl rfl rfl rfl rfl ?_
    refine AWl.nil ?_
    refine AW.seq ?_
    refine AW.drawn 17 (nthB [[], [], [0, 1], [0, 1, 2], [0, 1, 2, 3], [0, 1, 2, 3, 4], [0, 1, 2, 3, 4, 5], [0, 1, 2, 3, 4, 5], [0, 1, 2, 3, 4, 5, 6, 7], [0, 1, 2, 3, 4, 5, 6, 7, 8], [0, 1, 2, 3, 4, 5], [0, 1, 2, 3, 4, 5], [0, 1, 2, 3, 4, 5, 10, 11], [0, 1, 2, 3, 4, 5, 10, 11, 12], [0, 1, 2, 3, 4, 5, 10, 11, 12, 13], [0, 1, 2, 3, 4, 5, 6, 7, 8, 9, 10, 11, 12, 13, 14], [0, 1, 2, 3, 4, 5, 6, 7, 8, 9, 10, 11, 12, 13, 14, 15]]) (by kernel_rfl) (by kernel_rfl) (by kernel_rfl) ?_
    refine DrawC.step rfl rfl rfl (Loc.of rfl fun σ' hs => R_move rfl (.no rfl) (hd_sup hs rfl) (.tm (hs.slots _ _ rfl))) ?_
    refine DrawC.step rfl rfl rfl (Loc.of rfl fun σ' hs => R_move rfl (.no rfl) (hd_sup hs rfl) (.tm (hs.slots _ _ rfl))) ?_
    refine DrawC.step rfl rfl rfl (Loc.of rfl fun σ' hs => (by exact R_indexAddr_rf rfl (.no rfl) (hd_sup hs rfl) (.tm (hs.slots _ _ rfl)) (hs.res _ _ rfl) (.tm (hs.slots _ _ rfl)) Tryz.underlying22 ty3 (fun _ => ⟨by omega, (by exact map_get hgi)⟩))) ?_
    refine DrawC.step rfl rfl rfl (Loc.of rfl fun σ' hs => (by exact R_load_pr rfl (.no rfl) (hd_sup hs rfl) (.tm (hs.slots _ _ rfl)) (hs.res _ _ rfl) (by exact map_get hgi) ty3 rfl rfl)) ?_
    refine DrawC.step rfl rfl rfl (Loc.of rfl fun σ' hs => R_ge rfl (.no rfl) (hd_sup hs rfl) (.tm (hs.slots _ _ rfl)) (.const rfl)) ?_
    refine DrawC.step rfl rfl rfl (Loc.of rfl fun σ' hs => R_move rfl (.no rfl) (hd_sup hs rfl) (.tm (hs.slots _ _ rfl))) ?_
    refine DrawC.step rfl rfl rfl (Loc.of rfl fun σ' hs => R_move rfl (by exact .yes1 rfl rfl (hs.slots _ _ rfl) (by rw [hs.n]; rfl)) (hd_sup hs rfl) (.tmp (hs.slots _ _ rfl) (by exact fun _ => rfl))) ?_
    refine DrawC.step rfl rfl rfl (Loc.of rfl fun σ' hs => R_move rfl (by exact .yes1 rfl rfl (hs.slots _ _ rfl) (by rw [hs.n]; rfl)) (hd_sup hs rfl) (.tmp (hs.slots _ _ rfl) (by exact fun _ => rfl))) ?_
    refine DrawC.step rfl rfl rfl (Loc.of rfl fun σ' hs => (by exact R_indexAddr_rf rfl (by exact .yes1 rfl rfl (hs.slots _ _ rfl) (by rw [hs.n]; rfl)) (hd_sup hs rfl) (.tmp (hs.slots _ _ rfl) (by exact id)) (hs.res _ _ rfl) (.tmp (hs.slots _ _ rfl) (by exact id)) Tryz.underlying22 ty3 (fun hq => by (try simp at hq); exact ⟨by omega, (by exact map_get hgi)⟩))) ?_
    refine DrawC.step rfl rfl rfl (Loc.of rfl fun σ' hs => (by exact R_load_pr rfl (by exact .yes1 rfl rfl (hs.slots _ _ rfl) (by rw [hs.n]; rfl)) (hd_sup hs rfl) (.tmp (hs.slots _ _ rfl) (by exact id)) (hs.res _ _ rfl) (by exact map_get hgi) ty3 rfl rfl)) ?_
    refine DrawC.step rfl rfl rfl (Loc.of rfl fun σ' hs => R_move rfl (by exact .yes1 rfl rfl (hs.slots _ _ rfl) (by rw [hs.n]; rfl)) (hd_sup hs rfl) (.tmp (hs.slots _ _ rfl) (by exact fun _ => rfl))) ?_
    refine DrawC.step rfl rfl rfl (Loc.of rfl fun σ' hs => R_move rfl (by exact .yes1 rfl rfl (hs.slots _ _ rfl) (by rw [hs.n]; rfl)) (hd_sup hs rfl) (.tmp (hs.slots _ _ rfl) (by exact fun _ => rfl))) ?_
    refine DrawC.step rfl rfl rfl (Loc.of rfl fun σ' hs => (by exact R_indexAddr_rf rfl (by exact .yes1 rfl rfl (hs.slots _ _ rfl) (by rw [hs.n]; rfl)) (hd_sup hs rfl) (.tmp (hs.slots _ _ rfl) (by exact id)) (hs.res _ _ rfl) (.tmp (hs.slots _ _ rfl) (by exact id)) Tryz.underlying22 ty3 (fun hq => by (try simp at hq); exact ⟨by omega, (by exact map_get hgk)⟩))) ?_
    refine DrawC.step rfl rfl rfl (Loc.of rfl fun σ' hs => (by exact R_load_pr rfl (by exact .yes1 rfl rfl (hs.slots _ _ rfl) (by rw [hs.n]; rfl)) (hd_sup hs rfl) (.tmp (hs.slots _ _ rfl) (by exact id)) (hs.res _ _ rfl) (by exact map_get hgk) ty3 rfl rfl)) ?_
    refine DrawC.step rfl rfl rfl (Loc.of rfl fun σ' hs => R_sub rfl (by exact .yes1 rfl rfl (hs.slots _ _ rfl) (by rw [hs.n]; rfl)) (hd_sup hs rfl) (.tmp (hs.slots _ _ rfl) (by exact id)) (.const rfl) (fun hq => by first | omega | (simp at hq; omega))) ?_
    refine DrawC.step rfl rfl rfl (Loc.of rfl fun σ' hs => R_eq rfl (by exact .yes1 rfl rfl (hs.slots _ _ rfl) (by rw [hs.n]; rfl)) (hd_sup hs rfl) (.tmp (hs.slots _ _ rfl) (by exact id)) (.tmp (hs.slots _ _ rfl) (by exact id))) ?_
    refine DrawC.step rfl rfl rfl (Loc.of rfl fun σ' hs => R_and rfl (.no rfl) (hd_sup hs rfl) (.tm (hs.slots _ _ rfl)) (.tmp (hs.slots _ _ rfl) (by exact id))) ?_
    refine DrawC.fin rfl rfl ?_
    refine AWl.nil ?_
    refine AW.cond (.tm rfl) (fun h60 => ?_) (fun h60 => ?_)
    ·skip
     try simp at h60
     refine AW.le (σ' := ⟨_, [(6, _), (7, _), (8, _), (9, _), (10, _), (13, _), (31, _), (32, _), (33, _), (38, _), (39, _), (40, _)], [(6, _), (9, _), (2200, _), (2201, _), (1700, _), (27, _)]⟩) (Le.sub0 rfl ⟨rfl, rfl, rfl, rfl, rfl, rfl, rfl, rfl, rfl, rfl, rfl, rfl, trivial⟩ ⟨rfl, rfl, rfl, rfl, rfl, rfl, trivial⟩) ?_
     refine AW.region ?_
     refine AWl.put (by exact R_fieldAddr_pp rfl (.no rfl) rfl (.tm rfl) fl38_3) rfl ?_
     refine AWl.put (by exact R_load_pp rfl (.no rfl) rfl (.tm rfl) rfl ty22 rfl rfl) rfl ?_
     refine AWl.mv rfl rfl rfl rfl rfl ?_
     refine AWl.put (by exact R_indexAddr_rf rfl (.no rfl) rfl (.tm rfl) rfl (.tm rfl) Tryz.underlying22 ty3 (fun _ => ⟨by omega, (by exact map_get hgS)⟩)) rfl ?_
     refine AWl.put (by exact R_load_pr rfl (.no rfl) rfl (.tm rfl) rfl (by exact map_get hgS) ty3 rfl rfl) rfl ?_
     refine AWl.put (R_add rfl (.no rfl) rfl (.tm rfl) (.const rfl) (fun _ => by omega)) rfl ?_
     refine AWl.put (by exact R_indexAddr_rf rfl (.no rfl) rfl (.tm rfl) rfl (.tm rfl) Tryz.underlying22 ty3 (fun _ => ⟨by omega, (by exact map_get hgS)⟩)) rfl ?_
     refine AWl.absupd (R_store_pr rfl rfl rfl (.tm rfl) rfl (.tm rfl) rfl (by exact map_get hgS) ty3 rfl rfl rfl rfl) ?_
     refine AWl.nil ?_
     refine AW.le (σ' := ⟨_, [(6, _), (7, _), (8, _), (9, _), (10, _), (13, _), (31, _), (32, _), (33, _), (38, _), (39, _), (40, _)], [(6, _), (9, _), (2200, _), (2201, _), (1700, _), (27, _)]⟩) (Le.sub0 rfl ⟨rfl, rfl, rfl, rfl, rfl, rfl, rfl, rfl, rfl, rfl, rfl, rfl, trivial⟩ ⟨rfl, rfl, rfl, rfl, rfl, rfl, trivial⟩) ?_
     refine AW.region ?_
     refine AWl.put (R_add rfl (.no rfl) rfl (.tm rfl) (.const rfl) (fun _ => by omega)) rfl ?_
     refine AWl.mv rfl rfl rfl rfl rfl ?_
     refine AWl.nil ?_
     repeat (with_reducible refine BlockQ.nor ?_)
     refine Round1.next (k + 1) ⟨by omega, trivial⟩ (by omega) (Le.sub0 rfl ⟨rfl, rfl, rfl, rfl, rfl, rfl, rfl, rfl, rfl, rfl, rfl, trivial⟩ ⟨(by rfl), (by rfl), (by rfl), (by rfl), (by rfl), (by refine congrArg (fun r => some (R.row 1 r)) ?_; first | (rw [supRow_at hy]; unfold sup1; rw [if_pos (by omega)]; simp [List.map_set, cInt]; done) | (rw [supRow_at hy]; unfold sup1; rw [if_neg (by omega)]; done) | (rw [List.take_of_length_le (by omega)]; rfl)), trivial⟩)
    ·skip
     try simp at h60
     refine AW.skip ?_
     refine AW.le (σ' := ⟨_, [(6, _), (7, _), (8, _), (9, _), (10, _), (13, _), (31, _), (32, _), (33, _), (38, _), (39, _), (40, _)], [(6, _), (9, _), (2200, _), (2201, _), (1700, _), (27, _)]⟩) (Le.sub0 rfl ⟨rfl, rfl, rfl, rfl, rfl, rfl, rfl, rfl, rfl, rfl, rfl, rfl, trivial⟩ ⟨rfl, rfl, rfl, rfl, rfl, rfl, trivial⟩) ?_
     refine AW.region ?_
     refine AWl.put (R_add rfl (.no rfl) rfl (.tm rfl) (.const rfl) (fun _ => by omega)) rfl ?_
     refine AWl.mv rfl rfl rfl rfl rfl ?_
     refine AWl.nil ?_
     repeat (with_reducible refine BlockQ.nor ?_)
     refine Round1.next (k + 1) ⟨by omega, trivial⟩ (by omega) (Le.sub0 rfl ⟨rfl, rfl, rfl, rfl, rfl, rfl, rfl, rfl, rfl, rfl, rfl, trivial⟩ ⟨(by rfl), (by rfl), (by rfl), (by rfl), (by rfl), (by refine congrArg (fun r => some (R.row 1 r)) ?_; first | (rw [supRow_at hy]; unfold sup1; rw [if_pos (by omega)]; simp [List.map_set, cInt]; done) | (rw [supRow_at hy]; unfold sup1; rw [if_neg (by omega)]; done) | (rw [List.take_of_length_le (by omega)]; rfl)), trivial⟩)
   ·skip
    try simp at h41
    refine AW.exit ?_
    refine AW.region ?_
    refine AWl.put (R_add rfl (.no rfl) rfl (.tm rfl) (.const rfl) (fun _ => by omega)) rfl ?_
    refine AWl.mv rfl rfl rfl rfl rfl ?_
    refine AWl.nil ?_
    repeat (with_reducible refine BlockQ.nor ?_)
    refine Round1.next (i + 1) ⟨by omega, trivial⟩ (by omega) (Le.sub0 rfl ⟨rfl, rfl, rfl, rfl, rfl, rfl, rfl, trivial⟩ ⟨(by rfl), (by rfl), (by rfl), (by rfl), (by rfl), (by refine congrArg (fun r => some (R.row 1 r)) ?_; first | (rw [supRow_at hy]; unfold sup1; rw [if_pos (by omega)]; simp [List.map_set, cInt]; done) | (rw [supRow_at hy]; unfold sup1; rw [if_neg (by omega)]; done) | (rw [List.take_of_length_le (by omega)]; rfl)), trivial⟩)
  ·skip
   try simp at h34
   refine AW.exit ?_
   refine AW.sr ?_
   refine AWl.put (by exact R_load_pp rfl (.no rfl) rfl (.tm rfl) rfl ty38 rfl rfl) rfl ?_
   refine AWl.chgb (R_store_pb rfl rfl rfl (.tm rfl) (.tm rfl) rfl ty38 rfl rfl rfl (by kernel_rfl) rfl) ?_
   refine AWl.le (σ' := ⟨_, [(6, _), (7, _), (8, _), (9, _), (31, _), (32, _), (33, _), (34, _)], [(6, _), (9, _), (2200, _), (2201, _), (1700, _), (27, _)]⟩) (Le.sub0 rfl ⟨rfl, rfl, rfl, rfl, rfl, rfl, rfl, rfl, trivial⟩ ⟨rfl, rfl, rfl, rfl, rfl, rfl, trivial⟩) ?_
   refine AWl.ac rfl rfl rfl rfl rfl ?_
   refine AWl.nil ?_
   refine AW.ret ?_
   refine Res.many rfl (.cell rfl rfl ty38 rfl rfl (.tmp rfl .nil)) rfl ?_ (by simp)
   unfold buildV; rw [if_pos hb, show i = a.Accept.length * g.Values.length by omega]; rfl
theorem implBuildView (g : TGraph) (a : TAutomaton) (x : Int) : FnT Tryz.prog 111 [.agg (cGraph g), .agg (cAutomaton a), .one (.v (.int .i64 x))] (.tup [.agg (cView (buildV g a x).1), .one (.v (.bool (buildV g a x).2))]) := by
 cases hb : goodB g a x 0 with
 | false => exact implBuildView_bad g a x hb
 | true => exact implBuildView_ok g a (good_parts hb).2.1 (good_parts hb).1 x (good_parts hb).2.2 hb
theorem specIsValidView (g : TGraph) (v : TView) : FnT Tryz.prog 47 [.agg (cGraph g), .agg (cView v)] (.a (.one (.v (.bool ((buildV g v.Automaton v.Source).2 && decide ((buildV g v.Automaton v.Source).1 = v)))))) := by
 refine FnT.walk Tryz.func47 rfl (by kernel_rfl) Tryz.ntmps47 rfl fun hlen w0 => ?_
 try simp [cEdge, cGraph, cStep, cChange, cBatch, cAutomaton, cProductStep, cView] at hlen
 refine AW.sr ?_
 refine AWl.put (R_boxz rfl rfl rfl (.tm rfl) (ts := _) (by rfl)) rfl ?_
 refine AWl.put (R_boxz rfl rfl rfl (.tm rfl) (ts := _) (by rfl)) rfl ?_
 refine AWl.ac rfl rfl rfl rfl rfl ?_
 refine AWl.nil ?_
 refine AW.sr ?_
 refine AWl.put (by exact R_load rfl (.no rfl) rfl (.tm rfl) ty43 rfl rfl) rfl ?_
 refine AWl.put (by exact R_fieldAddr rfl (.no rfl) rfl (.tm rfl) fl38_0) rfl ?_
 refine AWl.put (by exact R_load rfl (.no rfl) rfl (.tm rfl) ty36 rfl rfl) rfl ?_
 refine AWl.put (by exact R_fieldAddr rfl (.no rfl) rfl (.tm rfl) fl38_1) rfl ?_
 refine AWl.put (by exact R_load rfl (.no rfl) rfl (.tm rfl) ty3 rfl rfl) rfl ?_
 refine AWl.adds (R_call 1300 (specBuildView g v.Automaton v.Source) rfl rfl rfl (.cons (.tm rfl) rfl (.cons (.tm rfl) rfl (.cons (.tm rfl) rfl .nil))) rfl rfl) rfl ?_
 refine AWl.put (R_movet rfl (.no rfl) rfl rfl fun _ => rfl) rfl ?_
 refine AWl.put (R_extract rfl (.no rfl) rfl rfl (fun _ => rfl) rfl) rfl ?_
 refine AWl.put (R_extract rfl (.no rfl) rfl rfl (fun _ => rfl) rfl) rfl ?_
 refine AWl.add (R_alloc 5 rfl rfl rfl in38 rfl rfl rfl) rfl ?_
 refine AWl.chgb (R_store_pb rfl rfl rfl (.tm rfl) (.tm rfl) rfl ty38 rfl rfl rfl (by kernel_rfl) rfl) ?_
 refine AWl.le (σ' := ⟨_, [(0, _), (1, _), (2, _), (3, _), (4, _), (5, _), (15, _)], [(1300, _), (1301, _), (1302, _), (1303, _), (5, _)]⟩) (Le.sub0 rfl ⟨rfl, rfl, rfl, rfl, rfl, rfl, rfl, trivial⟩ ⟨rfl, rfl, rfl, rfl, rfl, trivial⟩) ?_
 refine AWl.av rfl rfl rfl rfl rfl ?_
 refine AWl.nil ?_
 refine AW.sr ?_
 refine AWl.mv rfl rfl rfl rfl rfl ?_
 refine AWl.mv rfl rfl rfl rfl rfl ?_
 refine AWl.put (by exact R_load_pp rfl (by exact .yes1 rfl rfl rfl rfl) rfl (.tmp rfl (by exact fun _ => rfl)) rfl ty38 rfl rfl) rfl ?_
 refine AWl.put (by exact R_load rfl (by exact .yes1 rfl rfl rfl rfl) rfl (.tmp rfl (by exact fun _ => rfl)) ty38 rfl rfl) rfl ?_
 refine AWl.put (R_callz (FnT.fr (specEqualViews (buildV g v.Automaton v.Source).1 v)) rfl (by exact .yes1 rfl rfl rfl rfl) rfl (.cons (.tmp rfl (by exact id)) rfl (.cons (.tmp rfl (by exact id)) rfl .nil))) rfl ?_
 refine AWl.put (R_and rfl (.no rfl) rfl (.tm rfl) (.tmp rfl (by exact id))) rfl ?_
 refine AWl.av rfl rfl rfl rfl rfl ?_
 refine AWl.nil ?_
 refine AW.ret ?_
 refine Res.v rfl rfl ?_
 rfl
theorem implIsValidView (g : TGraph) (v : TView) : FnT Tryz.prog 109 [.agg (cGraph g), .agg (cView v)] (.a (.one (.v (.bool ((buildV g v.Automaton v.Source).2 && decide ((buildV g v.Automaton v.Source).1 = v)))))) := by
 refine FnT.walk Tryz.func109 rfl (by kernel_rfl) Tryz.ntmps109 rfl fun hlen w0 => ?_
 try simp [cEdge, cGraph, cStep, cChange, cBatch, cAutomaton, cProductStep, cView] at hlen
 refine AW.sr ?_
 refine AWl.put (R_boxz rfl rfl rfl (.tm rfl) (ts := _) (by rfl)) rfl ?_
 refine AWl.put (R_boxz rfl rfl rfl (.tm rfl) (ts := _) (by rfl)) rfl ?_
 refine AWl.ac rfl rfl rfl rfl rfl ?_
 refine AWl.nil ?_
 refine AW.sr ?_
 refine AWl.put (by exact R_load rfl (.no rfl) rfl (.tm rfl) ty43 rfl rfl) rfl ?_
 refine AWl.put (by exact R_fieldAddr rfl (.no rfl) rfl (.tm rfl) fl38_0) rfl ?_
 refine AWl.put (by exact R_load rfl (.no rfl) rfl (.tm rfl) ty36 rfl rfl) rfl ?_
 refine AWl.put (by exact R_fieldAddr rfl (.no rfl) rfl (.tm rfl) fl38_1) rfl ?_
 refine AWl.put (by exact R_load rfl (.no rfl) rfl (.tm rfl) ty3 rfl rfl) rfl ?_
 refine AWl.adds (R_call 1300 (implBuildView g v.Automaton v.Source) rfl rfl rfl (.cons (.tm rfl) rfl (.cons (.tm rfl) rfl (.cons (.tm rfl) rfl .nil))) rfl rfl) rfl ?_
 refine AWl.put (R_movet rfl (.no rfl) rfl rfl fun _ => rfl) rfl ?_
 refine AWl.put (R_extract rfl (.no rfl) rfl rfl (fun _ => rfl) rfl) rfl ?_
 refine AWl.put (R_extract rfl (.no rfl) rfl rfl (fun _ => rfl) rfl) rfl ?_
 refine AWl.add (R_alloc 5 rfl rfl rfl in38 rfl rfl rfl) rfl ?_
 refine AWl.chgb (R_store_pb rfl rfl rfl (.tm rfl) (.tm rfl) rfl ty38 rfl rfl rfl (by kernel_rfl) rfl) ?_
 refine AWl.le (σ' := ⟨_, [(0, _), (1, _), (2, _), (3, _), (4, _), (5, _), (15, _)], [(1300, _), (1301, _), (1302, _), (1303, _), (5, _)]⟩) (Le.sub0 rfl ⟨rfl, rfl, rfl, rfl, rfl, rfl, rfl, trivial⟩ ⟨rfl, rfl, rfl, rfl, rfl, trivial⟩) ?_
 refine AWl.av rfl rfl rfl rfl rfl ?_
 refine AWl.nil ?_
 refine AW.sr ?_
 refine AWl.mv rfl rfl rfl rfl rfl ?_
 refine AWl.mv rfl rfl rfl rfl rfl ?_
 refine AWl.put (by exact R_load_pp rfl (by exact .yes1 rfl rfl rfl rfl) rfl (.tmp rfl (by exact fun _ => rfl)) rfl ty38 rfl rfl) rfl ?_
 refine AWl.put (by exact R_load rfl (by exact .yes1 rfl rfl rfl rfl) rfl (.tmp rfl (by exact fun _ => rfl)) ty38 rfl rfl) rfl ?_
 refine AWl.put (R_callz (FnT.fr (implEqualViews (buildV g v.Automaton v.Source).1 v)) rfl (by exact .yes1 rfl rfl rfl rfl) rfl (.cons (.tmp rfl (by exact id)) rfl (.cons (.tmp rfl (by exact id)) rfl .nil))) rfl ?_
 refine AWl.put (R_and rfl (.no rfl) rfl (.tm rfl) (.tmp rfl (by exact id))) rfl ?_
 refine AWl.av rfl rfl rfl rfl rfl ?_
 refine AWl.nil ?_
 refine AW.ret ?_
 refine Res.v rfl rfl ?_
 rfl
end Go.Proofs.YtoealglkenhphaaGreat
