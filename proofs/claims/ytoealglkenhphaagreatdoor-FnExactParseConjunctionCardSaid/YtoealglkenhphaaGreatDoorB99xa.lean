/- Conjunctions read: both texts. -/
import Derived.Test.YtoealglkenhphaaGreatDoorB98xa
set_option linter.unusedVariables false
set_option linter.unusedSimpArgs false
set_option maxHeartbeats 1000000
set_option maxRecDepth 100000
namespace Go.Q
open Go.D
theorem ext4b (a : List UInt8) : (bs a).extract 4 (bs a).size = bs (a.drop 4) := by rw [bs_extract, bs_size, List.take_of_length_le (Nat.le_refl _)]
theorem vcOf_at {l : List (List UInt8)} {f : List UInt8 → TPathAtom} {k : Nat} {x : List UInt8} (h : l[k]? = some x) : vcOf ((l.take (k + 1)).map f) = max (max (vcOf ((l.take k).map f)) ((f x).From + 1)) ((f x).To + 1) := by
  rw [take_at h, List.map_append, List.map_singleton, vcOf_snoc]
theorem atmS_at {p : List UInt8} {b0 b2 : UInt8} (h0 : p[0]? = some b0) (h2 : p[2]? = some b2) : atmS p = ⟨(b0.toNat : Int) - 48, (b2.toNat : Int) - 48, (parseX (p.drop 4)).1⟩ := by unfold atmS; rw [h0, h2]; rfl
end Go.Q
namespace Go.Proofs.YtoealglkenhphaaGreatDoor
open Go.RowKit Go.Q Go.D
theorem implParseConjunctionL (l : List UInt8) (hz : l.length ≤ 1073741824) : FnT Tryz.prog 5 [.one (.v (.string (bs l)))] (.tup [.agg (cConjunction (parseC l).1), .one (.v (.bool (parseC l).2))]) := by
  have hcs := stringsSplit (bs l) 59 (by rw [bs_size]; omega)
  rw [bs_list] at hcs
  refine FnT.walk Tryz.func5 rfl (by kernel_rfl) Tryz.ntmps5 rfl fun hlen w0 => ?_
  try simp [cPair, cToken, cExpr, cEdge, cGraph, cStep, cWalk, cChange, cBatch, cHistory, cPositions, cAutomaton, cProductStep, cPathAtom, cConjunction, cView, cDelta, cRegistered, cRegistry] at hlen
  have hsz := bs_size l
  have hcl := splitL_len 59 l
  have hcl2 := List.count_le_length (a := 59) (l := l)
  refine AW.seq ?_
  refine AW.region ?_
  refine AWl.add (R_alloc 2 rfl rfl rfl in24 rfl rfl rfl) rfl ?_
  refine AWl.put (R_assign rfl (.no rfl) rfl (.const rfl)) rfl ?_
  refine AWl.nil ?_
  refine AW.seq ?_
  refine AW.region ?_
  refine AWl.put (R_build (ps := []) rfl rfl rfl in24 rfl rfl st24 .nil rfl) rfl ?_
  refine AWl.nilA (i := 14) 20001 3 1 rfl rfl rfl ?_
  refine AWl.add (R_alloc 4 rfl rfl rfl in24 rfl rfl rfl) rfl ?_
  refine AWl.chgb (R_store_pb rfl rfl rfl (.tmp rfl fun _ => rfl) (.tmp rfl fun _ => rfl) rfl ty24 rfl rfl rfl (by kernel_rfl) rfl) ?_
  refine AWl.nil ?_
  refine AW.seq ?_
  refine AW.seq ?_
  refine AW.region ?_
  refine AWl.put (R_move rfl (.no rfl) rfl (.tmp rfl fun _ => rfl)) rfl ?_
  refine AWl.put (R_eqstr rfl (.no rfl) rfl (.tmp rfl fun _ => rfl) (.const rfl)) rfl ?_
  refine AWl.nil ?_
  refine AW.cond (.tmp rfl fun _ => rfl) (fun h16 => ?_) (fun h16 => ?_)
  · skip
    try simp at h16
    refine AW.seq ?_
    refine AW.region ?_
    refine AWl.put ((by first | exact R_load rfl (.no rfl) rfl (.tmp rfl fun _ => rfl) ty24 rfl rfl | exact R_load_pp rfl (.no rfl) rfl (.tmp rfl fun _ => rfl) rfl ty24 rfl rfl | exact R_load_vw rfl (.no rfl) rfl (.tmp rfl fun _ => rfl) ty24 rfl rfl | exact R_load_pr rfl (.no rfl) rfl (.tmp rfl fun _ => rfl) rfl (map_get hx) ty24 rfl rfl)) rfl ?_
    refine AWl.chgb (R_store_pb rfl rfl rfl (.tmp rfl fun _ => rfl) (.tmp rfl fun _ => rfl) rfl ty24 rfl rfl rfl (by kernel_rfl) rfl) ?_
    refine AWl.le (σ' := ⟨_, [(0, _), (2, _), (3, _), (4, _), (16, _)], [(2, _), (20001, _), (4, _)]⟩) (Le.sub0 rfl ⟨rfl, rfl, rfl, rfl, rfl, trivial⟩ ⟨rfl, rfl, rfl, trivial⟩) ?_
    refine AWl.put (R_assign rfl (.no rfl) rfl (.const rfl)) rfl ?_
    refine AWl.nil ?_
    refine AW.ret ?_
    refine Res.many rfl (.cell rfl rfl ty24 rfl rfl (.tmp rfl .nil)) rfl ?_ (by simp)
    have e : l = [] := bs_inj (m := []) h16; rw [e, parseC_nil]; rfl
  · skip
    try simp at h16
    have hne : l ≠ [] := (fun e => h16 (by rw [e]; rfl))
    refine AW.skip ?_
    refine AW.seq ?_
    refine AW.seq ?_
    refine AW.region ?_
    refine AWl.put (R_move rfl (.no rfl) rfl (.tmp rfl fun _ => rfl)) rfl ?_
    refine AWl.put (R_callz (FnT.fr (hcs)) rfl (.no rfl) rfl (.cons (.tmp rfl fun _ => rfl) rfl (.cons (.const rfl) rfl .nil))) rfl ?_
    refine AWl.put ((by first | exact R_lenm rfl (.no rfl) rfl (.tmp rfl fun _ => rfl) (by first | exact .t | exact .rf rfl | exact .vw | exact .nil) Tryz.underlying30 | exact R_len rfl (.no rfl) rfl (.tmp rfl fun _ => rfl) (by first | exact .t | exact .rf rfl | exact .vw | exact .nil) Tryz.underlying30)) rfl ?_
    refine AWl.put (R_move rfl (.no rfl) rfl (.const rfl)) rfl ?_
    refine AWl.nil ?_
    refine AW.block ?_
    refine AW.loop1 (fun (k : Nat) => (k ≤ (splitL 59 l).length) ∧ True) (fun (k : Nat) => ⟨_, [(21, (true, .a (.one (.t (.v (.int .i64 (k : Nat))))))), (0, _), (2, _), (3, _), (4, _), (19, _), (20, _)], [(2, .box [.t (.v (.int .i64 0)), .t (.v (.slice none 0 0))]), (4, .box [.t (.v (.int .i64 (vcOf (((splitL 59 l).take k).map atmI)))), .rf 20001]), (20001, .row 3 ((((splitL 59 l).take k).map atmI).map cPathAtom))]⟩) (fun (k : Nat) => (splitL 59 l).length - k) (0) ⟨Nat.zero_le _, trivial⟩ (Le.sub0 rfl ⟨rfl, rfl, rfl, rfl, rfl, rfl, rfl, trivial⟩ ⟨rfl, rfl, rfl, trivial⟩) ?_
    rintro k ⟨hk, he⟩
    refine AW.seq ?_
    refine AW.region ?_
    refine AWl.put (R_lt rfl (.no rfl) rfl (.tmp rfl fun _ => rfl) (.tmp rfl fun _ => rfl)) rfl ?_
    refine AWl.nil ?_
    refine AW.seq ?_
    refine AW.cond (.tmp rfl fun _ => rfl) (fun h22 => ?_) (fun h22 => ?_)
    · skip
      try simp at h22
      obtain ⟨x, hx⟩ : ∃ ξ, (splitL 59 l)[k]? = some ξ := ⟨_, List.getElem?_eq_getElem (by omega)⟩
      have hxl := (splitL_mem (c := 59) (l := l) (x := x) (List.mem_of_getElem? hx)).2
      have hc1 := cut1_len x 32
      have hc2 := cut1_len (Lib.cut x [32]).1 58
      have hcA := stringsCut (bs x) [32] (by rw [bs_size]; omega)
      have hcB := stringsCut (bs (Lib.cut x [32]).1) [58] (by rw [bs_size]; omega)
      rw [bs_list] at hcA hcB
      have hr1 := parseI_rng (Lib.cut (Lib.cut x [32]).1 [58]).1
      have hr2 := parseI_rng (Lib.cut (Lib.cut x [32]).1 [58]).2.1
      refine AW.skip ?_
      refine AW.seq ?_
      refine AW.block ?_
      refine AW.seq ?_
      refine AW.region ?_
      refine AWl.put ((by first | exact R_indexAddr rfl (.no rfl) rfl (.tmp rfl fun _ => rfl) (.tmp rfl fun _ => rfl) Tryz.underlying30 ty9 (fun _ => ⟨by omega, (map_get hx)⟩) | exact R_indexAddr_vw rfl (.no rfl) rfl (.tmp rfl fun _ => rfl) (.tmp rfl fun _ => rfl) Tryz.underlying30 ty9 (fun _ => ⟨by omega, (map_get hx)⟩) | exact R_indexAddr_rf rfl (.no rfl) rfl (.tmp rfl fun _ => rfl) rfl (.tmp rfl fun _ => rfl) Tryz.underlying30 ty9 (fun _ => ⟨by omega, (map_get hx)⟩))) rfl ?_
      refine AWl.put ((by first | exact R_load rfl (.no rfl) rfl (.tmp rfl fun _ => rfl) ty9 rfl rfl | exact R_load_pp rfl (.no rfl) rfl (.tmp rfl fun _ => rfl) rfl ty9 rfl rfl | exact R_load_vw rfl (.no rfl) rfl (.tmp rfl fun _ => rfl) ty9 rfl rfl | exact R_load_pr rfl (.no rfl) rfl (.tmp rfl fun _ => rfl) rfl (map_get hx) ty9 rfl rfl)) rfl ?_
      refine AWl.put (R_assign rfl (.no rfl) rfl (.tmp rfl fun _ => rfl)) rfl ?_
      refine AWl.nil ?_
      refine AW.seq ?_
      refine AW.region ?_
      refine AWl.put (R_move rfl (.no rfl) rfl (.tmp rfl fun _ => rfl)) rfl ?_
      refine AWl.put (R_callz (FnT.fr (hcA)) rfl (.no rfl) rfl (.cons (.tmp rfl fun _ => rfl) rfl (.cons (.const rfl) rfl .nil))) rfl ?_
      refine AWl.put (R_movet rfl (.no rfl) rfl rfl fun _ => rfl) rfl ?_
      refine AWl.put (R_extract rfl (.no rfl) rfl rfl (fun _ => rfl) rfl) rfl ?_
      refine AWl.put (R_extract rfl (.no rfl) rfl rfl (fun _ => rfl) rfl) rfl ?_
      refine AWl.put (R_extract rfl (.no rfl) rfl rfl (fun _ => rfl) rfl) rfl ?_
      refine AWl.put (R_assign rfl (.no rfl) rfl (.tmp rfl fun _ => rfl)) rfl ?_
      refine AWl.put (R_assign rfl (.no rfl) rfl (.tmp rfl fun _ => rfl)) rfl ?_
      refine AWl.put (R_assign rfl (.no rfl) rfl (.tmp rfl fun _ => rfl)) rfl ?_
      refine AWl.nil ?_
      refine AW.seq ?_
      refine AW.le (σ' := ⟨_, [(0, _), (2, _), (3, _), (4, _), (6, _), (7, _), (8, _), (19, _), (20, _), (21, _)], [(2, _), (4, _), (20001, _)]⟩) (Le.sub0 rfl ⟨rfl, rfl, rfl, rfl, rfl, rfl, rfl, rfl, rfl, rfl, trivial⟩ ⟨rfl, rfl, rfl, trivial⟩) ?_
      refine AW.region ?_
      refine AWl.put (R_move rfl (.no rfl) rfl (.tmp rfl fun _ => rfl)) rfl ?_
      refine AWl.put (R_callz (FnT.fr (hcB)) rfl (.no rfl) rfl (.cons (.tmp rfl fun _ => rfl) rfl (.cons (.const rfl) rfl .nil))) rfl ?_
      refine AWl.put (R_movet rfl (.no rfl) rfl rfl fun _ => rfl) rfl ?_
      refine AWl.put (R_extract rfl (.no rfl) rfl rfl (fun _ => rfl) rfl) rfl ?_
      refine AWl.put (R_extract rfl (.no rfl) rfl rfl (fun _ => rfl) rfl) rfl ?_
      refine AWl.put (R_extract rfl (.no rfl) rfl rfl (fun _ => rfl) rfl) rfl ?_
      refine AWl.put (R_assign rfl (.no rfl) rfl (.tmp rfl fun _ => rfl)) rfl ?_
      refine AWl.put (R_assign rfl (.no rfl) rfl (.tmp rfl fun _ => rfl)) rfl ?_
      refine AWl.put (R_assign rfl (.no rfl) rfl (.tmp rfl fun _ => rfl)) rfl ?_
      refine AWl.nil ?_
      refine AW.seq ?_
      refine AW.le (σ' := ⟨_, [(0, _), (2, _), (3, _), (4, _), (6, _), (7, _), (8, _), (10, _), (11, _), (19, _), (20, _), (21, _)], [(2, _), (4, _), (20001, _)]⟩) (Le.sub0 rfl ⟨rfl, rfl, rfl, rfl, rfl, rfl, rfl, rfl, rfl, rfl, rfl, rfl, trivial⟩ ⟨rfl, rfl, rfl, trivial⟩) ?_
      refine AW.region ?_
      refine AWl.put (R_build (ps := []) rfl rfl rfl in38 rfl rfl st38 .nil rfl) rfl ?_
      refine AWl.nilA (i := 37) 20002 4 2 rfl rfl rfl ?_
      refine AWl.add (R_alloc 13 rfl rfl rfl in38 rfl rfl rfl) rfl ?_
      refine AWl.chgb (R_store_pb rfl rfl rfl (.tmp rfl fun _ => rfl) (.tmp rfl fun _ => rfl) rfl ty38 rfl rfl rfl (by kernel_rfl) rfl) ?_
      refine AWl.nil ?_
      refine AW.seq ?_
      refine AW.region ?_
      refine AWl.put (R_move rfl (.no rfl) rfl (.tmp rfl fun _ => rfl)) rfl ?_
      refine AWl.put (R_callz (FnT.fr (implParseInt (Lib.cut (Lib.cut x [32]).1 [58]).1)) rfl (.no rfl) rfl (.cons (.tmp rfl fun _ => rfl) rfl .nil)) rfl ?_
      refine AWl.put (R_movet rfl (.no rfl) rfl rfl fun _ => rfl) rfl ?_
      refine AWl.put (R_extract rfl (.no rfl) rfl rfl (fun _ => rfl) rfl) rfl ?_
      refine AWl.put (R_extract rfl (.no rfl) rfl rfl (fun _ => rfl) rfl) rfl ?_
      refine AWl.put ((by first | exact R_fieldAddr rfl (.no rfl) rfl (.tmp rfl fun _ => rfl) fl38_0 | exact R_fieldAddr_pp rfl (.no rfl) rfl (.tmp rfl fun _ => rfl) fl38_0 | exact R_fieldAddr_vw rfl (.no rfl) rfl (.tmp rfl fun _ => rfl) fl38_0 | exact R_fieldAddr_pr rfl (.no rfl) rfl (.tmp rfl fun _ => rfl) fl38_0)) rfl ?_
      refine AWl.chgb (R_store_pb rfl rfl rfl (.tmp rfl fun _ => rfl) (.tmp rfl fun _ => rfl) rfl ty3 rfl rfl rfl (by kernel_rfl) rfl) ?_
      refine AWl.nil ?_
      refine AW.seq ?_
      refine AW.le (σ' := ⟨_, [(0, _), (2, _), (3, _), (4, _), (6, _), (7, _), (8, _), (10, _), (11, _), (13, _), (19, _), (20, _), (21, _)], [(2, _), (4, _), (20001, _), (20002, _), (13, _)]⟩) (Le.sub0 rfl ⟨rfl, rfl, rfl, rfl, rfl, rfl, rfl, rfl, rfl, rfl, rfl, rfl, rfl, trivial⟩ ⟨rfl, rfl, rfl, rfl, rfl, trivial⟩) ?_
      refine AW.region ?_
      refine AWl.put (R_move rfl (.no rfl) rfl (.tmp rfl fun _ => rfl)) rfl ?_
      refine AWl.put (R_callz (FnT.fr (implParseInt (Lib.cut (Lib.cut x [32]).1 [58]).2.1)) rfl (.no rfl) rfl (.cons (.tmp rfl fun _ => rfl) rfl .nil)) rfl ?_
      refine AWl.put (R_movet rfl (.no rfl) rfl rfl fun _ => rfl) rfl ?_
      refine AWl.put (R_extract rfl (.no rfl) rfl rfl (fun _ => rfl) rfl) rfl ?_
      refine AWl.put (R_extract rfl (.no rfl) rfl rfl (fun _ => rfl) rfl) rfl ?_
      refine AWl.put ((by first | exact R_fieldAddr rfl (.no rfl) rfl (.tmp rfl fun _ => rfl) fl38_1 | exact R_fieldAddr_pp rfl (.no rfl) rfl (.tmp rfl fun _ => rfl) fl38_1 | exact R_fieldAddr_vw rfl (.no rfl) rfl (.tmp rfl fun _ => rfl) fl38_1 | exact R_fieldAddr_pr rfl (.no rfl) rfl (.tmp rfl fun _ => rfl) fl38_1)) rfl ?_
      refine AWl.chgb (R_store_pb rfl rfl rfl (.tmp rfl fun _ => rfl) (.tmp rfl fun _ => rfl) rfl ty3 rfl rfl rfl (by kernel_rfl) rfl) ?_
      refine AWl.nil ?_
      refine AW.seq ?_
      refine AW.le (σ' := ⟨_, [(0, _), (2, _), (3, _), (4, _), (6, _), (7, _), (8, _), (10, _), (11, _), (13, _), (19, _), (20, _), (21, _)], [(2, _), (4, _), (20001, _), (20002, _), (13, _)]⟩) (Le.sub0 rfl ⟨rfl, rfl, rfl, rfl, rfl, rfl, rfl, rfl, rfl, rfl, rfl, rfl, rfl, trivial⟩ ⟨rfl, rfl, rfl, rfl, rfl, trivial⟩) ?_
      refine AW.region ?_
      refine AWl.put (R_move rfl (.no rfl) rfl (.tmp rfl fun _ => rfl)) rfl ?_
      refine AWl.adds (R_call 5200 (implParseExpr (Lib.cut x [32]).2.1 (by omega)) rfl rfl rfl (.cons (.tmp rfl fun _ => rfl) rfl .nil) rfl rfl) rfl ?_
      refine AWl.put (R_movet rfl (.no rfl) rfl rfl fun _ => rfl) rfl ?_
      refine AWl.put (R_extract rfl (.no rfl) rfl rfl (fun _ => rfl) rfl) rfl ?_
      refine AWl.put (R_extract rfl (.no rfl) rfl rfl (fun _ => rfl) rfl) rfl ?_
      refine AWl.put ((by first | exact R_fieldAddr rfl (.no rfl) rfl (.tmp rfl fun _ => rfl) fl38_2 | exact R_fieldAddr_pp rfl (.no rfl) rfl (.tmp rfl fun _ => rfl) fl38_2 | exact R_fieldAddr_vw rfl (.no rfl) rfl (.tmp rfl fun _ => rfl) fl38_2 | exact R_fieldAddr_pr rfl (.no rfl) rfl (.tmp rfl fun _ => rfl) fl38_2)) rfl ?_
      refine AWl.chgb (R_store_pb rfl rfl rfl (.tmp rfl fun _ => rfl) (.tmp rfl fun _ => rfl) rfl ty34 rfl rfl rfl (by kernel_rfl) rfl) ?_
      refine AWl.nil ?_
      refine AW.seq ?_
      refine AW.le (σ' := ⟨_, [(0, _), (2, _), (3, _), (4, _), (6, _), (7, _), (8, _), (10, _), (11, _), (13, _), (19, _), (20, _), (21, _)], [(2, _), (4, _), (20001, _), (20002, _), (13, _), (5200, _)]⟩) (Le.sub0 rfl ⟨rfl, rfl, rfl, rfl, rfl, rfl, rfl, rfl, rfl, rfl, rfl, rfl, rfl, trivial⟩ ⟨rfl, rfl, rfl, rfl, rfl, rfl, trivial⟩) ?_
      refine AW.region ?_
      refine AWl.put ((by first | exact R_fieldAddr rfl (.no rfl) rfl (.tmp rfl fun _ => rfl) fl24_0 | exact R_fieldAddr_pp rfl (.no rfl) rfl (.tmp rfl fun _ => rfl) fl24_0 | exact R_fieldAddr_vw rfl (.no rfl) rfl (.tmp rfl fun _ => rfl) fl24_0 | exact R_fieldAddr_pr rfl (.no rfl) rfl (.tmp rfl fun _ => rfl) fl24_0)) rfl ?_
      refine AWl.put ((by first | exact R_load rfl (.no rfl) rfl (.tmp rfl fun _ => rfl) ty3 rfl rfl | exact R_load_pp rfl (.no rfl) rfl (.tmp rfl fun _ => rfl) rfl ty3 rfl rfl | exact R_load_vw rfl (.no rfl) rfl (.tmp rfl fun _ => rfl) ty3 rfl rfl | exact R_load_pr rfl (.no rfl) rfl (.tmp rfl fun _ => rfl) rfl (map_get hx) ty3 rfl rfl)) rfl ?_
      refine AWl.put ((by first | exact R_fieldAddr rfl (.no rfl) rfl (.tmp rfl fun _ => rfl) fl38_0 | exact R_fieldAddr_pp rfl (.no rfl) rfl (.tmp rfl fun _ => rfl) fl38_0 | exact R_fieldAddr_vw rfl (.no rfl) rfl (.tmp rfl fun _ => rfl) fl38_0 | exact R_fieldAddr_pr rfl (.no rfl) rfl (.tmp rfl fun _ => rfl) fl38_0)) rfl ?_
      refine AWl.put ((by first | exact R_load rfl (.no rfl) rfl (.tmp rfl fun _ => rfl) ty3 rfl rfl | exact R_load_pp rfl (.no rfl) rfl (.tmp rfl fun _ => rfl) rfl ty3 rfl rfl | exact R_load_vw rfl (.no rfl) rfl (.tmp rfl fun _ => rfl) ty3 rfl rfl | exact R_load_pr rfl (.no rfl) rfl (.tmp rfl fun _ => rfl) rfl (map_get hx) ty3 rfl rfl)) rfl ?_
      refine AWl.put (R_add rfl (.no rfl) rfl (.tmp rfl fun _ => rfl) (.const rfl) (fun _ => by omega)) rfl ?_
      refine AWl.put ((by first | exact R_fieldAddr rfl (.no rfl) rfl (.tmp rfl fun _ => rfl) fl38_1 | exact R_fieldAddr_pp rfl (.no rfl) rfl (.tmp rfl fun _ => rfl) fl38_1 | exact R_fieldAddr_vw rfl (.no rfl) rfl (.tmp rfl fun _ => rfl) fl38_1 | exact R_fieldAddr_pr rfl (.no rfl) rfl (.tmp rfl fun _ => rfl) fl38_1)) rfl ?_
      refine AWl.put ((by first | exact R_load rfl (.no rfl) rfl (.tmp rfl fun _ => rfl) ty3 rfl rfl | exact R_load_pp rfl (.no rfl) rfl (.tmp rfl fun _ => rfl) rfl ty3 rfl rfl | exact R_load_vw rfl (.no rfl) rfl (.tmp rfl fun _ => rfl) ty3 rfl rfl | exact R_load_pr rfl (.no rfl) rfl (.tmp rfl fun _ => rfl) rfl (map_get hx) ty3 rfl rfl)) rfl ?_
      refine AWl.put (R_add rfl (.no rfl) rfl (.tmp rfl fun _ => rfl) (.const rfl) (fun _ => by omega)) rfl ?_
      refine AWl.put (R_max3 rfl (.no rfl) rfl (.tmp rfl fun _ => rfl) (.tmp rfl fun _ => rfl) (.tmp rfl fun _ => rfl)) rfl ?_
      refine AWl.put ((by first | exact R_fieldAddr rfl (.no rfl) rfl (.tmp rfl fun _ => rfl) fl24_0 | exact R_fieldAddr_pp rfl (.no rfl) rfl (.tmp rfl fun _ => rfl) fl24_0 | exact R_fieldAddr_vw rfl (.no rfl) rfl (.tmp rfl fun _ => rfl) fl24_0 | exact R_fieldAddr_pr rfl (.no rfl) rfl (.tmp rfl fun _ => rfl) fl24_0)) rfl ?_
      refine AWl.chgb (R_store_pb rfl rfl rfl (.tmp rfl fun _ => rfl) (.tmp rfl fun _ => rfl) rfl ty3 rfl rfl rfl (by kernel_rfl) rfl) ?_
      refine AWl.nil ?_
      refine AW.le (σ' := ⟨_, [(0, _), (2, _), (3, _), (4, _), (6, _), (7, _), (8, _), (10, _), (11, _), (13, _), (19, _), (20, _), (21, _)], [(2, _), (4, _), (20001, _), (20002, _), (13, _), (5200, _)]⟩) (Le.sub0 rfl ⟨rfl, rfl, rfl, rfl, rfl, rfl, rfl, rfl, rfl, rfl, rfl, rfl, rfl, trivial⟩ ⟨rfl, rfl, rfl, rfl, rfl, rfl, trivial⟩) ?_
      refine AW.region ?_
      refine AWl.put ((by first | exact R_fieldAddr rfl (.no rfl) rfl (.tmp rfl fun _ => rfl) fl24_1 | exact R_fieldAddr_pp rfl (.no rfl) rfl (.tmp rfl fun _ => rfl) fl24_1 | exact R_fieldAddr_vw rfl (.no rfl) rfl (.tmp rfl fun _ => rfl) fl24_1 | exact R_fieldAddr_pr rfl (.no rfl) rfl (.tmp rfl fun _ => rfl) fl24_1)) rfl ?_
      refine AWl.put ((by first | exact R_load rfl (.no rfl) rfl (.tmp rfl fun _ => rfl) ty22 rfl rfl | exact R_load_pp rfl (.no rfl) rfl (.tmp rfl fun _ => rfl) rfl ty22 rfl rfl | exact R_load_vw rfl (.no rfl) rfl (.tmp rfl fun _ => rfl) ty22 rfl rfl | exact R_load_pr rfl (.no rfl) rfl (.tmp rfl fun _ => rfl) rfl (map_get hx) ty22 rfl rfl)) rfl ?_
      refine AWl.put ((by first | exact R_load rfl (.no rfl) rfl (.tmp rfl fun _ => rfl) ty38 rfl rfl | exact R_load_pp rfl (.no rfl) rfl (.tmp rfl fun _ => rfl) rfl ty38 rfl rfl | exact R_load_vw rfl (.no rfl) rfl (.tmp rfl fun _ => rfl) ty38 rfl rfl | exact R_load_pr rfl (.no rfl) rfl (.tmp rfl fun _ => rfl) rfl (map_get hx) ty38 rfl rfl)) rfl ?_
      refine AWl.absadd (R_list (xs := [.tmp 68]) 69 rfl rfl rfl (.cons (.tmp rfl fun _ => rfl) rfl rfl .nil) Tryz.underlying22 in38 rfl rfl rfl rfl) rfl ?_
      refine AWl.abschgput (R_append_own rfl rfl rfl (.tmp rfl fun _ => rfl) rfl (.tmp rfl fun _ => rfl) rfl rfl Tryz.underlying22 in38 rfl (by first | omega | (simp [chunk]; omega) | (simp only [List.length_map, List.length_append, List.length_cons, List.length_nil, chunk]; omega)) (by first | omega | (unfold maxLen; omega) | (unfold maxLen; simp [chunk]; omega) | (unfold maxLen; simp only [List.length_map, List.length_append, List.length_cons, List.length_nil, chunk]; omega))) rfl ?_
      refine AWl.le (σ' := ⟨_, [(0, _), (2, _), (3, _), (4, _), (6, _), (7, _), (8, _), (10, _), (11, _), (13, _), (19, _), (20, _), (21, _), (70, _)], [(2, _), (4, _), (20001, _), (20002, _), (13, _)]⟩) (Le.sub0 rfl ⟨rfl, rfl, rfl, rfl, rfl, rfl, rfl, rfl, rfl, rfl, rfl, rfl, rfl, rfl, trivial⟩ ⟨rfl, rfl, rfl, rfl, rfl, trivial⟩) ?_
      refine AWl.put ((by first | exact R_fieldAddr rfl (.no rfl) rfl (.tmp rfl fun _ => rfl) fl24_1 | exact R_fieldAddr_pp rfl (.no rfl) rfl (.tmp rfl fun _ => rfl) fl24_1 | exact R_fieldAddr_vw rfl (.no rfl) rfl (.tmp rfl fun _ => rfl) fl24_1 | exact R_fieldAddr_pr rfl (.no rfl) rfl (.tmp rfl fun _ => rfl) fl24_1)) rfl ?_
      refine AWl.chgb (R_store_pb rfl rfl rfl (.tmp rfl fun _ => rfl) (.tmp rfl fun _ => rfl) rfl ty22 rfl rfl rfl (by kernel_rfl) rfl) ?_
      refine AWl.nil ?_
      refine AW.region ?_
      refine AWl.put (R_add rfl (.no rfl) rfl (.tmp rfl fun _ => rfl) (.const rfl) (fun _ => by omega)) rfl ?_
      refine AWl.put (R_move rfl (.no rfl) rfl (.tmp rfl fun _ => rfl)) rfl ?_
      refine AWl.nil ?_
      repeat (with_reducible refine BlockQ.nor ?_)
      refine Round1.next (k + 1) ⟨by omega, trivial⟩ (by omega) (Le.sub0 rfl ⟨rfl, rfl, rfl, rfl, rfl, rfl, rfl, trivial⟩ ⟨(by first | rfl | (refine congrArg (fun r => some (R.row _ r)) ?_; simp [chunk, List.map_set, cInt, cBool, cIntS, cPair, cToken, cExpr, cEdge, cGraph, cStep, cWalk, cChange, cBatch, cHistory, cPositions, cAutomaton, cProductStep, cPathAtom, cConjunction, cView, cDelta, cRegistered, cRegistry])), (by rw [vcOf_at hx]; rfl), (by refine congrArg (fun r => some (R.row 3 r)) ?_; rw [take_at hx]; simp [chunk, cPathAtom, atmI]; done), trivial⟩)
    · skip
      try simp at h22
      refine AW.exit ?_
      refine AW.seq ?_
      refine AW.seq ?_
      refine AW.le (σ' := ⟨_, [(0, _), (2, _), (3, _), (4, _), (19, _), (20, _), (21, _)], [(2, _), (4, .box [.t (.v (.int .i64 (vcOf ((splitL 59 l).map atmI)))), .rf 20001]), (20001, .row 3 (((splitL 59 l).map atmI).map cPathAtom))]⟩) (Le.sub0 rfl ⟨rfl, rfl, rfl, rfl, rfl, rfl, rfl, trivial⟩ ⟨rfl, by rw [List.take_of_length_le (l := splitL 59 l) (by omega)]; rfl, by rw [List.take_of_length_le (l := splitL 59 l) (by omega)]; rfl, trivial⟩) ?_
      refine AW.region ?_
      refine AWl.put ((by first | exact R_fieldAddr rfl (.no rfl) rfl (.tmp rfl fun _ => rfl) fl24_0 | exact R_fieldAddr_pp rfl (.no rfl) rfl (.tmp rfl fun _ => rfl) fl24_0 | exact R_fieldAddr_vw rfl (.no rfl) rfl (.tmp rfl fun _ => rfl) fl24_0 | exact R_fieldAddr_pr rfl (.no rfl) rfl (.tmp rfl fun _ => rfl) fl24_0)) rfl ?_
      refine AWl.put ((by first | exact R_load rfl (.no rfl) rfl (.tmp rfl fun _ => rfl) ty3 rfl rfl | exact R_load_pp rfl (.no rfl) rfl (.tmp rfl fun _ => rfl) rfl ty3 rfl rfl | exact R_load_vw rfl (.no rfl) rfl (.tmp rfl fun _ => rfl) ty3 rfl rfl | exact R_load_pr rfl (.no rfl) rfl (.tmp rfl fun _ => rfl) rfl (map_get hx) ty3 rfl rfl)) rfl ?_
      refine AWl.put (R_gt rfl (.no rfl) rfl (.tmp rfl fun _ => rfl) (.const rfl)) rfl ?_
      refine AWl.put (R_move rfl (.no rfl) rfl (.tmp rfl fun _ => rfl)) rfl ?_
      refine AWl.put ((by first | exact R_load rfl (by first | exact .not1 rfl rfl rfl rfl | exact .not rfl rfl rfl rfl) rfl (.tmp rfl (by first | exact fun _ => rfl | exact id | simp)) ty24 rfl rfl | exact R_load_pp rfl (by first | exact .not1 rfl rfl rfl rfl | exact .not rfl rfl rfl rfl) rfl (.tmp rfl (by first | exact fun _ => rfl | exact id | simp)) rfl ty24 rfl rfl | exact R_load_vw rfl (by first | exact .not1 rfl rfl rfl rfl | exact .not rfl rfl rfl rfl) rfl (.tmp rfl (by first | exact fun _ => rfl | exact id | simp)) ty24 rfl rfl | exact R_load_pr rfl (by first | exact .not1 rfl rfl rfl rfl | exact .not rfl rfl rfl rfl) rfl (.tmp rfl (by first | exact fun _ => rfl | exact id | simp)) rfl (map_get hx) ty24 rfl rfl)) rfl ?_
      refine AWl.put (R_callz (FnT.fr (implFormatConjunction (cjOf ((splitL 59 l).map atmI)))) rfl (by first | exact .not1 rfl rfl rfl rfl | exact .not rfl rfl rfl rfl) rfl (.cons (.tmp rfl (by first | exact fun _ => rfl | exact id | simp)) rfl .nil)) rfl ?_
      refine AWl.put (R_move rfl (by first | exact .not1 rfl rfl rfl rfl | exact .not rfl rfl rfl rfl) rfl (.tmp rfl (by first | exact fun _ => rfl | exact id | simp))) rfl ?_
      refine AWl.put (R_nestr rfl (by first | exact .not1 rfl rfl rfl rfl | exact .not rfl rfl rfl rfl) rfl (.tmp rfl (by first | exact fun _ => rfl | exact id | simp)) (.tmp rfl (by first | exact fun _ => rfl | exact id | simp))) rfl ?_
      refine AWl.put (R_or rfl (.no rfl) rfl (.tmp rfl fun _ => rfl) (.tmp rfl (by first | exact fun _ => rfl | exact id | simp))) rfl ?_
      refine AWl.nil ?_
      refine AW.cond (.tmp rfl fun _ => rfl) (fun h81 => ?_) (fun h81 => ?_)
      · skip
        try simp at h81
        refine AW.seq ?_
        refine AW.le (σ' := ⟨_, [(0, _), (2, _), (3, _), (4, _), (19, _), (20, _), (21, _)], [(2, _), (4, _), (20001, _)]⟩) (Le.sub0 rfl ⟨rfl, rfl, rfl, rfl, rfl, rfl, rfl, trivial⟩ ⟨rfl, rfl, rfl, trivial⟩) ?_
        refine AW.region ?_
        refine AWl.put (R_build (ps := []) rfl rfl rfl in24 rfl rfl st24 .nil rfl) rfl ?_
        refine AWl.nilA (i := 82) 20003 3 1 rfl rfl rfl ?_
        refine AWl.chgb (R_store_pb rfl rfl rfl (.tmp rfl fun _ => rfl) (.tmp rfl fun _ => rfl) rfl ty24 rfl rfl rfl (by kernel_rfl) rfl) ?_
        refine AWl.le (σ' := ⟨_, [(0, _), (2, _), (3, _), (4, _), (19, _), (20, _), (21, _)], [(2, _), (4, _), (20001, _), (20003, _)]⟩) (Le.sub0 rfl ⟨rfl, rfl, rfl, rfl, rfl, rfl, rfl, trivial⟩ ⟨rfl, rfl, rfl, rfl, trivial⟩) ?_
        refine AWl.put (R_assign rfl (.no rfl) rfl (.const rfl)) rfl ?_
        refine AWl.nil ?_
        refine AW.ret ?_
        refine Res.many rfl (.cell rfl rfl ty24 rfl rfl (.tmp rfl .nil)) rfl ?_ (by simp)
        rw [parseC_impl hne, if_pos (h81.imp id fun h e => h (by rw [e]))]; rfl
      · skip
        try simp at h81
        refine AW.skip ?_
        refine AW.seq ?_
        refine AW.le (σ' := ⟨_, [(0, _), (2, _), (3, _), (4, _), (19, _), (20, _), (21, _)], [(2, _), (4, _), (20001, _)]⟩) (Le.sub0 rfl ⟨rfl, rfl, rfl, rfl, rfl, rfl, rfl, trivial⟩ ⟨rfl, rfl, rfl, trivial⟩) ?_
        refine AW.region ?_
        refine AWl.put ((by first | exact R_load rfl (.no rfl) rfl (.tmp rfl fun _ => rfl) ty24 rfl rfl | exact R_load_pp rfl (.no rfl) rfl (.tmp rfl fun _ => rfl) rfl ty24 rfl rfl | exact R_load_vw rfl (.no rfl) rfl (.tmp rfl fun _ => rfl) ty24 rfl rfl | exact R_load_pr rfl (.no rfl) rfl (.tmp rfl fun _ => rfl) rfl (map_get hx) ty24 rfl rfl)) rfl ?_
        refine AWl.chgb (R_store_pb rfl rfl rfl (.tmp rfl fun _ => rfl) (.tmp rfl fun _ => rfl) rfl ty24 rfl rfl rfl (by kernel_rfl) rfl) ?_
        refine AWl.le (σ' := ⟨_, [(0, _), (2, _), (3, _), (4, _), (19, _), (20, _), (21, _)], [(2, _), (4, _), (20001, _)]⟩) (Le.sub0 rfl ⟨rfl, rfl, rfl, rfl, rfl, rfl, rfl, trivial⟩ ⟨rfl, rfl, rfl, trivial⟩) ?_
        refine AWl.put (R_assign rfl (.no rfl) rfl (.const rfl)) rfl ?_
        refine AWl.nil ?_
        refine AW.ret ?_
        refine Res.many rfl (.cell rfl rfl ty24 rfl rfl (.tmp rfl .nil)) rfl ?_ (by simp)
        rw [parseC_impl hne, if_neg (fun hh => hh.elim (fun h => by omega) fun h => h (bs_inj h81.2))]; rfl
theorem implParseConjunction (s : ByteArray) (hz : s.size ≤ 1048576) : FnT Tryz.prog 5 [.one (.v (.string s))] (.tup [.agg (cConjunction (parseC s.data.toList).1), .one (.v (.bool (parseC s.data.toList).2))]) := by
  have := implParseConjunctionL s.data.toList (by rw [← bs_size, bs_of]; omega)
  rw [bs_of] at this; exact this
theorem specParseConjunctionL (l : List UInt8) (hz : l.length ≤ 1073741824) : FnT Tryz.prog 4 [.one (.v (.string (bs l)))] (.tup [.agg (cConjunction (parseC l).1), .one (.v (.bool (parseC l).2))]) := by
  refine FnT.walk Tryz.func4 rfl (by kernel_rfl) Tryz.ntmps4 rfl fun hlen w0 => ?_
  try simp [cPair, cToken, cExpr, cEdge, cGraph, cStep, cWalk, cChange, cBatch, cHistory, cPositions, cAutomaton, cProductStep, cPathAtom, cConjunction, cView, cDelta, cRegistered, cRegistry] at hlen
  have hsz := bs_size l
  have hcl := splitL_len 59 l
  have hcl2 := List.count_le_length (a := 59) (l := l)
  refine AW.seq ?_
  refine AW.region ?_
  refine AWl.add (R_alloc 2 rfl rfl rfl in24 rfl rfl rfl) rfl ?_
  refine AWl.put (R_assign rfl (.no rfl) rfl (.const rfl)) rfl ?_
  refine AWl.nil ?_
  refine AW.seq ?_
  refine AW.region ?_
  refine AWl.put (R_build (ps := []) rfl rfl rfl in24 rfl rfl st24 .nil rfl) rfl ?_
  refine AWl.nilA (i := 10) 20001 3 1 rfl rfl rfl ?_
  refine AWl.add (R_alloc 4 rfl rfl rfl in24 rfl rfl rfl) rfl ?_
  refine AWl.chgb (R_store_pb rfl rfl rfl (.tmp rfl fun _ => rfl) (.tmp rfl fun _ => rfl) rfl ty24 rfl rfl rfl (by kernel_rfl) rfl) ?_
  refine AWl.nil ?_
  refine AW.seq ?_
  refine AW.region ?_
  refine AWl.put (R_move rfl (.no rfl) rfl (.tmp rfl fun _ => rfl)) rfl ?_
  refine AWl.put (R_callz (FnT.fr (specl2Cut l 59 hz)) rfl (.no rfl) rfl (.cons (.tmp rfl fun _ => rfl) rfl (.cons (.const rfl) rfl .nil))) rfl ?_
  refine AWl.put (R_assign rfl (.no rfl) rfl (.tmp rfl fun _ => rfl)) rfl ?_
  refine AWl.nil ?_
  refine AW.seq ?_
  refine AW.seq ?_
  refine AW.region ?_
  refine AWl.put (R_assign rfl (.no rfl) rfl (.const rfl)) rfl ?_
  refine AWl.nil ?_
  refine AW.block ?_
  refine AW.loop1 (fun (k : Nat) => (k ≤ (splitL 59 l).length ∧ k ≤ 5) ∧ True) (fun (k : Nat) => ⟨_, [(6, (true, .a (.one (.t (.v (.int .i64 (k : Nat))))))), (0, _), (2, _), (4, _), (5, _)], [(2, .box [.t (.v (.int .i64 0)), .t (.v (.slice none 0 0))]), (4, .box [.t (.v (.int .i64 (vcOf (((splitL 59 l).take k).map atmS)))), .rf 20001]), (20001, .row 3 ((((splitL 59 l).take k).map atmS).map cPathAtom))]⟩) (fun (k : Nat) => (splitL 59 l).length - k) (0) ⟨⟨Nat.zero_le _, by omega⟩, trivial⟩ (Le.sub0 rfl ⟨rfl, rfl, rfl, rfl, rfl, trivial⟩ ⟨rfl, rfl, rfl, trivial⟩) ?_
  rintro k ⟨hk, he⟩
  refine AW.seq ?_
  refine AW.seq ?_
  refine AW.region ?_
  refine AWl.put (R_move rfl (.no rfl) rfl (.tmp rfl fun _ => rfl)) rfl ?_
  refine AWl.put (R_move rfl (.no rfl) rfl (.tmp rfl fun _ => rfl)) rfl ?_
  refine AWl.put ((by first | exact R_lenm rfl (.no rfl) rfl (.tmp rfl fun _ => rfl) (by first | exact .t | exact .rf rfl | exact .vw | exact .nil) Tryz.underlying30 | exact R_len rfl (.no rfl) rfl (.tmp rfl fun _ => rfl) (by first | exact .t | exact .rf rfl | exact .vw | exact .nil) Tryz.underlying30)) rfl ?_
  refine AWl.put (R_lt rfl (.no rfl) rfl (.tmp rfl fun _ => rfl) (.tmp rfl fun _ => rfl)) rfl ?_
  refine AWl.put (R_move rfl (.no rfl) rfl (.tmp rfl fun _ => rfl)) rfl ?_
  refine AWl.put (R_move rfl (by first | exact .yes1 rfl rfl rfl rfl | exact .yes rfl rfl rfl rfl) rfl (.tmp rfl (by first | exact fun _ => rfl | exact id | simp))) rfl ?_
  refine AWl.put (R_le rfl (by first | exact .yes1 rfl rfl rfl rfl | exact .yes rfl rfl rfl rfl) rfl (.tmp rfl (by first | exact fun _ => rfl | exact id | simp)) (.const rfl)) rfl ?_
  refine AWl.put (R_and rfl (.no rfl) rfl (.tmp rfl fun _ => rfl) (.tmp rfl (by first | exact fun _ => rfl | exact id | simp))) rfl ?_
  refine AWl.nil ?_
  refine AW.cond (.tmp rfl fun _ => rfl) (fun h20 => ?_) (fun h20 => ?_)
  · skip
    try simp at h20
    obtain ⟨x, hx⟩ : ∃ ξ, (splitL 59 l)[k]? = some ξ := ⟨_, List.getElem?_eq_getElem (by omega)⟩
    have hxl := (splitL_mem (c := 59) (l := l) (x := x) (List.mem_of_getElem? hx)).2
    have hxs := bs_size x
    refine AW.skip ?_
    refine AW.seq ?_
    refine AW.block ?_
    refine AW.seq ?_
    refine AW.seq ?_
    refine AW.le (σ' := ⟨_, [(0, _), (2, _), (4, _), (5, _), (6, _)], [(2, _), (4, _), (20001, _)]⟩) (Le.sub0 rfl ⟨rfl, rfl, rfl, rfl, rfl, trivial⟩ ⟨rfl, rfl, rfl, trivial⟩) ?_
    refine AW.region ?_
    refine AWl.put (R_move rfl (.no rfl) rfl (.tmp rfl fun _ => rfl)) rfl ?_
    refine AWl.put (R_move rfl (.no rfl) rfl (.tmp rfl fun _ => rfl)) rfl ?_
    refine AWl.put ((by first | exact R_indexAddr rfl (.no rfl) rfl (.tmp rfl fun _ => rfl) (.tmp rfl fun _ => rfl) Tryz.underlying30 ty9 (fun _ => ⟨by omega, (map_get hx)⟩) | exact R_indexAddr_vw rfl (.no rfl) rfl (.tmp rfl fun _ => rfl) (.tmp rfl fun _ => rfl) Tryz.underlying30 ty9 (fun _ => ⟨by omega, (map_get hx)⟩) | exact R_indexAddr_rf rfl (.no rfl) rfl (.tmp rfl fun _ => rfl) rfl (.tmp rfl fun _ => rfl) Tryz.underlying30 ty9 (fun _ => ⟨by omega, (map_get hx)⟩))) rfl ?_
    refine AWl.put ((by first | exact R_load rfl (.no rfl) rfl (.tmp rfl fun _ => rfl) ty9 rfl rfl | exact R_load_pp rfl (.no rfl) rfl (.tmp rfl fun _ => rfl) rfl ty9 rfl rfl | exact R_load_vw rfl (.no rfl) rfl (.tmp rfl fun _ => rfl) ty9 rfl rfl | exact R_load_pr rfl (.no rfl) rfl (.tmp rfl fun _ => rfl) rfl (map_get hx) ty9 rfl rfl)) rfl ?_
    refine AWl.put (R_len_s rfl (.no rfl) rfl (.tmp rfl fun _ => rfl) Tryz.underlying9) rfl ?_
    refine AWl.put (R_lt rfl (.no rfl) rfl (.tmp rfl fun _ => rfl) (.const rfl)) rfl ?_
    refine AWl.nil ?_
    refine AW.cond (.tmp rfl fun _ => rfl) (fun h28 => ?_) (fun h28 => ?_)
    · skip
      try simp at h28
      refine AW.seq ?_
      refine AW.le (σ' := ⟨_, [(0, _), (2, _), (4, _), (5, _), (6, _)], [(2, _), (4, _), (20001, _)]⟩) (Le.sub0 rfl ⟨rfl, rfl, rfl, rfl, rfl, trivial⟩ ⟨rfl, rfl, rfl, trivial⟩) ?_
      refine AW.region ?_
      refine AWl.put (R_build (ps := []) rfl rfl rfl in24 rfl rfl st24 .nil rfl) rfl ?_
      refine AWl.nilA (i := 29) 20002 3 1 rfl rfl rfl ?_
      refine AWl.chgb (R_store_pb rfl rfl rfl (.tmp rfl fun _ => rfl) (.tmp rfl fun _ => rfl) rfl ty24 rfl rfl rfl (by kernel_rfl) rfl) ?_
      refine AWl.le (σ' := ⟨_, [(0, _), (2, _), (4, _), (5, _), (6, _)], [(2, _), (4, _), (20001, _), (20002, _)]⟩) (Le.sub0 rfl ⟨rfl, rfl, rfl, rfl, rfl, trivial⟩ ⟨rfl, rfl, rfl, rfl, trivial⟩) ?_
      refine AWl.put (R_assign rfl (.no rfl) rfl (.const rfl)) rfl ?_
      refine AWl.nil ?_
      refine AW.ret ?_
      refine Res.many rfl (.cell rfl rfl ty24 rfl rfl (.tmp rfl .nil)) rfl ?_ (by simp)
      rw [parseC_short hx (by first | omega | (simp at h28; omega))]; rfl
    · skip
      try simp at h28
      obtain ⟨b0, hb0⟩ : ∃ b, x[0]? = some b := ⟨_, List.getElem?_eq_getElem (by first | omega | (simp at h28; omega))⟩
      obtain ⟨b2, hb2⟩ : ∃ b, x[2]? = some b := ⟨_, List.getElem?_eq_getElem (by first | omega | (simp at h28; omega))⟩
      have hb0r : b0.toNat < 256 := b0.toNat_lt
      have hb2r : b2.toNat < 256 := b2.toNat_lt
      have hpe : FnT Tryz.prog 10 [.one (.v (.string ((bs x).extract 4 (bs x).size)))] (.tup [.agg (cExpr (parseX (x.drop 4)).1), .one (.v (.bool (parseX (x.drop 4)).2))]) := by (rw [ext4b]; exact specParseExpr (x.drop 4) (by rw [List.length_drop]; omega))
      refine AW.skip ?_
      refine AW.seq ?_
      refine AW.le (σ' := ⟨_, [(0, _), (2, _), (4, _), (5, _), (6, _)], [(2, _), (4, _), (20001, _)]⟩) (Le.sub0 rfl ⟨rfl, rfl, rfl, rfl, rfl, trivial⟩ ⟨rfl, rfl, rfl, trivial⟩) ?_
      refine AW.region ?_
      refine AWl.put (R_move rfl (.no rfl) rfl (.tmp rfl fun _ => rfl)) rfl ?_
      refine AWl.put (R_move rfl (.no rfl) rfl (.tmp rfl fun _ => rfl)) rfl ?_
      refine AWl.put ((by first | exact R_indexAddr rfl (.no rfl) rfl (.tmp rfl fun _ => rfl) (.tmp rfl fun _ => rfl) Tryz.underlying30 ty9 (fun _ => ⟨by omega, (map_get hx)⟩) | exact R_indexAddr_vw rfl (.no rfl) rfl (.tmp rfl fun _ => rfl) (.tmp rfl fun _ => rfl) Tryz.underlying30 ty9 (fun _ => ⟨by omega, (map_get hx)⟩) | exact R_indexAddr_rf rfl (.no rfl) rfl (.tmp rfl fun _ => rfl) rfl (.tmp rfl fun _ => rfl) Tryz.underlying30 ty9 (fun _ => ⟨by omega, (map_get hx)⟩))) rfl ?_
      refine AWl.put ((by first | exact R_load rfl (.no rfl) rfl (.tmp rfl fun _ => rfl) ty9 rfl rfl | exact R_load_pp rfl (.no rfl) rfl (.tmp rfl fun _ => rfl) rfl ty9 rfl rfl | exact R_load_vw rfl (.no rfl) rfl (.tmp rfl fun _ => rfl) ty9 rfl rfl | exact R_load_pr rfl (.no rfl) rfl (.tmp rfl fun _ => rfl) rfl (map_get hx) ty9 rfl rfl)) rfl ?_
      refine AWl.put (R_strSlice (n := 4) rfl (.no rfl) rfl (.tmp rfl fun _ => rfl) (.yes (.const rfl) (fun _ => by first | omega | (simp <;> omega))) .no Tryz.underlying9 (fun _ => ⟨by omega, by first | omega | (simp; omega)⟩)) rfl ?_
      refine AWl.adds (R_call 3600 (hpe) rfl rfl rfl (.cons (.tmp rfl fun _ => rfl) rfl .nil) rfl rfl) rfl ?_
      refine AWl.put (R_movet rfl (.no rfl) rfl rfl fun _ => rfl) rfl ?_
      refine AWl.put (R_extract rfl (.no rfl) rfl rfl (fun _ => rfl) rfl) rfl ?_
      refine AWl.put (R_extract rfl (.no rfl) rfl rfl (fun _ => rfl) rfl) rfl ?_
      refine AWl.add (R_alloc 7 rfl rfl rfl in34 rfl rfl rfl) rfl ?_
      refine AWl.chgb (R_store_pb rfl rfl rfl (.tmp rfl fun _ => rfl) (.tmp rfl fun _ => rfl) rfl ty34 rfl rfl rfl (by kernel_rfl) rfl) ?_
      refine AWl.le (σ' := ⟨_, [(0, _), (2, _), (4, _), (5, _), (6, _), (7, _), (38, _)], [(2, _), (4, _), (20001, _), (3600, _), (7, _)]⟩) (Le.sub0 rfl ⟨rfl, rfl, rfl, rfl, rfl, rfl, rfl, trivial⟩ ⟨rfl, rfl, rfl, rfl, rfl, trivial⟩) ?_
      refine AWl.put (R_assign rfl (.no rfl) rfl (.tmp rfl fun _ => rfl)) rfl ?_
      refine AWl.nil ?_
      refine AW.seq ?_
      refine AW.le (σ' := ⟨_, [(0, _), (2, _), (4, _), (5, _), (6, _), (7, _), (8, _), (38, _)], [(2, _), (4, _), (20001, _), (3600, _), (7, _)]⟩) (Le.sub0 rfl ⟨rfl, rfl, rfl, rfl, rfl, rfl, rfl, rfl, trivial⟩ ⟨rfl, rfl, rfl, rfl, rfl, trivial⟩) ?_
      refine AW.mixn 18 17 1 [0, 1, 2, 3, 4, 5, 6, 7, 8, 9, 10, 11, 12, 13, 14, 15, 16] [] [[], [], [0, 1], [0, 1, 2], [0, 1, 2, 3], [0, 1, 2, 3, 4], [0, 1, 2, 3, 4, 5], [], [], [7, 8], [7, 8, 9], [7, 8, 9, 10], [7, 8, 9, 10, 11], [7, 8, 9, 10, 11, 12], [], [0, 1, 2, 3, 4, 5, 6, 7, 8, 9, 10, 11, 12, 13, 14], [], [0, 1, 2, 3, 4, 5, 6, 7, 8, 9, 10, 11, 12, 13, 14, 15, 16]] [[0, 1, 2, 3, 4, 5, 6, 7, 8, 9, 10, 11, 12, 13, 14, 15, 16], [0, 1, 2, 3, 4, 5, 6, 7, 8, 9, 10, 11, 12, 13, 14, 15, 16, 17]] [(0, 17, 1)] [(0, [0, 1, 2, 3, 4, 5, 6, 7, 8, 9, 10, 11, 12, 13, 14, 15, 16])] (by kernel_rfl) (by kernel_rfl) (by kernel_rfl) (by kernel_rfl) rfl rfl ?_
      refine DrawG.step rfl rfl (Loc.of rfl fun σ' hs => R_move rfl (.no rfl) (hd_sup hs rfl) (.tmp (hs.slots _ _ rfl) fun _ => rfl)) ?_
      refine DrawG.step rfl rfl (Loc.of rfl fun σ' hs => R_move rfl (.no rfl) (hd_sup hs rfl) (.tmp (hs.slots _ _ rfl) fun _ => rfl)) ?_
      refine DrawG.step rfl rfl (Loc.of rfl fun σ' hs => (by first | exact R_indexAddr rfl (.no rfl) (hd_sup hs rfl) (.tmp (hs.slots _ _ rfl) fun _ => rfl) (.tmp (hs.slots _ _ rfl) fun _ => rfl) Tryz.underlying30 ty9 (fun _ => ⟨by omega, (map_get hx)⟩) | exact R_indexAddr_vw rfl (.no rfl) (hd_sup hs rfl) (.tmp (hs.slots _ _ rfl) fun _ => rfl) (.tmp (hs.slots _ _ rfl) fun _ => rfl) Tryz.underlying30 ty9 (fun _ => ⟨by omega, (map_get hx)⟩) | exact R_indexAddr_rf rfl (.no rfl) (hd_sup hs rfl) (.tmp (hs.slots _ _ rfl) fun _ => rfl) (hs.res _ _ rfl) (.tmp (hs.slots _ _ rfl) fun _ => rfl) Tryz.underlying30 ty9 (fun _ => ⟨by omega, (map_get hx)⟩))) ?_
      refine DrawG.step rfl rfl (Loc.of rfl fun σ' hs => (by first | exact R_load rfl (.no rfl) (hd_sup hs rfl) (.tmp (hs.slots _ _ rfl) fun _ => rfl) ty9 rfl rfl | exact R_load_pp rfl (.no rfl) (hd_sup hs rfl) (.tmp (hs.slots _ _ rfl) fun _ => rfl) (hs.res _ _ rfl) ty9 rfl rfl | exact R_load_vw rfl (.no rfl) (hd_sup hs rfl) (.tmp (hs.slots _ _ rfl) fun _ => rfl) ty9 rfl rfl | exact R_load_pr rfl (.no rfl) (hd_sup hs rfl) (.tmp (hs.slots _ _ rfl) fun _ => rfl) (hs.res _ _ rfl) (map_get hx) ty9 rfl rfl)) ?_
      refine DrawG.step rfl rfl (Loc.of rfl fun σ' hs => R_strIndex rfl (.no rfl) (hd_sup hs rfl) (.tmp (hs.slots _ _ rfl) fun _ => rfl) (.const rfl) Tryz.underlying9 (fun _ => ⟨by omega, by rw [bs_get]; exact hb0⟩)) ?_
      refine DrawG.step rfl rfl (Loc.of rfl fun σ' hs => R_conv rfl (.no rfl) (hd_sup hs rfl) (.tmp (hs.slots _ _ rfl) fun _ => rfl) (by rw [Tryz.underlying5]; rfl) Tryz.underlying3 (fun _ => (show IntKind.i64.wrap (b0.toNat : Int) = (b0.toNat : Int) from wrapI (by omega)))) ?_
      refine DrawG.step rfl rfl (Loc.of rfl fun σ' hs => R_sub rfl (.no rfl) (hd_sup hs rfl) (.tmp (hs.slots _ _ rfl) fun _ => rfl) (.const rfl) (fun _ => by omega)) ?_
      refine DrawG.step rfl rfl (Loc.of rfl fun σ' hs => R_move rfl (.no rfl) (hd_sup hs rfl) (.tmp (hs.slots _ _ rfl) fun _ => rfl)) ?_
      refine DrawG.step rfl rfl (Loc.of rfl fun σ' hs => R_move rfl (.no rfl) (hd_sup hs rfl) (.tmp (hs.slots _ _ rfl) fun _ => rfl)) ?_
      refine DrawG.step rfl rfl (Loc.of rfl fun σ' hs => (by first | exact R_indexAddr rfl (.no rfl) (hd_sup hs rfl) (.tmp (hs.slots _ _ rfl) fun _ => rfl) (.tmp (hs.slots _ _ rfl) fun _ => rfl) Tryz.underlying30 ty9 (fun _ => ⟨by omega, (map_get hx)⟩) | exact R_indexAddr_vw rfl (.no rfl) (hd_sup hs rfl) (.tmp (hs.slots _ _ rfl) fun _ => rfl) (.tmp (hs.slots _ _ rfl) fun _ => rfl) Tryz.underlying30 ty9 (fun _ => ⟨by omega, (map_get hx)⟩) | exact R_indexAddr_rf rfl (.no rfl) (hd_sup hs rfl) (.tmp (hs.slots _ _ rfl) fun _ => rfl) (hs.res _ _ rfl) (.tmp (hs.slots _ _ rfl) fun _ => rfl) Tryz.underlying30 ty9 (fun _ => ⟨by omega, (map_get hx)⟩))) ?_
      refine DrawG.step rfl rfl (Loc.of rfl fun σ' hs => (by first | exact R_load rfl (.no rfl) (hd_sup hs rfl) (.tmp (hs.slots _ _ rfl) fun _ => rfl) ty9 rfl rfl | exact R_load_pp rfl (.no rfl) (hd_sup hs rfl) (.tmp (hs.slots _ _ rfl) fun _ => rfl) (hs.res _ _ rfl) ty9 rfl rfl | exact R_load_vw rfl (.no rfl) (hd_sup hs rfl) (.tmp (hs.slots _ _ rfl) fun _ => rfl) ty9 rfl rfl | exact R_load_pr rfl (.no rfl) (hd_sup hs rfl) (.tmp (hs.slots _ _ rfl) fun _ => rfl) (hs.res _ _ rfl) (map_get hx) ty9 rfl rfl)) ?_
      refine DrawG.step rfl rfl (Loc.of rfl fun σ' hs => R_strIndex rfl (.no rfl) (hd_sup hs rfl) (.tmp (hs.slots _ _ rfl) fun _ => rfl) (.const rfl) Tryz.underlying9 (fun _ => ⟨by omega, by rw [bs_get]; exact hb2⟩)) ?_
      refine DrawG.step rfl rfl (Loc.of rfl fun σ' hs => R_conv rfl (.no rfl) (hd_sup hs rfl) (.tmp (hs.slots _ _ rfl) fun _ => rfl) (by rw [Tryz.underlying5]; rfl) Tryz.underlying3 (fun _ => (show IntKind.i64.wrap (b2.toNat : Int) = (b2.toNat : Int) from wrapI (by omega)))) ?_
      refine DrawG.step rfl rfl (Loc.of rfl fun σ' hs => R_sub rfl (.no rfl) (hd_sup hs rfl) (.tmp (hs.slots _ _ rfl) fun _ => rfl) (.const rfl) (fun _ => by omega)) ?_
      refine DrawG.step rfl rfl (Loc.of rfl fun σ' hs => (by first | exact R_load rfl (.no rfl) (hd_sup hs rfl) (.tmp (hs.slots _ _ rfl) fun _ => rfl) ty34 rfl rfl | exact R_load_pp rfl (.no rfl) (hd_sup hs rfl) (.tmp (hs.slots _ _ rfl) fun _ => rfl) (hs.res _ _ rfl) ty34 rfl rfl | exact R_load_vw rfl (.no rfl) (hd_sup hs rfl) (.tmp (hs.slots _ _ rfl) fun _ => rfl) ty34 rfl rfl | exact R_load_pr rfl (.no rfl) (hd_sup hs rfl) (.tmp (hs.slots _ _ rfl) fun _ => rfl) (hs.res _ _ rfl) (map_get hx) ty34 rfl rfl)) ?_
      refine DrawG.step rfl rfl (Loc.of rfl fun σ' hs => R_build (ps := [(0, .tmp 45), (1, .tmp 52), (2, .tmp 53)]) rfl rfl (hd_sup hs rfl) in38 rfl rfl st38 (.cons (.tmp (hs.slots _ _ rfl) fun _ => rfl) rfl rfl fp38_0 (.cons (.tmp (hs.slots _ _ rfl) fun _ => rfl) rfl rfl fp38_1 (.cons (.tmp (hs.slots _ _ rfl) fun _ => rfl) rfl rfl fp38_2 .nil))) rfl) ?_
      refine DrawG.step rfl rfl (Loc.of1 rfl fun σ' hs hf => R_alloc 9 rfl rfl (hd_sup hs rfl) in38 rfl rfl hf) ?_
      refine DrawG.fin rfl (FinX.mk rfl rfl ?_)
      refine MixD.add ⟨_, [(0, _), (2, _), (4, _), (5, _), (6, _), (7, _), (9, _), (39, _), (40, _), (41, _), (42, _), (43, _), (44, _), (45, _), (46, _), (47, _), (48, _), (49, _), (50, _), (51, _), (52, _), (53, _), (54, _)], [(2, _), (4, _), (20001, _), (3600, _), (7, _), (9, _)]⟩ rfl (Le.sub0 rfl ⟨rfl, rfl, rfl, rfl, rfl, rfl, rfl, rfl, rfl, rfl, rfl, rfl, rfl, rfl, rfl, rfl, rfl, rfl, rfl, rfl, rfl, rfl, rfl, trivial⟩ ⟨rfl, rfl, rfl, rfl, rfl, rfl, trivial⟩) ?_
      refine MixD.go ?_
      apply Dag.new (i := 17)
      case ha => rfl
      case ho => rfl
      case hb => rfl
      case hE =>
        intro w9
        refine AWl.chgb (R_store_pb rfl rfl rfl (.tmp rfl fun _ => rfl) (.tmp rfl fun _ => rfl) rfl ty38 rfl rfl rfl (by kernel_rfl) rfl) ?_
        refine AWl.nil ?_
        exact Le.sub0 (σ' := ⟨_, [(0, _), (2, _), (4, _), (5, _), (6, _), (7, _), (9, _)], [(2, _), (4, _), (20001, _), (3600, _), (7, _), (9, _)]⟩) rfl ⟨rfl, rfl, rfl, rfl, rfl, rfl, rfl, trivial⟩ ⟨rfl, rfl, rfl, rfl, rfl, rfl, trivial⟩
      refine Dag.fin (k := 1) rfl ?_
      refine AWl.nil ?_
      refine AW.seq ?_
      refine AW.region ?_
      refine AWl.put ((by first | exact R_fieldAddr rfl (.no rfl) rfl (.tmp rfl fun _ => rfl) fl24_1 | exact R_fieldAddr_pp rfl (.no rfl) rfl (.tmp rfl fun _ => rfl) fl24_1 | exact R_fieldAddr_vw rfl (.no rfl) rfl (.tmp rfl fun _ => rfl) fl24_1 | exact R_fieldAddr_pr rfl (.no rfl) rfl (.tmp rfl fun _ => rfl) fl24_1)) rfl ?_
      refine AWl.put ((by first | exact R_load rfl (.no rfl) rfl (.tmp rfl fun _ => rfl) ty22 rfl rfl | exact R_load_pp rfl (.no rfl) rfl (.tmp rfl fun _ => rfl) rfl ty22 rfl rfl | exact R_load_vw rfl (.no rfl) rfl (.tmp rfl fun _ => rfl) ty22 rfl rfl | exact R_load_pr rfl (.no rfl) rfl (.tmp rfl fun _ => rfl) rfl (map_get hx) ty22 rfl rfl)) rfl ?_
      refine AWl.put ((by first | exact R_load rfl (.no rfl) rfl (.tmp rfl fun _ => rfl) ty38 rfl rfl | exact R_load_pp rfl (.no rfl) rfl (.tmp rfl fun _ => rfl) rfl ty38 rfl rfl | exact R_load_vw rfl (.no rfl) rfl (.tmp rfl fun _ => rfl) ty38 rfl rfl | exact R_load_pr rfl (.no rfl) rfl (.tmp rfl fun _ => rfl) rfl (map_get hx) ty38 rfl rfl)) rfl ?_
      refine AWl.absadd (R_list (xs := [.tmp 57]) 58 rfl rfl rfl (.cons (.tmp rfl fun _ => rfl) rfl rfl .nil) Tryz.underlying22 in38 rfl rfl rfl rfl) rfl ?_
      refine AWl.abschgput (R_append_own rfl rfl rfl (.tmp rfl fun _ => rfl) rfl (.tmp rfl fun _ => rfl) rfl rfl Tryz.underlying22 in38 rfl (by first | omega | (simp [chunk]; omega) | (simp only [List.length_map, List.length_append, List.length_cons, List.length_nil, chunk]; omega)) (by first | omega | (unfold maxLen; omega) | (unfold maxLen; simp [chunk]; omega) | (unfold maxLen; simp only [List.length_map, List.length_append, List.length_cons, List.length_nil, chunk]; omega))) rfl ?_
      refine AWl.le (σ' := ⟨_, [(0, _), (2, _), (4, _), (5, _), (6, _), (7, _), (9, _), (59, _)], [(2, _), (4, _), (20001, _), (7, _), (9, _)]⟩) (Le.sub0 rfl ⟨rfl, rfl, rfl, rfl, rfl, rfl, rfl, rfl, trivial⟩ ⟨rfl, rfl, rfl, rfl, rfl, trivial⟩) ?_
      refine AWl.put ((by first | exact R_fieldAddr rfl (.no rfl) rfl (.tmp rfl fun _ => rfl) fl24_1 | exact R_fieldAddr_pp rfl (.no rfl) rfl (.tmp rfl fun _ => rfl) fl24_1 | exact R_fieldAddr_vw rfl (.no rfl) rfl (.tmp rfl fun _ => rfl) fl24_1 | exact R_fieldAddr_pr rfl (.no rfl) rfl (.tmp rfl fun _ => rfl) fl24_1)) rfl ?_
      refine AWl.chgb (R_store_pb rfl rfl rfl (.tmp rfl fun _ => rfl) (.tmp rfl fun _ => rfl) rfl ty22 rfl rfl rfl (by kernel_rfl) rfl) ?_
      refine AWl.nil ?_
      refine AW.region ?_
      refine AWl.put ((by first | exact R_fieldAddr rfl (.no rfl) rfl (.tmp rfl fun _ => rfl) fl24_0 | exact R_fieldAddr_pp rfl (.no rfl) rfl (.tmp rfl fun _ => rfl) fl24_0 | exact R_fieldAddr_vw rfl (.no rfl) rfl (.tmp rfl fun _ => rfl) fl24_0 | exact R_fieldAddr_pr rfl (.no rfl) rfl (.tmp rfl fun _ => rfl) fl24_0)) rfl ?_
      refine AWl.put ((by first | exact R_load rfl (.no rfl) rfl (.tmp rfl fun _ => rfl) ty3 rfl rfl | exact R_load_pp rfl (.no rfl) rfl (.tmp rfl fun _ => rfl) rfl ty3 rfl rfl | exact R_load_vw rfl (.no rfl) rfl (.tmp rfl fun _ => rfl) ty3 rfl rfl | exact R_load_pr rfl (.no rfl) rfl (.tmp rfl fun _ => rfl) rfl (map_get hx) ty3 rfl rfl)) rfl ?_
      refine AWl.put ((by first | exact R_fieldAddr rfl (.no rfl) rfl (.tmp rfl fun _ => rfl) fl38_0 | exact R_fieldAddr_pp rfl (.no rfl) rfl (.tmp rfl fun _ => rfl) fl38_0 | exact R_fieldAddr_vw rfl (.no rfl) rfl (.tmp rfl fun _ => rfl) fl38_0 | exact R_fieldAddr_pr rfl (.no rfl) rfl (.tmp rfl fun _ => rfl) fl38_0)) rfl ?_
      refine AWl.put ((by first | exact R_load rfl (.no rfl) rfl (.tmp rfl fun _ => rfl) ty3 rfl rfl | exact R_load_pp rfl (.no rfl) rfl (.tmp rfl fun _ => rfl) rfl ty3 rfl rfl | exact R_load_vw rfl (.no rfl) rfl (.tmp rfl fun _ => rfl) ty3 rfl rfl | exact R_load_pr rfl (.no rfl) rfl (.tmp rfl fun _ => rfl) rfl (map_get hx) ty3 rfl rfl)) rfl ?_
      refine AWl.put (R_add rfl (.no rfl) rfl (.tmp rfl fun _ => rfl) (.const rfl) (fun _ => by omega)) rfl ?_
      refine AWl.put ((by first | exact R_fieldAddr rfl (.no rfl) rfl (.tmp rfl fun _ => rfl) fl38_1 | exact R_fieldAddr_pp rfl (.no rfl) rfl (.tmp rfl fun _ => rfl) fl38_1 | exact R_fieldAddr_vw rfl (.no rfl) rfl (.tmp rfl fun _ => rfl) fl38_1 | exact R_fieldAddr_pr rfl (.no rfl) rfl (.tmp rfl fun _ => rfl) fl38_1)) rfl ?_
      refine AWl.put ((by first | exact R_load rfl (.no rfl) rfl (.tmp rfl fun _ => rfl) ty3 rfl rfl | exact R_load_pp rfl (.no rfl) rfl (.tmp rfl fun _ => rfl) rfl ty3 rfl rfl | exact R_load_vw rfl (.no rfl) rfl (.tmp rfl fun _ => rfl) ty3 rfl rfl | exact R_load_pr rfl (.no rfl) rfl (.tmp rfl fun _ => rfl) rfl (map_get hx) ty3 rfl rfl)) rfl ?_
      refine AWl.put (R_add rfl (.no rfl) rfl (.tmp rfl fun _ => rfl) (.const rfl) (fun _ => by omega)) rfl ?_
      refine AWl.put (R_max3 rfl (.no rfl) rfl (.tmp rfl fun _ => rfl) (.tmp rfl fun _ => rfl) (.tmp rfl fun _ => rfl)) rfl ?_
      refine AWl.put ((by first | exact R_fieldAddr rfl (.no rfl) rfl (.tmp rfl fun _ => rfl) fl24_0 | exact R_fieldAddr_pp rfl (.no rfl) rfl (.tmp rfl fun _ => rfl) fl24_0 | exact R_fieldAddr_vw rfl (.no rfl) rfl (.tmp rfl fun _ => rfl) fl24_0 | exact R_fieldAddr_pr rfl (.no rfl) rfl (.tmp rfl fun _ => rfl) fl24_0)) rfl ?_
      refine AWl.chgb (R_store_pb rfl rfl rfl (.tmp rfl fun _ => rfl) (.tmp rfl fun _ => rfl) rfl ty3 rfl rfl rfl (by kernel_rfl) rfl) ?_
      refine AWl.nil ?_
      refine AW.le (σ' := ⟨_, [(0, _), (2, _), (4, _), (5, _), (6, _), (7, _), (9, _)], [(2, _), (4, _), (20001, _), (7, _), (9, _)]⟩) (Le.sub0 rfl ⟨rfl, rfl, rfl, rfl, rfl, rfl, rfl, trivial⟩ ⟨rfl, rfl, rfl, rfl, rfl, trivial⟩) ?_
      refine AW.region ?_
      refine AWl.put (R_move rfl (.no rfl) rfl (.tmp rfl fun _ => rfl)) rfl ?_
      refine AWl.put (R_add rfl (.no rfl) rfl (.tmp rfl fun _ => rfl) (.const rfl) (fun _ => by omega)) rfl ?_
      refine AWl.put (R_assign rfl (.no rfl) rfl (.tmp rfl fun _ => rfl)) rfl ?_
      refine AWl.nil ?_
      repeat (with_reducible refine BlockQ.nor ?_)
      refine Round1.next (k + 1) ⟨⟨by omega, by omega⟩, trivial⟩ (by omega) (Le.sub0 rfl ⟨rfl, rfl, rfl, rfl, rfl, trivial⟩ ⟨(by first | rfl | (refine congrArg (fun r => some (R.row _ r)) ?_; simp [chunk, List.map_set, cInt, cBool, cIntS, cPair, cToken, cExpr, cEdge, cGraph, cStep, cWalk, cChange, cBatch, cHistory, cPositions, cAutomaton, cProductStep, cPathAtom, cConjunction, cView, cDelta, cRegistered, cRegistry])), (by rw [vcOf_at hx, atmS_at hb0 hb2]; rfl), (by refine congrArg (fun r => some (R.row 3 r)) ?_; rw [take_at hx]; simp [chunk, cPathAtom, atmS_at hb0 hb2]; done), trivial⟩)
  · skip
    try simp at h20
    refine AW.exit ?_
    refine AW.seq ?_
    refine AW.seq ?_
    refine AW.le (σ' := ⟨_, [(0, _), (2, _), (4, _), (5, _), (6, _)], [(2, _), (4, _), (20001, _)]⟩) (Le.sub0 rfl ⟨rfl, rfl, rfl, rfl, rfl, trivial⟩ ⟨rfl, rfl, rfl, trivial⟩) ?_
    refine AW.region ?_
    refine AWl.put ((by first | exact R_load rfl (.no rfl) rfl (.tmp rfl fun _ => rfl) ty24 rfl rfl | exact R_load_pp rfl (.no rfl) rfl (.tmp rfl fun _ => rfl) rfl ty24 rfl rfl | exact R_load_vw rfl (.no rfl) rfl (.tmp rfl fun _ => rfl) ty24 rfl rfl | exact R_load_pr rfl (.no rfl) rfl (.tmp rfl fun _ => rfl) rfl (map_get hx) ty24 rfl rfl)) rfl ?_
    refine AWl.put (R_callz (FnT.fr (specFormatConjunction (cjOf (((splitL 59 l).take k).map atmS)))) rfl (.no rfl) rfl (.cons (.tmp rfl fun _ => rfl) rfl .nil)) rfl ?_
    refine AWl.put (R_move rfl (.no rfl) rfl (.tmp rfl fun _ => rfl)) rfl ?_
    refine AWl.put (R_nestr rfl (.no rfl) rfl (.tmp rfl fun _ => rfl) (.tmp rfl fun _ => rfl)) rfl ?_
    refine AWl.put (R_move rfl (.no rfl) rfl (.tmp rfl fun _ => rfl)) rfl ?_
    refine AWl.put (R_move rfl (by first | exact .not1 rfl rfl rfl rfl | exact .not rfl rfl rfl rfl) rfl (.tmp rfl (by first | exact fun _ => rfl | exact id | simp))) rfl ?_
    refine AWl.put (R_eqstr rfl (by first | exact .not1 rfl rfl rfl rfl | exact .not rfl rfl rfl rfl) rfl (.tmp rfl (by first | exact fun _ => rfl | exact id | simp)) (.const rfl)) rfl ?_
    refine AWl.put (R_or rfl (.no rfl) rfl (.tmp rfl fun _ => rfl) (.tmp rfl (by first | exact fun _ => rfl | exact id | simp))) rfl ?_
    refine AWl.nil ?_
    refine AW.cond (.tmp rfl fun _ => rfl) (fun h78 => ?_) (fun h78 => ?_)
    · skip
      try simp at h78
      refine AW.seq ?_
      refine AW.le (σ' := ⟨_, [(0, _), (2, _), (4, _), (5, _), (6, _)], [(2, _), (4, _), (20001, _)]⟩) (Le.sub0 rfl ⟨rfl, rfl, rfl, rfl, rfl, trivial⟩ ⟨rfl, rfl, rfl, trivial⟩) ?_
      refine AW.region ?_
      refine AWl.put (R_build (ps := []) rfl rfl rfl in24 rfl rfl st24 .nil rfl) rfl ?_
      refine AWl.nilA (i := 79) 20003 3 1 rfl rfl rfl ?_
      refine AWl.chgb (R_store_pb rfl rfl rfl (.tmp rfl fun _ => rfl) (.tmp rfl fun _ => rfl) rfl ty24 rfl rfl rfl (by kernel_rfl) rfl) ?_
      refine AWl.le (σ' := ⟨_, [(0, _), (2, _), (4, _), (5, _), (6, _)], [(2, _), (4, _), (20001, _), (20003, _)]⟩) (Le.sub0 rfl ⟨rfl, rfl, rfl, rfl, rfl, trivial⟩ ⟨rfl, rfl, rfl, rfl, trivial⟩) ?_
      refine AWl.put (R_assign rfl (.no rfl) rfl (.const rfl)) rfl ?_
      refine AWl.nil ?_
      refine AW.ret ?_
      refine Res.many rfl (.cell rfl rfl ty24 rfl rfl (.tmp rfl .nil)) rfl ?_ (by simp)
      rw [← List.map_take] at h78; rw [parseC_spec (k := k) (by omega), if_pos (h78.imp (fun h e => h (by rw [e])) fun h => bs_inj (m := []) h)]; rfl
    · skip
      try simp at h78
      refine AW.skip ?_
      refine AW.seq ?_
      refine AW.le (σ' := ⟨_, [(0, _), (2, _), (4, _), (5, _), (6, _)], [(2, _), (4, _), (20001, _)]⟩) (Le.sub0 rfl ⟨rfl, rfl, rfl, rfl, rfl, trivial⟩ ⟨rfl, rfl, rfl, trivial⟩) ?_
      refine AW.region ?_
      refine AWl.put ((by first | exact R_load rfl (.no rfl) rfl (.tmp rfl fun _ => rfl) ty24 rfl rfl | exact R_load_pp rfl (.no rfl) rfl (.tmp rfl fun _ => rfl) rfl ty24 rfl rfl | exact R_load_vw rfl (.no rfl) rfl (.tmp rfl fun _ => rfl) ty24 rfl rfl | exact R_load_pr rfl (.no rfl) rfl (.tmp rfl fun _ => rfl) rfl (map_get hx) ty24 rfl rfl)) rfl ?_
      refine AWl.chgb (R_store_pb rfl rfl rfl (.tmp rfl fun _ => rfl) (.tmp rfl fun _ => rfl) rfl ty24 rfl rfl rfl (by kernel_rfl) rfl) ?_
      refine AWl.le (σ' := ⟨_, [(0, _), (2, _), (4, _), (5, _), (6, _)], [(2, _), (4, _), (20001, _)]⟩) (Le.sub0 rfl ⟨rfl, rfl, rfl, rfl, rfl, trivial⟩ ⟨rfl, rfl, rfl, trivial⟩) ?_
      refine AWl.put (R_assign rfl (.no rfl) rfl (.const rfl)) rfl ?_
      refine AWl.nil ?_
      refine AW.ret ?_
      refine Res.many rfl (.cell rfl rfl ty24 rfl rfl (.tmp rfl .nil)) rfl ?_ (by simp)
      rw [← List.map_take] at h78; rw [parseC_spec (k := k) (by omega), if_neg (fun hh => hh.elim (fun h => h (bs_inj h78.1)) fun e => h78.2 (by rw [e]; rfl))]; rfl
theorem specParseConjunction (s : ByteArray) (hz : s.size ≤ 1048576) : FnT Tryz.prog 4 [.one (.v (.string s))] (.tup [.agg (cConjunction (parseC s.data.toList).1), .one (.v (.bool (parseC s.data.toList).2))]) := by
  have := specParseConjunctionL s.data.toList (by rw [← bs_size, bs_of]; omega)
  rw [bs_of] at this; exact this
end Go.Proofs.YtoealglkenhphaaGreatDoor
