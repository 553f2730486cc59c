import Derived.Test.YtbkhopfpejhnlaaGreatDoorB125da
set_option linter.unusedVariables false
set_option linter.unusedSimpArgs false
set_option maxHeartbeats 1000000
set_option maxRecDepth 100000
namespace Go.Q
open Go.RowKit Go.D
end Go.Q
namespace Go.Proofs.YtbkhopfpejhnlaaGreatDoor
open Go.RowKit Go.Q Go.D
set_option maxRecDepth 100000 in
theorem specl1Below (n : Int) : FnD Tryz.prog 74 [.one (.v (.int .i64 n))] (fun x : Int => (n ≤ 0 ∧ x = 0) ∨ (0 ≤ x ∧ x < n)) (fun x => .a (.one (.v (.int .i64 x)))) := by
 refine FnD.walk Tryz.func74 U (by kernel_rfl) Tryz.ntmps74 U (fun g => rfl) fun w0 g => ?_
 refine AW.sr ?_
 refine AWl.ac U U U U U ?_
 refine AWl.nil (AW.seq ?_)
 refine AW.sr ?_
 refine AWl.mv U U U U U ?_
 refine AWl.put (R_le U (.no U) U (.tm U) (.const U)) U ?_
 refine AWl.nil ?_
 refine AW.cond (.tm U) (fun h10 => ?_) (fun h10 => ?_)
 · skip
   try simp at h10
   refine AW.sr ?_
   refine AWl.ac U U U U U ?_
   refine AWl.nil (AW.ret ?_)
   apply DRes.mk (x := 0) rfl
   case h =>
    refine Res.one U (.tmp U .nil) U ?_
    rfl
   case hp => exact .inl ⟨by omega, rfl⟩
 · skip
   try simp at h10
   refine AW.skip ?_
   refine AW.seq ?_
   refine AW.sr ?_
   refine AWl.mv U U U U U ?_
   refine AWl.put (R_le U (.no U) U (.tm U) (.const U)) U ?_
   refine AWl.nil ?_
   refine AW.cond (.tm U) (fun h12 => ?_) (fun h12 => ?_)
   · skip
     try simp at h12
     refine AW.sr ?_
     refine AWl.mv U U U U U ?_
     refine AWl.opE (R_calld 1400 (specl1Byte) U U U (.tm U) U U .nil (fun _ => rfl) (fun _ => rfl)) ?_
     rintro _ ⟨z14, hz14, rfl⟩
     try dsimp only at hz14
     refine AWl.mv U U U U U ?_
     refine AWl.put (R_rem U (.no U) U (.tm U) (.tm U) (fun _ => by omega)) U ?_
     refine AWl.av U U U U U ?_
     refine AWl.nil (AW.ret ?_)
     apply DRes.mk rfl
     case h =>
      refine Res.one U (.tmp U .nil) U ?_
      rfl
     case hp => exact .inr ⟨Int.emod_nonneg _ (by omega), Int.emod_lt_of_pos _ (by omega)⟩
   · skip
     try simp at h12
     refine AW.skip ?_
     refine AW.sr ?_
     refine AWl.mv U U U U U ?_
     refine AWl.opE (R_calld 1800 (specl1Byte) U U U (.tm U) U U .nil (fun _ => rfl) (fun _ => rfl)) ?_
     rintro _ ⟨z18, hz18, rfl⟩
     try dsimp only at hz18
     refine AWl.av U U U U U ?_
     refine AWl.nil (AW.seq ?_)
     refine AW.le (σ' := ⟨_, [(0, _), (1, _), (4, _), (5, _)], [(888888, _)]⟩) (Le.sub0 U ⟨U, U, U, U, trivial⟩ ⟨U, trivial⟩) ?_
     refine AW.region ?_
     refine AWl.mv U U U U U ?_
     refine AWl.opE (R_calld 2000 (specl1Byte) U U U (.tm U) U U .nil (fun _ => rfl) (fun _ => rfl)) ?_
     rintro _ ⟨z20, hz20, rfl⟩
     try dsimp only at hz20
     refine AWl.av U U U U U ?_
     refine AWl.nil (AW.sr ?_)
     refine AWl.mv U U U U U ?_
     refine AWl.opE (R_calld 2200 (specl1Byte) U U U (.tm U) U U .nil (fun _ => rfl) (fun _ => rfl)) ?_
     rintro _ ⟨z22, hz22, rfl⟩
     try dsimp only at hz22
     refine AWl.av U U U U U ?_
     refine AWl.nil (AW.sr ?_)
     refine AWl.mv U U U U U ?_
     refine AWl.opE (R_calld 2400 (specl1Byte) U U U (.tm U) U U .nil (fun _ => rfl) (fun _ => rfl)) ?_
     rintro _ ⟨z24, hz24, rfl⟩
     try dsimp only at hz24
     refine AWl.av U U U U U ?_
     refine AWl.nil (AW.seq ?_)
     refine AW.le (σ' := ⟨_, [(0, _), (1, _), (4, _), (5, _), (6, _), (7, _), (8, _)], [(888888, _)]⟩) (Le.sub0 U ⟨U, U, U, U, U, U, U, trivial⟩ ⟨U, trivial⟩) ?_
     refine AW.region ?_
     refine AWl.mv U U U U U ?_
     refine AWl.put (R_mul U (.no U) U (.tm U) (.const U) (fun _ => by omega)) U ?_
     refine AWl.mv U U U U U ?_
     refine AWl.put (R_mul U (.no U) U (.tm U) (.const U) (fun _ => by omega)) U ?_
     refine AWl.put (R_add U (.no U) U (.tm U) (.tm U) (fun _ => by omega)) U ?_
     refine AWl.mv U U U U U ?_
     refine AWl.put (R_mul U (.no U) U (.tm U) (.const U) (fun _ => by omega)) U ?_
     refine AWl.put (R_add U (.no U) U (.tm U) (.tm U) (fun _ => by omega)) U ?_
     refine AWl.mv U U U U U ?_
     refine AWl.put (R_add U (.no U) U (.tm U) (.tm U) (fun _ => by omega)) U ?_
     refine AWl.mv U U U U U ?_
     refine AWl.put (R_rem U (.no U) U (.tm U) (.tm U) (fun _ => by omega)) U ?_
     refine AWl.av U U U U U ?_
     refine AWl.nil (AW.ret ?_)
     apply DRes.mk rfl
     case h =>
      refine Res.one U (.tmp U .nil) U ?_
      rfl
     case hp => exact .inr ⟨Int.emod_nonneg _ (by omega), Int.emod_lt_of_pos _ (by omega)⟩
set_option maxRecDepth 100000 in
theorem specl1Once (n : Int) : FnD Tryz.prog 48 [.one (.v (.int .i64 n))] (fun _ : Bool => True) (fun x => .a (.one (.v (.bool x)))) := by
 refine FnD.walk Tryz.func48 U (by kernel_rfl) Tryz.ntmps48 U (fun g => rfl) fun w0 g => ?_
 refine AW.sr ?_
 refine AWl.ac U U U U U ?_
 refine AWl.nil (AW.sr ?_)
 refine AWl.mv U U U U U ?_
 refine AWl.mv U U U U U ?_
 refine AWl.opE (R_calld 700 (specl1Below n) U U U (.tm U) U U (.cons (.tm U) U .nil) (fun _ => rfl) (fun _ => rfl)) ?_
 rintro _ ⟨z7, hz7, rfl⟩
 try dsimp only at hz7
 refine AWl.put (R_eq U (.no U) U (.tm U) (.const U)) U ?_
 refine AWl.av U U U U U ?_
 refine AWl.nil (AW.ret ?_)
 apply DRes.mk rfl
 case h =>
  refine Res.one U (.tmp U .nil) U ?_
  rfl
 case hp => exact trivial
set_option maxRecDepth 100000 in
theorem specl1PickInt (l : List Int) (hl : 0 < l.length) : FnD Tryz.prog 57 [.one (.sl 1 (l.map cInt))] (fun x : Int => x ∈ l) (fun x => .a (.one (.v (.int .i64 x)))) := by
 refine FnD.walk Tryz.func57 U (by kernel_rfl) Tryz.ntmps57 U (fun g => rfl) fun w0 g => ?_
 refine AW.sr ?_
 refine AWl.ac U U U U U ?_
 refine AWl.nil (AW.sr ?_)
 refine AWl.mv U U U U U ?_
 refine AWl.mv U U U U U ?_
 refine AWl.mv U U U U U ?_
 refine AWl.put ((by first | exact R_lenm U (.no U) U (.tm U) (by first | exact .t | exact .rf U | exact .vw | exact .nil) Tryz.underlying55 | exact R_len U (.no U) U (.tm U) (by first | exact .t | exact .rf U | exact .vw | exact .nil) Tryz.underlying55)) U ?_
 refine AWl.opE (R_calld 900 (specl1Below _) U U U (.tm U) U U (.cons (.tm U) U .nil) (fun _ => rfl) (fun _ => rfl)) ?_
 rintro _ ⟨z9, hz9, rfl⟩
 try dsimp only at hz9
 refine AWl.put ((by first | exact R_indexAddr U (.no U) U (.tm U) (.tm U) Tryz.underlying55 ty3 (fun _ => ⟨by simp at hz9; omega, map_get (List.getElem?_eq_getElem (i := z9.toNat) (show z9.toNat < l.length by simp at hz9; omega))⟩) | exact R_indexAddr_vw U (.no U) U (.tm U) (.tm U) Tryz.underlying55 ty3 (fun _ => ⟨by simp at hz9; omega, map_get (List.getElem?_eq_getElem (i := z9.toNat) (show z9.toNat < l.length by simp at hz9; omega))⟩) | exact R_indexAddr_rf U (.no U) U (.tm U) U (.tm U) Tryz.underlying55 ty3 (fun _ => ⟨by simp at hz9; omega, map_get (List.getElem?_eq_getElem (i := z9.toNat) (show z9.toNat < l.length by simp at hz9; omega))⟩))) U ?_
 refine AWl.put ((by first | exact R_load U (.no U) U (.tm U) ty3 U U | exact R_load_pp U (.no U) U (.tm U) U ty3 U U | exact R_load_vw U (.no U) U (.tm U) ty3 U U | exact R_load_pr U (.no U) U (.tm U) U (by first | assumption | exact map_get (by assumption)) ty3 U U)) U ?_
 refine AWl.av U U U U U ?_
 refine AWl.nil (AW.ret ?_)
 apply DRes.mk rfl
 case h =>
  refine Res.one U (.tmp U .nil) U ?_
  rfl
 case hp => exact List.getElem_mem _
end Go.Proofs.YtbkhopfpejhnlaaGreatDoor
