import Derived.Test.YtamnfkfjfelbbaaAbsOxw
import Derived.Shelf.Bits.Mul64
import Derived.Shelf.Abstract
import Derived.Ground.NamesProg
set_option linter.unusedVariables false
set_option linter.unusedSimpArgs false
set_option maxHeartbeats 1000000
set_option maxRecDepth 100000
namespace Go.Q
open Go.D
def nxL (next : List (List Int)) (i : Nat) : List Int := next[i]?.getD []
theorem nxL_at {next : List (List Int)} {i : Nat} {l : List Int} (h : next[i]? = some l) : nxL next i = l := by
 unfold nxL; rw [h]; rfl
theorem rep_copy {α : Type} (x z : α) (k n : Nat) (h : k ≤ n) : (List.replicate k x ++ List.replicate (n - k) z).take k ++ ((List.replicate k x ++ List.replicate (n - k) z).take k).take (min k (n - k)) ++ (List.replicate k x ++ List.replicate (n - k) z).drop (k + min k (n - k)) = List.replicate (k + min k (n - k)) x ++ List.replicate (n - (k + min k (n - k))) z := by
 have h1 : (List.replicate k x ++ List.replicate (n - k) z).take k = List.replicate k x := by
  rw [List.take_append_of_le_length (by simp)]; simp
 rw [h1, List.take_replicate, List.drop_append, List.drop_replicate, List.drop_replicate, List.length_replicate, List.replicate_append_replicate]
 have e1 : k - (k + min k (n - k)) = 0 := by omega
 have e2 : min (min k (n - k)) k = min k (n - k) := by omega
 have e3 : n - k - (k + min k (n - k) - k) = n - (k + min k (n - k)) := by omega
 rw [e1, e2, e3]; simp
end Go.Q
namespace Go.Proofs.Ytamnfkfjfelbbaa
open Go.RowKit Go.Q Go.D
def Try.lays212_ren:Go.Shelf.Ren:=⟨fun|212=>84|263=>85|264=>86|n=>n,fun|46=>120|51=>123|146=>124|53=>126|148=>127|n=>n,fun|n=>n⟩
theorem Try.lays212:Go.Proofs.Lays.n212 Try.prog Try.lays212_ren:={
 mixed:=by kernel_rfl
 f212:=Try.func84.trans (congrArg some (by kernel_rfl))
 f263:=Try.func85.trans (congrArg some (by kernel_rfl))
 f264:=Try.func86.trans (congrArg some (by kernel_rfl))
 t46:=Try.underlying120
 a46:=Try.isAgg120
 z46:=Try.sizeOf120
 v46:=Try.zeroValue120
 t51:=Try.underlying123
 a51:=Try.isAgg123
 z51:=Try.sizeOf123
 v51:=Try.zeroValue123
 t53:=Try.underlying126
 a53:=Try.isAgg126
 z53:=Try.sizeOf126
 v53:=Try.zeroValue126
 t146:=Try.underlying124
 a146:=Try.isAgg124
 z146:=Try.sizeOf124
 v146:=Try.zeroValue124
 t148:=Try.underlying127
 a148:=Try.isAgg127
 z148:=Try.sizeOf127
 v148:=Try.zeroValue127 }
theorem bitsMul (x y : Nat) (hx : x < 4294967296) (hy : y < 4294967296) : FnT Try.prog 84 [.one (.v (.int .u64 x)), .one (.v (.int .u64 y))] (.tup [.one (.v (.int .u64 0)), .one (.v (.int .u64 ((x * y : Nat) : Int)))]) := by
 refine ⟨⟨_, Try.func84, by kernel_rfl, by kernel_rfl⟩, fun w vs F _ hv => ?_⟩
 obtain ⟨v1, vr, G1, G2, rfl, h1, ⟨v2, vr2, G3, G4, rfl, h2, ⟨rfl, rfl⟩, rfl⟩, rfl⟩ := hv
 simp only [V0r, C] at h1 h2
 obtain ⟨rfl, rfl, _⟩ := h1
 obtain ⟨rfl, rfl, _⟩ := h2
 have hlt : x * y < 18446744073709551616 := Nat.lt_of_le_of_lt (Nat.mul_le_mul (show x ≤ 4294967295 by omega) (show y ≤ 4294967295 by omega)) (by decide)
 have hcon := Any.bits_Mul Try.lays212 x y (by omega) (by omega) w
 change Calls Try.prog 84 _ _ _ at hcon
 rw [Nat.div_eq_of_lt hlt, Nat.mod_eq_of_lt hlt] at hcon
 refine hcon.mono ?_
 rintro e w' ⟨rfl, rfl⟩
 exact ⟨_, [], rfl, ⟨_, rfl, ⟨_, _, [], [], rfl, by simp [V0r, C]; rfl, ⟨_, _, [], [], rfl, by simp [V0r, C]; rfl, ⟨rfl, rfl⟩, rfl⟩, rfl⟩⟩, List.nodup_nil, by simp, Ext.refl _⟩
theorem slicesRepeat1 (x : Int) (n : Nat) (hn : 1 ≤ n) (hz : n ≤ 65536) : FnT Try.prog 81 [.one (.sl 1 ([x].map cInt)), .one (.v (.int .i64 n))] (.a (.one (.sl 1 ((List.replicate n x).map cInt)))) := by
 refine FnT.walk Try.func81 U (by kernel_rfl) Try.ntmps81 U fun hlen w0 => ?_
 try simp [cPair, cToken, cExpr, cEdge, cGraph, cStep, cWalk, cChange, cBatch, cHistory, cPositions, cAutomaton, cProductStep, cPathAtom, cConjunction, cView, cDelta, cRegistered, cRegistry] at hlen
 refine AW.sr ?_
 refine AWl.ac ?_
 refine AWl.nilS (i := 4) 20001 1 U U ?_
 refine AWl.nil (AW.seq ?_)
 refine AW.sr ?_
 refine AWl.mv ?_
 refine AWl.p (R_lt U (.no U) U (.tm U) (.const U)) U ?_
 refine AWl.nil ?_
 refine AW.cond (.tm U) (fun h10 => ?_) (fun h10 => ?_)
 · exact absurd h10 (by simp)
 · skip
   try simp at h10
   refine AW.skip ?_
   refine AW.sr ?_
   refine AWl.mv ?_
   refine AWl.p (by exact R_lenm U (.no U) U (.tm U) (by exact .t) Try.underlying22) U ?_
   refine AWl.p (R_conv U (.no U) U (.tm U) (by rw [Try.underlying3]; rfl) Try.underlying120 (fun _ => (show IntKind.u64.wrap _ = ((1 : Nat) : Int) by first | rfl | decide | (simp [IntKind.wrap, IntKind.bits]; done)))) U ?_
   refine AWl.mv ?_
   refine AWl.p (R_conv U (.no U) U (.tm U) (by rw [Try.underlying3]; rfl) Try.underlying120 (fun _ => (show IntKind.u64.wrap _ = ((n : Nat) : Int) by simp [IntKind.wrap, IntKind.bits]; omega))) U ?_
   refine AWl.p (R_callz (FnT.fr (bitsMul 1 n (by omega) (by omega))) U (.no U) U (.cons (.tm U) U (.cons (.tm U) U .nil))) U ?_
   refine AWl.p (R_movet U (.no U) U U fun _ => rfl) U ?_
   refine AWl.p (R_extract U (.no U) U U (fun _ => rfl) U) U ?_
   refine AWl.p (R_extract U (.no U) U U (fun _ => rfl) U) U ?_
   refine AWl.av ?_
   refine AWl.av ?_
   refine AWl.nil (AW.seq ?_)
   refine AW.seq ?_
   refine AW.le (σ' := ⟨_, [(0, _), (1, _), (4, _), (5, _), (6, _)], [(20001, _)]⟩) (Le.sub0 U ⟨U, U, U, U, U, Y⟩ ⟨U, Y⟩) ?_
   refine AW.region ?_
   refine AWl.mv ?_
   refine AWl.p (R_gt U (.no U) U (.tm U) (.const U)) U ?_
   refine AWl.mv ?_
   refine AWl.p (R_move U (by exact .not1 U U U U) U (.tmp U (by exact fun _ => rfl))) U ?_
   refine AWl.p (R_gt U (by exact .not1 U U U U) U (.tmp U (by exact fun _ => rfl)) (.const U)) U ?_
   refine AWl.p (R_or U (.no U) U (.tm U) (.tmp U (by exact fun _ => rfl))) U ?_
   refine AWl.nil ?_
   refine AW.cond (.tm U) (fun h26 => ?_) (fun h26 => ?_)
   · exact absurd h26 (by (simp; omega))
   · skip
     try simp at h26
     refine AW.skip ?_
     refine AW.seq ?_
     refine AW.le (σ' := ⟨_, [(0, _), (1, _), (4, _), (5, _), (6, _)], [(20001, _)]⟩) (Le.sub0 U ⟨U, U, U, U, U, Y⟩ ⟨U, Y⟩) ?_
     refine AW.region ?_
     refine AWl.mv ?_
     refine AWl.p (R_conv U (.no U) U (.tm U) (by rw [Try.underlying120]; rfl) Try.underlying3 (fun _ => (show IntKind.i64.wrap _ = ((n : Nat) : Int) by simp [IntKind.wrap, IntKind.bits]; omega))) U ?_
     refine AWl.add (R_makeSlice 30 U U U (.tm U) Try.underlying22 in3 U U U U (by omega)) U ?_
     refine AWl.av ?_
     refine AWl.nil (AW.sr ?_)
     refine AWl.mv ?_
     refine AWl.le (Le.toTl (d := 31) U U) ?_
     refine AWl.mv ?_
     refine AWl.updput (R_copy (c := 1) U U U (.tm U) U (.tm U) (by exact .t) (by exact isV_rep _ U) (by rfl) Try.underlying22 ty3 (by simp <;> omega)) U ?_
     refine AWl.le (σ' := ⟨_, [(0, _), (1, _), (4, _), (5, _), (6, _), (7, _), (33, _)], [(20001, _), (30, _)]⟩) (Le.sub0 U ⟨U, U, U, U, U, U, U, Y⟩ ⟨U, U, Y⟩) ?_
     refine AWl.av ?_
     refine AWl.nil (AW.seq ?_)
     refine AW.block ?_
     refine AW.loop1 (fun (k : Nat) => (1 ≤ k ∧ k ≤ n) ∧ True) (fun (k : Nat) => ⟨_, [(8, (true, .a (.one (.t (.v (.int .i64 (k : Nat))))))), (7, (true, .a (.one (.rf 30)))), (4, _)], [(30, .row 1 ((List.replicate k x ++ List.replicate (n - k) (0 : Int)).map cInt))]⟩) (fun (k : Nat) => n - k) (1) ⟨⟨Nat.le_refl _, hn⟩, Y⟩ (Le.sub0 U ⟨U, U, U, Y⟩ ⟨(by refine congrArg (fun r => some (R.row 1 r)) ?_; obtain ⟨n', U⟩ : ∃ n', n = n' + 1 := ⟨n - 1, by omega⟩; simp [cInt, List.replicate_succ]), Y⟩) ?_
     rintro k ⟨hk, he⟩
     refine AW.seq ?_
     refine AW.sr ?_
     refine AWl.mv ?_
     refine AWl.mv ?_
     refine AWl.p (by exact R_lenm U (.no U) U (.tm U) (by exact .rf U) Try.underlying22) U ?_
     refine AWl.p (R_lt U (.no U) U (.tm U) (.tm U)) U ?_
     refine AWl.nil ?_
     refine AW.cond (.tm U) (fun h37 => ?_) (fun h37 => ?_)
     · skip
       try simp at h37
       refine AW.skip ?_
       refine AW.block ?_
       refine AW.dagn 10 53 [[], [0], [1], [2], [4], [5], [0, 1], [0, 2], [0, 4], [0, 5], [1, 2], [1, 4], [1, 5], [2, 4], [2, 5], [4, 5], [0, 1, 2], [0, 1, 4], [0, 1, 5], [0, 2, 4], [0, 2, 5], [0, 4, 5], [1, 2, 3], [1, 2, 4], [1, 2, 5], [1, 4, 5], [2, 4, 5], [4, 5, 6], [0, 1, 2, 3], [0, 1, 2, 4], [0, 1, 2, 5], [0, 1, 4, 5], [0, 2, 4, 5], [0, 4, 5, 6], [1, 2, 3, 4], [1, 2, 3, 5], [1, 2, 4, 5], [1, 4, 5, 6], [2, 4, 5, 6], [0, 1, 2, 3, 4], [0, 1, 2, 3, 5], [0, 1, 2, 4, 5], [0, 1, 4, 5, 6], [0, 2, 4, 5, 6], [1, 2, 3, 4, 5], [1, 2, 4, 5, 6], [0, 1, 2, 3, 4, 5], [0, 1, 2, 4, 5, 6], [1, 2, 3, 4, 5, 6], [0, 1, 2, 3, 4, 5, 6], [1, 2, 3, 4, 5, 6, 7], [0, 1, 2, 3, 4, 5, 6, 7], [0, 1, 2, 3, 4, 5, 6, 7, 8], [0, 1, 2, 3, 4, 5, 6, 7, 8, 9]] [(0, 0, 1), (0, 1, 2), (0, 2, 3), (0, 4, 4), (0, 5, 5), (1, 1, 6), (2, 0, 6), (1, 2, 7), (3, 0, 7), (1, 4, 8), (4, 0, 8), (1, 5, 9), (5, 0, 9), (2, 2, 10), (3, 1, 10), (2, 4, 11), (4, 1, 11), (2, 5, 12), (5, 1, 12), (3, 4, 13), (4, 2, 13), (3, 5, 14), (5, 2, 14), (4, 5, 15), (5, 4, 15), (6, 2, 16), (10, 0, 16), (7, 1, 16), (6, 4, 17), (11, 0, 17), (8, 1, 17), (6, 5, 18), (12, 0, 18), (9, 1, 18), (7, 4, 19), (13, 0, 19), (8, 2, 19), (7, 5, 20), (14, 0, 20), (9, 2, 20), (8, 5, 21), (15, 0, 21), (9, 4, 21), (10, 3, 22), (10, 4, 23), (13, 1, 23), (11, 2, 23), (10, 5, 24), (14, 1, 24), (12, 2, 24), (11, 5, 25), (15, 1, 25), (12, 4, 25), (13, 5, 26), (15, 2, 26), (14, 4, 26), (15, 6, 27), (16, 3, 28), (22, 0, 28), (16, 4, 29), (23, 0, 29), (19, 1, 29), (17, 2, 29), (16, 5, 30), (24, 0, 30), (20, 1, 30), (18, 2, 30), (17, 5, 31), (25, 0, 31), (21, 1, 31), (18, 4, 31), (19, 5, 32), (26, 0, 32), (21, 2, 32), (20, 4, 32), (21, 6, 33), (27, 0, 33), (22, 4, 34), (23, 3, 34), (22, 5, 35), (24, 3, 35), (23, 5, 36), (26, 1, 36), (25, 2, 36), (24, 4, 36), (25, 6, 37), (27, 1, 37), (26, 6, 38), (27, 2, 38), (28, 4, 39), (34, 0, 39), (29, 3, 39), (28, 5, 40), (35, 0, 40), (30, 3, 40), (29, 5, 41), (36, 0, 41), (32, 1, 41), (31, 2, 41), (30, 4, 41), (31, 6, 42), (37, 0, 42), (33, 1, 42), (32, 6, 43), (38, 0, 43), (33, 2, 43), (34, 5, 44), (36, 3, 44), (35, 4, 44), (36, 6, 45), (38, 1, 45), (37, 2, 45), (39, 5, 46), (44, 0, 46), (41, 3, 46), (40, 4, 46), (41, 6, 47), (45, 0, 47), (43, 1, 47), (42, 2, 47), (44, 6, 48), (45, 3, 48), (46, 6, 49), (48, 0, 49), (47, 3, 49), (48, 7, 50), (49, 7, 51), (50, 0, 51), (51, 8, 52), (52, 9, 53)] (by kernel_rfl) (by kernel_rfl) (by kernel_rfl) ?_
       apply Dag.new (i := 0)
       case ha | ho | hb => rfl
       case hE =>
        intro w9
        refine AWl.mv ?_
        exact AWl.nil (Le.sub0 (σ' := ⟨_, [(4, _), (7, _), (8, _), (37, _), (38, _)], [(30, _)]⟩) U ⟨U, U, U, U, U, Y⟩ ⟨U, Y⟩)
       apply Dag.new (i := 1)
       case ha | ho | hb => rfl
       case hE =>
        intro w9
        refine AWl.mv ?_
        exact AWl.nil (Le.sub0 (σ' := ⟨_, [(4, _), (7, _), (8, _), (37, _), (39, _)], [(30, _)]⟩) U ⟨U, U, U, U, U, Y⟩ ⟨U, Y⟩)
       apply Dag.new (i := 2)
       case ha | ho | hb => rfl
       case hE =>
        intro w9
        refine AWl.mv ?_
        exact AWl.nil (Le.sub0 (σ' := ⟨_, [(4, _), (7, _), (8, _), (37, _), (40, _)], [(30, _)]⟩) U ⟨U, U, U, U, U, Y⟩ ⟨U, Y⟩)
       apply Dag.new (i := 4)
       case ha | ho | hb => rfl
       case hE =>
        intro w9
        refine AWl.mv ?_
        exact AWl.nil (Le.sub0 (σ' := ⟨_, [(4, _), (7, _), (8, _), (37, _), (42, _)], [(30, _)]⟩) U ⟨U, U, U, U, U, Y⟩ ⟨U, Y⟩)
       apply Dag.new (i := 5)
       case ha | ho | hb => rfl
       case hE =>
        intro w9
        refine AWl.mv ?_
        exact AWl.nil (Le.sub0 (σ' := ⟨_, [(4, _), (7, _), (8, _), (37, _), (43, _)], [(30, _)]⟩) U ⟨U, U, U, U, U, Y⟩ ⟨U, Y⟩)
       apply Dag.new (i := 1)
       case ha | ho | hb => rfl
       case hE =>
        intro w9
        refine AWl.mv ?_
        exact AWl.nil (Le.sub0 (σ' := ⟨_, [(4, _), (7, _), (8, _), (37, _), (38, _), (39, _)], [(30, _)]⟩) U ⟨U, U, U, U, U, U, Y⟩ ⟨U, Y⟩)
       apply Dag.old (i := 0)
       case ha | ho | hb => rfl
       case hE =>
        intro w9
        refine AWl.mv ?_
        exact AWl.nil (Le.sub0 U ⟨U, U, U, U, U, U, Y⟩ ⟨U, Y⟩)
       apply Dag.new (i := 2)
       case ha | ho | hb => rfl
       case hE =>
        intro w9
        refine AWl.mv ?_
        exact AWl.nil (Le.sub0 (σ' := ⟨_, [(4, _), (7, _), (8, _), (37, _), (38, _), (40, _)], [(30, _)]⟩) U ⟨U, U, U, U, U, U, Y⟩ ⟨U, Y⟩)
       apply Dag.old (i := 0)
       case ha | ho | hb => rfl
       case hE =>
        intro w9
        refine AWl.mv ?_
        exact AWl.nil (Le.sub0 U ⟨U, U, U, U, U, U, Y⟩ ⟨U, Y⟩)
       apply Dag.new (i := 4)
       case ha | ho | hb => rfl
       case hE =>
        intro w9
        refine AWl.mv ?_
        exact AWl.nil (Le.sub0 (σ' := ⟨_, [(4, _), (7, _), (8, _), (37, _), (38, _), (42, _)], [(30, _)]⟩) U ⟨U, U, U, U, U, U, Y⟩ ⟨U, Y⟩)
       apply Dag.old (i := 0)
       case ha | ho | hb => rfl
       case hE =>
        intro w9
        refine AWl.mv ?_
        exact AWl.nil (Le.sub0 U ⟨U, U, U, U, U, U, Y⟩ ⟨U, Y⟩)
       apply Dag.new (i := 5)
       case ha | ho | hb => rfl
       case hE =>
        intro w9
        refine AWl.mv ?_
        exact AWl.nil (Le.sub0 (σ' := ⟨_, [(4, _), (7, _), (8, _), (37, _), (38, _), (43, _)], [(30, _)]⟩) U ⟨U, U, U, U, U, U, Y⟩ ⟨U, Y⟩)
       apply Dag.old (i := 0)
       case ha | ho | hb => rfl
       case hE =>
        intro w9
        refine AWl.mv ?_
        exact AWl.nil (Le.sub0 U ⟨U, U, U, U, U, U, Y⟩ ⟨U, Y⟩)
       apply Dag.new (i := 2)
       case ha | ho | hb => rfl
       case hE =>
        intro w9
        refine AWl.mv ?_
        exact AWl.nil (Le.sub0 (σ' := ⟨_, [(4, _), (7, _), (8, _), (37, _), (39, _), (40, _)], [(30, _)]⟩) U ⟨U, U, U, U, U, U, Y⟩ ⟨U, Y⟩)
       apply Dag.old (i := 1)
       case ha | ho | hb => rfl
       case hE =>
        intro w9
        refine AWl.mv ?_
        exact AWl.nil (Le.sub0 U ⟨U, U, U, U, U, U, Y⟩ ⟨U, Y⟩)
       apply Dag.new (i := 4)
       case ha | ho | hb => rfl
       case hE =>
        intro w9
        refine AWl.mv ?_
        exact AWl.nil (Le.sub0 (σ' := ⟨_, [(4, _), (7, _), (8, _), (37, _), (39, _), (42, _)], [(30, _)]⟩) U ⟨U, U, U, U, U, U, Y⟩ ⟨U, Y⟩)
       apply Dag.old (i := 1)
       case ha | ho | hb => rfl
       case hE =>
        intro w9
        refine AWl.mv ?_
        exact AWl.nil (Le.sub0 U ⟨U, U, U, U, U, U, Y⟩ ⟨U, Y⟩)
       apply Dag.new (i := 5)
       case ha | ho | hb => rfl
       case hE =>
        intro w9
        refine AWl.mv ?_
        exact AWl.nil (Le.sub0 (σ' := ⟨_, [(4, _), (7, _), (8, _), (37, _), (39, _), (43, _)], [(30, _)]⟩) U ⟨U, U, U, U, U, U, Y⟩ ⟨U, Y⟩)
       apply Dag.old (i := 1)
       case ha | ho | hb => rfl
       case hE =>
        intro w9
        refine AWl.mv ?_
        exact AWl.nil (Le.sub0 U ⟨U, U, U, U, U, U, Y⟩ ⟨U, Y⟩)
       apply Dag.new (i := 4)
       case ha | ho | hb => rfl
       case hE =>
        intro w9
        refine AWl.mv ?_
        exact AWl.nil (Le.sub0 (σ' := ⟨_, [(4, _), (7, _), (8, _), (37, _), (40, _), (42, _)], [(30, _)]⟩) U ⟨U, U, U, U, U, U, Y⟩ ⟨U, Y⟩)
       apply Dag.old (i := 2)
       case ha | ho | hb => rfl
       case hE =>
        intro w9
        refine AWl.mv ?_
        exact AWl.nil (Le.sub0 U ⟨U, U, U, U, U, U, Y⟩ ⟨U, Y⟩)
       apply Dag.new (i := 5)
       case ha | ho | hb => rfl
       case hE =>
        intro w9
        refine AWl.mv ?_
        exact AWl.nil (Le.sub0 (σ' := ⟨_, [(4, _), (7, _), (8, _), (37, _), (40, _), (43, _)], [(30, _)]⟩) U ⟨U, U, U, U, U, U, Y⟩ ⟨U, Y⟩)
       apply Dag.old (i := 2)
       case ha | ho | hb => rfl
       case hE =>
        intro w9
        refine AWl.mv ?_
        exact AWl.nil (Le.sub0 U ⟨U, U, U, U, U, U, Y⟩ ⟨U, Y⟩)
       apply Dag.new (i := 5)
       case ha | ho | hb => rfl
       case hE =>
        intro w9
        refine AWl.mv ?_
        exact AWl.nil (Le.sub0 (σ' := ⟨_, [(4, _), (7, _), (8, _), (37, _), (42, _), (43, _)], [(30, _)]⟩) U ⟨U, U, U, U, U, U, Y⟩ ⟨U, Y⟩)
       apply Dag.old (i := 4)
       case ha | ho | hb => rfl
       case hE =>
        intro w9
        refine AWl.mv ?_
        exact AWl.nil (Le.sub0 U ⟨U, U, U, U, U, U, Y⟩ ⟨U, Y⟩)
       apply Dag.new (i := 2)
       case ha | ho | hb => rfl
       case hE =>
        intro w9
        refine AWl.mv ?_
        exact AWl.nil (Le.sub0 (σ' := ⟨_, [(4, _), (7, _), (8, _), (37, _), (38, _), (39, _), (40, _)], [(30, _)]⟩) U ⟨U, U, U, U, U, U, U, Y⟩ ⟨U, Y⟩)
       apply Dag.old (i := 0)
       case ha | ho | hb => rfl
       case hE =>
        intro w9
        refine AWl.mv ?_
        exact AWl.nil (Le.sub0 U ⟨U, U, U, U, U, U, U, Y⟩ ⟨U, Y⟩)
       apply Dag.old (i := 1)
       case ha | ho | hb => rfl
       case hE =>
        intro w9
        refine AWl.mv ?_
        exact AWl.nil (Le.sub0 U ⟨U, U, U, U, U, U, U, Y⟩ ⟨U, Y⟩)
       apply Dag.new (i := 4)
       case ha | ho | hb => rfl
       case hE =>
        intro w9
        refine AWl.mv ?_
        exact AWl.nil (Le.sub0 (σ' := ⟨_, [(4, _), (7, _), (8, _), (37, _), (38, _), (39, _), (42, _)], [(30, _)]⟩) U ⟨U, U, U, U, U, U, U, Y⟩ ⟨U, Y⟩)
       apply Dag.old (i := 0)
       case ha | ho | hb => rfl
       case hE =>
        intro w9
        refine AWl.mv ?_
        exact AWl.nil (Le.sub0 U ⟨U, U, U, U, U, U, U, Y⟩ ⟨U, Y⟩)
       apply Dag.old (i := 1)
       case ha | ho | hb => rfl
       case hE =>
        intro w9
        refine AWl.mv ?_
        exact AWl.nil (Le.sub0 U ⟨U, U, U, U, U, U, U, Y⟩ ⟨U, Y⟩)
       apply Dag.new (i := 5)
       case ha | ho | hb => rfl
       case hE =>
        intro w9
        refine AWl.mv ?_
        exact AWl.nil (Le.sub0 (σ' := ⟨_, [(4, _), (7, _), (8, _), (37, _), (38, _), (39, _), (43, _)], [(30, _)]⟩) U ⟨U, U, U, U, U, U, U, Y⟩ ⟨U, Y⟩)
       apply Dag.old (i := 0)
       case ha | ho | hb => rfl
       case hE =>
        intro w9
        refine AWl.mv ?_
        exact AWl.nil (Le.sub0 U ⟨U, U, U, U, U, U, U, Y⟩ ⟨U, Y⟩)
       apply Dag.old (i := 1)
       case ha | ho | hb => rfl
       case hE =>
        intro w9
        refine AWl.mv ?_
        exact AWl.nil (Le.sub0 U ⟨U, U, U, U, U, U, U, Y⟩ ⟨U, Y⟩)
       apply Dag.new (i := 4)
       case ha | ho | hb => rfl
       case hE =>
        intro w9
        refine AWl.mv ?_
        exact AWl.nil (Le.sub0 (σ' := ⟨_, [(4, _), (7, _), (8, _), (37, _), (38, _), (40, _), (42, _)], [(30, _)]⟩) U ⟨U, U, U, U, U, U, U, Y⟩ ⟨U, Y⟩)
       apply Dag.old (i := 0)
       case ha | ho | hb => rfl
       case hE =>
        intro w9
        refine AWl.mv ?_
        exact AWl.nil (Le.sub0 U ⟨U, U, U, U, U, U, U, Y⟩ ⟨U, Y⟩)
       apply Dag.old (i := 2)
       case ha | ho | hb => rfl
       case hE =>
        intro w9
        refine AWl.mv ?_
        exact AWl.nil (Le.sub0 U ⟨U, U, U, U, U, U, U, Y⟩ ⟨U, Y⟩)
       apply Dag.new (i := 5)
       case ha | ho | hb => rfl
       case hE =>
        intro w9
        refine AWl.mv ?_
        exact AWl.nil (Le.sub0 (σ' := ⟨_, [(4, _), (7, _), (8, _), (37, _), (38, _), (40, _), (43, _)], [(30, _)]⟩) U ⟨U, U, U, U, U, U, U, Y⟩ ⟨U, Y⟩)
       apply Dag.old (i := 0)
       case ha | ho | hb => rfl
       case hE =>
        intro w9
        refine AWl.mv ?_
        exact AWl.nil (Le.sub0 U ⟨U, U, U, U, U, U, U, Y⟩ ⟨U, Y⟩)
       apply Dag.old (i := 2)
       case ha | ho | hb => rfl
       case hE =>
        intro w9
        refine AWl.mv ?_
        exact AWl.nil (Le.sub0 U ⟨U, U, U, U, U, U, U, Y⟩ ⟨U, Y⟩)
       apply Dag.new (i := 5)
       case ha | ho | hb => rfl
       case hE =>
        intro w9
        refine AWl.mv ?_
        exact AWl.nil (Le.sub0 (σ' := ⟨_, [(4, _), (7, _), (8, _), (37, _), (38, _), (42, _), (43, _)], [(30, _)]⟩) U ⟨U, U, U, U, U, U, U, Y⟩ ⟨U, Y⟩)
       apply Dag.old (i := 0)
       case ha | ho | hb => rfl
       case hE =>
        intro w9
        refine AWl.mv ?_
        exact AWl.nil (Le.sub0 U ⟨U, U, U, U, U, U, U, Y⟩ ⟨U, Y⟩)
       apply Dag.old (i := 4)
       case ha | ho | hb => rfl
       case hE =>
        intro w9
        refine AWl.mv ?_
        exact AWl.nil (Le.sub0 U ⟨U, U, U, U, U, U, U, Y⟩ ⟨U, Y⟩)
       apply Dag.new (i := 3)
       case ha | ho | hb => rfl
       case hE =>
        intro w9
        refine AWl.p ((by exact R_slice_rf (m := k) U (.no U) U (.tm U) U (.yes (.tm U) (fun _ => by first | rfl | omega | (simp <;> omega))) Try.underlying22 ty3 (fun _ => by simp <;> omega))) U ?_
        exact AWl.nil (Le.sub0 (σ' := ⟨_, [(4, _), (7, _), (8, _), (37, _), (41, _)], [(30, _)]⟩) U ⟨U, U, U, U, U, Y⟩ ⟨U, Y⟩)
       apply Dag.new (i := 4)
       case ha | ho | hb => rfl
       case hE =>
        intro w9
        refine AWl.mv ?_
        exact AWl.nil (Le.sub0 (σ' := ⟨_, [(4, _), (7, _), (8, _), (37, _), (39, _), (40, _), (42, _)], [(30, _)]⟩) U ⟨U, U, U, U, U, U, U, Y⟩ ⟨U, Y⟩)
       apply Dag.old (i := 1)
       case ha | ho | hb => rfl
       case hE =>
        intro w9
        refine AWl.mv ?_
        exact AWl.nil (Le.sub0 U ⟨U, U, U, U, U, U, U, Y⟩ ⟨U, Y⟩)
       apply Dag.old (i := 2)
       case ha | ho | hb => rfl
       case hE =>
        intro w9
        refine AWl.mv ?_
        exact AWl.nil (Le.sub0 U ⟨U, U, U, U, U, U, U, Y⟩ ⟨U, Y⟩)
       apply Dag.new (i := 5)
       case ha | ho | hb => rfl
       case hE =>
        intro w9
        refine AWl.mv ?_
        exact AWl.nil (Le.sub0 (σ' := ⟨_, [(4, _), (7, _), (8, _), (37, _), (39, _), (40, _), (43, _)], [(30, _)]⟩) U ⟨U, U, U, U, U, U, U, Y⟩ ⟨U, Y⟩)
       apply Dag.old (i := 1)
       case ha | ho | hb => rfl
       case hE =>
        intro w9
        refine AWl.mv ?_
        exact AWl.nil (Le.sub0 U ⟨U, U, U, U, U, U, U, Y⟩ ⟨U, Y⟩)
       apply Dag.old (i := 2)
       case ha | ho | hb => rfl
       case hE =>
        intro w9
        refine AWl.mv ?_
        exact AWl.nil (Le.sub0 U ⟨U, U, U, U, U, U, U, Y⟩ ⟨U, Y⟩)
       apply Dag.new (i := 5)
       case ha | ho | hb => rfl
       case hE =>
        intro w9
        refine AWl.mv ?_
        exact AWl.nil (Le.sub0 (σ' := ⟨_, [(4, _), (7, _), (8, _), (37, _), (39, _), (42, _), (43, _)], [(30, _)]⟩) U ⟨U, U, U, U, U, U, U, Y⟩ ⟨U, Y⟩)
       apply Dag.old (i := 1)
       case ha | ho | hb => rfl
       case hE =>
        intro w9
        refine AWl.mv ?_
        exact AWl.nil (Le.sub0 U ⟨U, U, U, U, U, U, U, Y⟩ ⟨U, Y⟩)
       apply Dag.old (i := 4)
       case ha | ho | hb => rfl
       case hE =>
        intro w9
        refine AWl.mv ?_
        exact AWl.nil (Le.sub0 U ⟨U, U, U, U, U, U, U, Y⟩ ⟨U, Y⟩)
       apply Dag.new (i := 5)
       case ha | ho | hb => rfl
       case hE =>
        intro w9
        refine AWl.mv ?_
        exact AWl.nil (Le.sub0 (σ' := ⟨_, [(4, _), (7, _), (8, _), (37, _), (40, _), (42, _), (43, _)], [(30, _)]⟩) U ⟨U, U, U, U, U, U, U, Y⟩ ⟨U, Y⟩)
       apply Dag.old (i := 2)
       case ha | ho | hb => rfl
       case hE =>
        intro w9
        refine AWl.mv ?_
        exact AWl.nil (Le.sub0 U ⟨U, U, U, U, U, U, U, Y⟩ ⟨U, Y⟩)
       apply Dag.old (i := 4)
       case ha | ho | hb => rfl
       case hE =>
        intro w9
        refine AWl.mv ?_
        exact AWl.nil (Le.sub0 U ⟨U, U, U, U, U, U, U, Y⟩ ⟨U, Y⟩)
       apply Dag.new (i := 6)
       case ha | ho | hb => rfl
       case hE =>
        intro w9
        refine AWl.p (R_slice_vwr (m := k) U (.no U) U (.tm U) U .no (.yes (.tm U) (fun _ => by first | rfl | omega | (simp <;> omega))) Try.underlying22 ty3 (fun _ => ⟨by omega, by simp <;> omega⟩)) U ?_
        exact AWl.nil (Le.sub0 (σ' := ⟨_, [(4, _), (7, _), (8, _), (37, _), (44, _)], [(30, _)]⟩) U ⟨U, U, U, U, U, Y⟩ ⟨U, Y⟩)
       apply Dag.new (i := 3)
       case ha | ho | hb => rfl
       case hE =>
        intro w9
        refine AWl.p ((by exact R_slice_rf (m := k) U (.no U) U (.tm U) U (.yes (.tm U) (fun _ => by first | rfl | omega | (simp <;> omega))) Try.underlying22 ty3 (fun _ => by simp <;> omega))) U ?_
        exact AWl.nil (Le.sub0 (σ' := ⟨_, [(4, _), (7, _), (8, _), (37, _), (38, _), (41, _)], [(30, _)]⟩) U ⟨U, U, U, U, U, U, Y⟩ ⟨U, Y⟩)
       apply Dag.old (i := 0)
       case ha | ho | hb => rfl
       case hE =>
        intro w9
        refine AWl.mv ?_
        exact AWl.nil (Le.sub0 U ⟨U, U, U, U, U, U, Y⟩ ⟨U, Y⟩)
       apply Dag.new (i := 4)
       case ha | ho | hb => rfl
       case hE =>
        intro w9
        refine AWl.mv ?_
        exact AWl.nil (Le.sub0 (σ' := ⟨_, [(4, _), (7, _), (8, _), (37, _), (38, _), (39, _), (40, _), (42, _)], [(30, _)]⟩) U ⟨U, U, U, U, U, U, U, U, Y⟩ ⟨U, Y⟩)
       apply Dag.old (i := 0)
       case ha | ho | hb => rfl
       case hE =>
        intro w9
        refine AWl.mv ?_
        exact AWl.nil (Le.sub0 U ⟨U, U, U, U, U, U, U, U, Y⟩ ⟨U, Y⟩)
       apply Dag.old (i := 1)
       case ha | ho | hb => rfl
       case hE =>
        intro w9
        refine AWl.mv ?_
        exact AWl.nil (Le.sub0 U ⟨U, U, U, U, U, U, U, U, Y⟩ ⟨U, Y⟩)
       apply Dag.old (i := 2)
       case ha | ho | hb => rfl
       case hE =>
        intro w9
        refine AWl.mv ?_
        exact AWl.nil (Le.sub0 U ⟨U, U, U, U, U, U, U, U, Y⟩ ⟨U, Y⟩)
       apply Dag.new (i := 5)
       case ha | ho | hb => rfl
       case hE =>
        intro w9
        refine AWl.mv ?_
        exact AWl.nil (Le.sub0 (σ' := ⟨_, [(4, _), (7, _), (8, _), (37, _), (38, _), (39, _), (40, _), (43, _)], [(30, _)]⟩) U ⟨U, U, U, U, U, U, U, U, Y⟩ ⟨U, Y⟩)
       apply Dag.old (i := 0)
       case ha | ho | hb => rfl
       case hE =>
        intro w9
        refine AWl.mv ?_
        exact AWl.nil (Le.sub0 U ⟨U, U, U, U, U, U, U, U, Y⟩ ⟨U, Y⟩)
       apply Dag.old (i := 1)
       case ha | ho | hb => rfl
       case hE =>
        intro w9
        refine AWl.mv ?_
        exact AWl.nil (Le.sub0 U ⟨U, U, U, U, U, U, U, U, Y⟩ ⟨U, Y⟩)
       apply Dag.old (i := 2)
       case ha | ho | hb => rfl
       case hE =>
        intro w9
        refine AWl.mv ?_
        exact AWl.nil (Le.sub0 U ⟨U, U, U, U, U, U, U, U, Y⟩ ⟨U, Y⟩)
       apply Dag.new (i := 5)
       case ha | ho | hb => rfl
       case hE =>
        intro w9
        refine AWl.mv ?_
        exact AWl.nil (Le.sub0 (σ' := ⟨_, [(4, _), (7, _), (8, _), (37, _), (38, _), (39, _), (42, _), (43, _)], [(30, _)]⟩) U ⟨U, U, U, U, U, U, U, U, Y⟩ ⟨U, Y⟩)
       apply Dag.old (i := 0)
       case ha | ho | hb => rfl
       case hE =>
        intro w9
        refine AWl.mv ?_
        exact AWl.nil (Le.sub0 U ⟨U, U, U, U, U, U, U, U, Y⟩ ⟨U, Y⟩)
       apply Dag.old (i := 1)
       case ha | ho | hb => rfl
       case hE =>
        intro w9
        refine AWl.mv ?_
        exact AWl.nil (Le.sub0 U ⟨U, U, U, U, U, U, U, U, Y⟩ ⟨U, Y⟩)
       apply Dag.old (i := 4)
       case ha | ho | hb => rfl
       case hE =>
        intro w9
        refine AWl.mv ?_
        exact AWl.nil (Le.sub0 U ⟨U, U, U, U, U, U, U, U, Y⟩ ⟨U, Y⟩)
       apply Dag.new (i := 5)
       case ha | ho | hb => rfl
       case hE =>
        intro w9
        refine AWl.mv ?_
        exact AWl.nil (Le.sub0 (σ' := ⟨_, [(4, _), (7, _), (8, _), (37, _), (38, _), (40, _), (42, _), (43, _)], [(30, _)]⟩) U ⟨U, U, U, U, U, U, U, U, Y⟩ ⟨U, Y⟩)
       apply Dag.old (i := 0)
       case ha | ho | hb => rfl
       case hE =>
        intro w9
        refine AWl.mv ?_
        exact AWl.nil (Le.sub0 U ⟨U, U, U, U, U, U, U, U, Y⟩ ⟨U, Y⟩)
       apply Dag.old (i := 2)
       case ha | ho | hb => rfl
       case hE =>
        intro w9
        refine AWl.mv ?_
        exact AWl.nil (Le.sub0 U ⟨U, U, U, U, U, U, U, U, Y⟩ ⟨U, Y⟩)
       apply Dag.old (i := 4)
       case ha | ho | hb => rfl
       case hE =>
        intro w9
        refine AWl.mv ?_
        exact AWl.nil (Le.sub0 U ⟨U, U, U, U, U, U, U, U, Y⟩ ⟨U, Y⟩)
       apply Dag.new (i := 6)
       case ha | ho | hb => rfl
       case hE =>
        intro w9
        refine AWl.p (R_slice_vwr (m := k) U (.no U) U (.tm U) U .no (.yes (.tm U) (fun _ => by first | rfl | omega | (simp <;> omega))) Try.underlying22 ty3 (fun _ => ⟨by omega, by simp <;> omega⟩)) U ?_
        exact AWl.nil (Le.sub0 (σ' := ⟨_, [(4, _), (7, _), (8, _), (37, _), (38, _), (44, _)], [(30, _)]⟩) U ⟨U, U, U, U, U, U, Y⟩ ⟨U, Y⟩)
       apply Dag.old (i := 0)
       case ha | ho | hb => rfl
       case hE =>
        intro w9
        refine AWl.mv ?_
        exact AWl.nil (Le.sub0 U ⟨U, U, U, U, U, U, Y⟩ ⟨U, Y⟩)
       apply Dag.new (i := 4)
       case ha | ho | hb => rfl
       case hE =>
        intro w9
        refine AWl.mv ?_
        exact AWl.nil (Le.sub0 (σ' := ⟨_, [(4, _), (7, _), (8, _), (37, _), (41, _), (42, _)], [(30, _)]⟩) U ⟨U, U, U, U, U, U, Y⟩ ⟨U, Y⟩)
       apply Dag.old (i := 3)
       case ha | ho | hb => rfl
       case hE =>
        intro w9
        refine AWl.p ((by exact R_slice_rf (m := k) U (.no U) U (.tm U) U (.yes (.tm U) (fun _ => by first | rfl | omega | (simp <;> omega))) Try.underlying22 ty3 (fun _ => by simp <;> omega))) U ?_
        exact AWl.nil (Le.sub0 U ⟨U, U, U, U, U, U, Y⟩ ⟨U, Y⟩)
       apply Dag.new (i := 5)
       case ha | ho | hb => rfl
       case hE =>
        intro w9
        refine AWl.mv ?_
        exact AWl.nil (Le.sub0 (σ' := ⟨_, [(4, _), (7, _), (8, _), (37, _), (41, _), (43, _)], [(30, _)]⟩) U ⟨U, U, U, U, U, U, Y⟩ ⟨U, Y⟩)
       apply Dag.old (i := 3)
       case ha | ho | hb => rfl
       case hE =>
        intro w9
        refine AWl.p ((by exact R_slice_rf (m := k) U (.no U) U (.tm U) U (.yes (.tm U) (fun _ => by first | rfl | omega | (simp <;> omega))) Try.underlying22 ty3 (fun _ => by simp <;> omega))) U ?_
        exact AWl.nil (Le.sub0 U ⟨U, U, U, U, U, U, Y⟩ ⟨U, Y⟩)
       apply Dag.new (i := 5)
       case ha | ho | hb => rfl
       case hE =>
        intro w9
        refine AWl.mv ?_
        exact AWl.nil (Le.sub0 (σ' := ⟨_, [(4, _), (7, _), (8, _), (37, _), (39, _), (40, _), (42, _), (43, _)], [(30, _)]⟩) U ⟨U, U, U, U, U, U, U, U, Y⟩ ⟨U, Y⟩)
       apply Dag.old (i := 1)
       case ha | ho | hb => rfl
       case hE =>
        intro w9
        refine AWl.mv ?_
        exact AWl.nil (Le.sub0 U ⟨U, U, U, U, U, U, U, U, Y⟩ ⟨U, Y⟩)
       apply Dag.old (i := 2)
       case ha | ho | hb => rfl
       case hE =>
        intro w9
        refine AWl.mv ?_
        exact AWl.nil (Le.sub0 U ⟨U, U, U, U, U, U, U, U, Y⟩ ⟨U, Y⟩)
       apply Dag.old (i := 4)
       case ha | ho | hb => rfl
       case hE =>
        intro w9
        refine AWl.mv ?_
        exact AWl.nil (Le.sub0 U ⟨U, U, U, U, U, U, U, U, Y⟩ ⟨U, Y⟩)
       apply Dag.new (i := 6)
       case ha | ho | hb => rfl
       case hE =>
        intro w9
        refine AWl.p (R_slice_vwr (m := k) U (.no U) U (.tm U) U .no (.yes (.tm U) (fun _ => by first | rfl | omega | (simp <;> omega))) Try.underlying22 ty3 (fun _ => ⟨by omega, by simp <;> omega⟩)) U ?_
        exact AWl.nil (Le.sub0 (σ' := ⟨_, [(4, _), (7, _), (8, _), (37, _), (39, _), (44, _)], [(30, _)]⟩) U ⟨U, U, U, U, U, U, Y⟩ ⟨U, Y⟩)
       apply Dag.old (i := 1)
       case ha | ho | hb => rfl
       case hE =>
        intro w9
        refine AWl.mv ?_
        exact AWl.nil (Le.sub0 U ⟨U, U, U, U, U, U, Y⟩ ⟨U, Y⟩)
       apply Dag.new (i := 6)
       case ha | ho | hb => rfl
       case hE =>
        intro w9
        refine AWl.p (R_slice_vwr (m := k) U (.no U) U (.tm U) U .no (.yes (.tm U) (fun _ => by first | rfl | omega | (simp <;> omega))) Try.underlying22 ty3 (fun _ => ⟨by omega, by simp <;> omega⟩)) U ?_
        exact AWl.nil (Le.sub0 (σ' := ⟨_, [(4, _), (7, _), (8, _), (37, _), (40, _), (44, _)], [(30, _)]⟩) U ⟨U, U, U, U, U, U, Y⟩ ⟨U, Y⟩)
       apply Dag.old (i := 2)
       case ha | ho | hb => rfl
       case hE =>
        intro w9
        refine AWl.mv ?_
        exact AWl.nil (Le.sub0 U ⟨U, U, U, U, U, U, Y⟩ ⟨U, Y⟩)
       apply Dag.new (i := 4)
       case ha | ho | hb => rfl
       case hE =>
        intro w9
        refine AWl.mv ?_
        exact AWl.nil (Le.sub0 (σ' := ⟨_, [(4, _), (7, _), (8, _), (37, _), (38, _), (41, _), (42, _)], [(30, _)]⟩) U ⟨U, U, U, U, U, U, U, Y⟩ ⟨U, Y⟩)
       apply Dag.old (i := 0)
       case ha | ho | hb => rfl
       case hE =>
        intro w9
        refine AWl.mv ?_
        exact AWl.nil (Le.sub0 U ⟨U, U, U, U, U, U, U, Y⟩ ⟨U, Y⟩)
       apply Dag.old (i := 3)
       case ha | ho | hb => rfl
       case hE =>
        intro w9
        refine AWl.p ((by exact R_slice_rf (m := k) U (.no U) U (.tm U) U (.yes (.tm U) (fun _ => by first | rfl | omega | (simp <;> omega))) Try.underlying22 ty3 (fun _ => by simp <;> omega))) U ?_
        exact AWl.nil (Le.sub0 U ⟨U, U, U, U, U, U, U, Y⟩ ⟨U, Y⟩)
       apply Dag.new (i := 5)
       case ha | ho | hb => rfl
       case hE =>
        intro w9
        refine AWl.mv ?_
        exact AWl.nil (Le.sub0 (σ' := ⟨_, [(4, _), (7, _), (8, _), (37, _), (38, _), (41, _), (43, _)], [(30, _)]⟩) U ⟨U, U, U, U, U, U, U, Y⟩ ⟨U, Y⟩)
       apply Dag.old (i := 0)
       case ha | ho | hb => rfl
       case hE =>
        intro w9
        refine AWl.mv ?_
        exact AWl.nil (Le.sub0 U ⟨U, U, U, U, U, U, U, Y⟩ ⟨U, Y⟩)
       apply Dag.old (i := 3)
       case ha | ho | hb => rfl
       case hE =>
        intro w9
        refine AWl.p ((by exact R_slice_rf (m := k) U (.no U) U (.tm U) U (.yes (.tm U) (fun _ => by first | rfl | omega | (simp <;> omega))) Try.underlying22 ty3 (fun _ => by simp <;> omega))) U ?_
        exact AWl.nil (Le.sub0 U ⟨U, U, U, U, U, U, U, Y⟩ ⟨U, Y⟩)
       apply Dag.new (i := 5)
       case ha | ho | hb => rfl
       case hE =>
        intro w9
        refine AWl.mv ?_
        exact AWl.nil (Le.sub0 (σ' := ⟨_, [(4, _), (7, _), (8, _), (37, _), (38, _), (39, _), (40, _), (42, _), (43, _)], [(30, _)]⟩) U ⟨U, U, U, U, U, U, U, U, U, Y⟩ ⟨U, Y⟩)
       apply Dag.old (i := 0)
       case ha | ho | hb => rfl
       case hE =>
        intro w9
        refine AWl.mv ?_
        exact AWl.nil (Le.sub0 U ⟨U, U, U, U, U, U, U, U, U, Y⟩ ⟨U, Y⟩)
       apply Dag.old (i := 1)
       case ha | ho | hb => rfl
       case hE =>
        intro w9
        refine AWl.mv ?_
        exact AWl.nil (Le.sub0 U ⟨U, U, U, U, U, U, U, U, U, Y⟩ ⟨U, Y⟩)
       apply Dag.old (i := 2)
       case ha | ho | hb => rfl
       case hE =>
        intro w9
        refine AWl.mv ?_
        exact AWl.nil (Le.sub0 U ⟨U, U, U, U, U, U, U, U, U, Y⟩ ⟨U, Y⟩)
       apply Dag.old (i := 4)
       case ha | ho | hb => rfl
       case hE =>
        intro w9
        refine AWl.mv ?_
        exact AWl.nil (Le.sub0 U ⟨U, U, U, U, U, U, U, U, U, Y⟩ ⟨U, Y⟩)
       apply Dag.new (i := 6)
       case ha | ho | hb => rfl
       case hE =>
        intro w9
        refine AWl.p (R_slice_vwr (m := k) U (.no U) U (.tm U) U .no (.yes (.tm U) (fun _ => by first | rfl | omega | (simp <;> omega))) Try.underlying22 ty3 (fun _ => ⟨by omega, by simp <;> omega⟩)) U ?_
        exact AWl.nil (Le.sub0 (σ' := ⟨_, [(4, _), (7, _), (8, _), (37, _), (38, _), (39, _), (44, _)], [(30, _)]⟩) U ⟨U, U, U, U, U, U, U, Y⟩ ⟨U, Y⟩)
       apply Dag.old (i := 0)
       case ha | ho | hb => rfl
       case hE =>
        intro w9
        refine AWl.mv ?_
        exact AWl.nil (Le.sub0 U ⟨U, U, U, U, U, U, U, Y⟩ ⟨U, Y⟩)
       apply Dag.old (i := 1)
       case ha | ho | hb => rfl
       case hE =>
        intro w9
        refine AWl.mv ?_
        exact AWl.nil (Le.sub0 U ⟨U, U, U, U, U, U, U, Y⟩ ⟨U, Y⟩)
       apply Dag.new (i := 6)
       case ha | ho | hb => rfl
       case hE =>
        intro w9
        refine AWl.p (R_slice_vwr (m := k) U (.no U) U (.tm U) U .no (.yes (.tm U) (fun _ => by first | rfl | omega | (simp <;> omega))) Try.underlying22 ty3 (fun _ => ⟨by omega, by simp <;> omega⟩)) U ?_
        exact AWl.nil (Le.sub0 (σ' := ⟨_, [(4, _), (7, _), (8, _), (37, _), (38, _), (40, _), (44, _)], [(30, _)]⟩) U ⟨U, U, U, U, U, U, U, Y⟩ ⟨U, Y⟩)
       apply Dag.old (i := 0)
       case ha | ho | hb => rfl
       case hE =>
        intro w9
        refine AWl.mv ?_
        exact AWl.nil (Le.sub0 U ⟨U, U, U, U, U, U, U, Y⟩ ⟨U, Y⟩)
       apply Dag.old (i := 2)
       case ha | ho | hb => rfl
       case hE =>
        intro w9
        refine AWl.mv ?_
        exact AWl.nil (Le.sub0 U ⟨U, U, U, U, U, U, U, Y⟩ ⟨U, Y⟩)
       apply Dag.new (i := 5)
       case ha | ho | hb => rfl
       case hE =>
        intro w9
        refine AWl.mv ?_
        exact AWl.nil (Le.sub0 (σ' := ⟨_, [(4, _), (7, _), (8, _), (37, _), (41, _), (42, _), (43, _)], [(30, _)]⟩) U ⟨U, U, U, U, U, U, U, Y⟩ ⟨U, Y⟩)
       apply Dag.old (i := 3)
       case ha | ho | hb => rfl
       case hE =>
        intro w9
        refine AWl.p ((by exact R_slice_rf (m := k) U (.no U) U (.tm U) U (.yes (.tm U) (fun _ => by first | rfl | omega | (simp <;> omega))) Try.underlying22 ty3 (fun _ => by simp <;> omega))) U ?_
        exact AWl.nil (Le.sub0 U ⟨U, U, U, U, U, U, U, Y⟩ ⟨U, Y⟩)
       apply Dag.old (i := 4)
       case ha | ho | hb => rfl
       case hE =>
        intro w9
        refine AWl.mv ?_
        exact AWl.nil (Le.sub0 U ⟨U, U, U, U, U, U, U, Y⟩ ⟨U, Y⟩)
       apply Dag.new (i := 6)
       case ha | ho | hb => rfl
       case hE =>
        intro w9
        refine AWl.p (R_slice_vwr (m := k) U (.no U) U (.tm U) U .no (.yes (.tm U) (fun _ => by first | rfl | omega | (simp <;> omega))) Try.underlying22 ty3 (fun _ => ⟨by omega, by simp <;> omega⟩)) U ?_
        exact AWl.nil (Le.sub0 (σ' := ⟨_, [(4, _), (7, _), (8, _), (37, _), (39, _), (40, _), (44, _)], [(30, _)]⟩) U ⟨U, U, U, U, U, U, U, Y⟩ ⟨U, Y⟩)
       apply Dag.old (i := 1)
       case ha | ho | hb => rfl
       case hE =>
        intro w9
        refine AWl.mv ?_
        exact AWl.nil (Le.sub0 U ⟨U, U, U, U, U, U, U, Y⟩ ⟨U, Y⟩)
       apply Dag.old (i := 2)
       case ha | ho | hb => rfl
       case hE =>
        intro w9
        refine AWl.mv ?_
        exact AWl.nil (Le.sub0 U ⟨U, U, U, U, U, U, U, Y⟩ ⟨U, Y⟩)
       apply Dag.new (i := 5)
       case ha | ho | hb => rfl
       case hE =>
        intro w9
        refine AWl.mv ?_
        exact AWl.nil (Le.sub0 (σ' := ⟨_, [(4, _), (7, _), (8, _), (37, _), (38, _), (41, _), (42, _), (43, _)], [(30, _)]⟩) U ⟨U, U, U, U, U, U, U, U, Y⟩ ⟨U, Y⟩)
       apply Dag.old (i := 0)
       case ha | ho | hb => rfl
       case hE =>
        intro w9
        refine AWl.mv ?_
        exact AWl.nil (Le.sub0 U ⟨U, U, U, U, U, U, U, U, Y⟩ ⟨U, Y⟩)
       apply Dag.old (i := 3)
       case ha | ho | hb => rfl
       case hE =>
        intro w9
        refine AWl.p ((by exact R_slice_rf (m := k) U (.no U) U (.tm U) U (.yes (.tm U) (fun _ => by first | rfl | omega | (simp <;> omega))) Try.underlying22 ty3 (fun _ => by simp <;> omega))) U ?_
        exact AWl.nil (Le.sub0 U ⟨U, U, U, U, U, U, U, U, Y⟩ ⟨U, Y⟩)
       apply Dag.old (i := 4)
       case ha | ho | hb => rfl
       case hE =>
        intro w9
        refine AWl.mv ?_
        exact AWl.nil (Le.sub0 U ⟨U, U, U, U, U, U, U, U, Y⟩ ⟨U, Y⟩)
       apply Dag.new (i := 6)
       case ha | ho | hb => rfl
       case hE =>
        intro w9
        refine AWl.p (R_slice_vwr (m := k) U (.no U) U (.tm U) U .no (.yes (.tm U) (fun _ => by first | rfl | omega | (simp <;> omega))) Try.underlying22 ty3 (fun _ => ⟨by omega, by simp <;> omega⟩)) U ?_
        exact AWl.nil (Le.sub0 (σ' := ⟨_, [(4, _), (7, _), (8, _), (37, _), (38, _), (39, _), (40, _), (44, _)], [(30, _)]⟩) U ⟨U, U, U, U, U, U, U, U, Y⟩ ⟨U, Y⟩)
       apply Dag.old (i := 0)
       case ha | ho | hb => rfl
       case hE =>
        intro w9
        refine AWl.mv ?_
        exact AWl.nil (Le.sub0 U ⟨U, U, U, U, U, U, U, U, Y⟩ ⟨U, Y⟩)
       apply Dag.old (i := 1)
       case ha | ho | hb => rfl
       case hE =>
        intro w9
        refine AWl.mv ?_
        exact AWl.nil (Le.sub0 U ⟨U, U, U, U, U, U, U, U, Y⟩ ⟨U, Y⟩)
       apply Dag.old (i := 2)
       case ha | ho | hb => rfl
       case hE =>
        intro w9
        refine AWl.mv ?_
        exact AWl.nil (Le.sub0 U ⟨U, U, U, U, U, U, U, U, Y⟩ ⟨U, Y⟩)
       apply Dag.new (i := 6)
       case ha | ho | hb => rfl
       case hE =>
        intro w9
        refine AWl.p (R_slice_vwr (m := k) U (.no U) U (.tm U) U .no (.yes (.tm U) (fun _ => by first | rfl | omega | (simp <;> omega))) Try.underlying22 ty3 (fun _ => ⟨by omega, by simp <;> omega⟩)) U ?_
        exact AWl.nil (Le.sub0 (σ' := ⟨_, [(4, _), (7, _), (8, _), (37, _), (41, _), (44, _)], [(30, _)]⟩) U ⟨U, U, U, U, U, U, Y⟩ ⟨U, Y⟩)
       apply Dag.old (i := 3)
       case ha | ho | hb => rfl
       case hE =>
        intro w9
        refine AWl.p ((by exact R_slice_rf (m := k) U (.no U) U (.tm U) U (.yes (.tm U) (fun _ => by first | rfl | omega | (simp <;> omega))) Try.underlying22 ty3 (fun _ => by simp <;> omega))) U ?_
        exact AWl.nil (Le.sub0 U ⟨U, U, U, U, U, U, Y⟩ ⟨U, Y⟩)
       apply Dag.new (i := 6)
       case ha | ho | hb => rfl
       case hE =>
        intro w9
        refine AWl.p (R_slice_vwr (m := k) U (.no U) U (.tm U) U .no (.yes (.tm U) (fun _ => by first | rfl | omega | (simp <;> omega))) Try.underlying22 ty3 (fun _ => ⟨by omega, by simp <;> omega⟩)) U ?_
        exact AWl.nil (Le.sub0 (σ' := ⟨_, [(4, _), (7, _), (8, _), (37, _), (38, _), (41, _), (44, _)], [(30, _)]⟩) U ⟨U, U, U, U, U, U, U, Y⟩ ⟨U, Y⟩)
       apply Dag.old (i := 0)
       case ha | ho | hb => rfl
       case hE =>
        intro w9
        refine AWl.mv ?_
        exact AWl.nil (Le.sub0 U ⟨U, U, U, U, U, U, U, Y⟩ ⟨U, Y⟩)
       apply Dag.old (i := 3)
       case ha | ho | hb => rfl
       case hE =>
        intro w9
        refine AWl.p ((by exact R_slice_rf (m := k) U (.no U) U (.tm U) U (.yes (.tm U) (fun _ => by first | rfl | omega | (simp <;> omega))) Try.underlying22 ty3 (fun _ => by simp <;> omega))) U ?_
        exact AWl.nil (Le.sub0 U ⟨U, U, U, U, U, U, U, Y⟩ ⟨U, Y⟩)
       apply Dag.new (i := 7)
       case ha | ho | hb => rfl
       case hE =>
        intro w9
        refine AWl.updput (R_copy (c := min k (n - k)) U U U (.tm U) U (.tm U) (by exact .vw) (by exact isV_map (fun _ => rfl) _) (by exact isV_part (fun _ => rfl) _ _ _) Try.underlying22 ty3 (by simp <;> omega)) U ?_
        exact AWl.nil (Le.sub0 (σ' := ⟨_, [(4, _), (7, _), (8, _), (37, _), (45, _)], [(30, _)]⟩) U ⟨U, U, U, U, U, Y⟩ ⟨U, Y⟩)
       apply Dag.new (i := 7)
       case ha | ho | hb => rfl
       case hE =>
        intro w9
        refine AWl.updput (R_copy (c := min k (n - k)) U U U (.tm U) U (.tm U) (by exact .vw) (by exact isV_map (fun _ => rfl) _) (by exact isV_part (fun _ => rfl) _ _ _) Try.underlying22 ty3 (by simp <;> omega)) U ?_
        exact AWl.nil (Le.sub0 (σ' := ⟨_, [(4, _), (7, _), (8, _), (37, _), (38, _), (45, _)], [(30, _)]⟩) U ⟨U, U, U, U, U, U, Y⟩ ⟨U, Y⟩)
       apply Dag.old (i := 0)
       case ha | ho | hb => rfl
       case hE =>
        intro w9
        refine AWl.mv ?_
        exact AWl.nil (Le.sub0 U ⟨U, U, U, U, U, U, Y⟩ ⟨U, Y⟩)
       apply Dag.new (i := 8)
       case ha | ho | hb => rfl
       case hE =>
        intro w9
        refine AWl.p (R_add U (.no U) U (.tm U) (.tm U) (fun _ => by omega)) U ?_
        exact AWl.nil (Le.sub0 (σ' := ⟨_, [(4, _), (7, _), (8, _), (37, _), (46, _)], [(30, _)]⟩) U ⟨U, U, U, U, U, Y⟩ ⟨U, Y⟩)
       apply Dag.new (i := 9)
       case ha | ho | hb => rfl
       case hE =>
        intro w9
        refine AWl.av ?_
        exact AWl.nil (Le.sub0 (σ' := ⟨_, [(4, _), (7, _), (8, _), (37, _)], [(30, _)]⟩) U ⟨U, U, U, U, Y⟩ ⟨U, Y⟩)
       refine Dag.fin (k := 53) U ?_
       refine AWl.nil ?_
       repeat (with_reducible refine BlockQ.nor ?_)
       refine Round1.next (k + min k (n - k)) ⟨by omega, Y⟩ (by omega) (Le.sub0 rfl ⟨rfl, rfl, rfl, Y⟩ ⟨(by refine congrArg (fun r => some (R.row 1 r)) ?_; rw [← rep_copy x 0 k n hk.2]; simp [List.map_take, List.map_drop]), Y⟩)
     · skip
       try simp at h37
       refine AW.exit ?_
       refine AW.sr ?_
       refine AWl.mv ?_
       refine AWl.av ?_
       refine AWl.nil (AW.ret ?_)
       refine Res.one U (.tmp U .nil) U ?_
       rw [show k = n by omega]; simp; rfl
theorem implspread (next : List (List Int)) (fr : List Int) (hN : 1 ≤ next.length ∧ next.length ≤ 65536) (hn : ∀ p, p < next.length → ∀ k ∈ nxL next p, 0 ≤ k ∧ k < next.length) (hz : ∀ p, p < next.length → (nxL next p).length ≤ 131072) (hf : ∀ q ∈ fr, 0 ≤ q ∧ q < (next.length : Int)) (hfz : fr.length ≤ 65536) : FnT Try.prog 63 [.one (.sl 1 (next.map cIntS)), .one (.sl 1 (fr.map cInt))] (.a (.one (.sl 1 ((spreadOf (nxL next) next.length fr).map cInt)))) := by
 refine FnT.walk Try.func63 U (by kernel_rfl) Try.ntmps63 U fun hlen w0 => ?_
 try simp [cPair, cToken, cExpr, cEdge, cGraph, cStep, cWalk, cChange, cBatch, cHistory, cPositions, cAutomaton, cProductStep, cPathAtom, cConjunction, cView, cDelta, cRegistered, cRegistry] at hlen
 refine AW.sr ?_
 refine AWl.ac ?_
 refine AWl.nilS (i := 4) 20001 1 U U ?_
 refine AWl.nil (AW.sr ?_)
 refine AWl.p (R_listz (xs := [.const (.int .i64 (-1))]) (rows := [cInt (-1)]) U U U (.cons (.const U) U U .nil) Try.underlying22 in3 U U (U)) U ?_
 refine AWl.mv ?_
 refine AWl.p (by exact R_lenm U (.no U) U (.tm U) (by exact .t) Try.underlying27) U ?_
 refine AWl.adds (R_call 1400 (slicesRepeat1 (-1) next.length hN.1 (by omega)) U U U (.cons (.tm U) U (.cons (.tm U) U .nil)) U U) U ?_
 refine AWl.av ?_
 refine AWl.nil (AW.sr ?_)
 refine AWl.add (R_empty 15 U U U Try.underlying22 ty3 U) U ?_
 refine AWl.le (Le.toTl (d := 15) U U) ?_
 refine AWl.av ?_
 refine AWl.nil (AW.seq ?_)
 refine AW.sr ?_
 refine AWl.mv ?_
 refine AWl.p (by exact R_lenm U (.no U) U (.tm U) (by exact .t) Try.underlying22) U ?_
 refine AWl.p (R_move U (.no U) U (.const U)) U ?_
 refine AWl.nil (AW.block ?_)
 refine AW.loop3 (fun (i : Nat) (J : Nat) (ρ : List (List T)) => (i ≤ fr.length ∧ J ≤ ρ.length ∧ ρ.flatten.all T.isV = true ∧ ρ.length ≤ i) ∧ ρ.drop J = (fr.take i).map cInt) (fun (i : Nat) (J : Nat) (ρ : List (List T)) => ⟨_, [(18, (true, .a (.one (.t (.v (.int .i64 (i : Nat))))))), (6, (true, .a (.one (.tl 15 1 J)))), (5, (true, .a (.one (.rf 1400)))), (0, _), (4, _), (16, _), (17, _)], [(15, .row 1 ρ), (1400, .row 1 ((zeroAll (fr.take i) (List.replicate next.length (-1))).map cInt))]⟩) (fun (i : Nat) (J : Nat) (ρ : List (List T)) => fr.length - i) (0) (0) ([]) ⟨⟨Nat.zero_le _, Nat.zero_le _, U, Nat.le_refl _⟩, U⟩ (Le.sub0 U ⟨U, U, U, U, U, U, U, Y⟩ ⟨U, (by refine congrArg (fun r => some (R.row 1 r)) ?_; first | rfl | (rw [List.take_of_length_le (by omega)]; done)), Y⟩) ?_
 rintro i J ρ ⟨hk, he⟩
 refine AW.sr ?_
 refine AWl.p (R_lt U (.no U) U (.tm U) (.tm U)) U ?_
 refine AWl.nil (AW.seq ?_)
 refine AW.cond (.tm U) (fun h19 => ?_) (fun h19 => ?_)
 · skip
   try simp at h19
   obtain ⟨x, hx⟩ : ∃ ξ, fr[i]? = some ξ := ⟨_, List.getElem?_eq_getElem (by omega)⟩
   have hxr := hf x (List.mem_of_getElem? hx)
   have hzl := zeroAll_len (fr.take i) (List.replicate next.length (-1))
   have hg0 := atI_get (out := zeroAll (fr.take i) (List.replicate next.length (-1))) (k := x) (by rw [hzl]; simp; omega)
   refine AW.skip ?_
   refine AW.seq ?_
   refine AW.block ?_
   refine AW.sr ?_
   refine AWl.p (by exact R_indexAddr U (.no U) U (.tm U) (.tm U) Try.underlying22 ty3 (fun _ => ⟨by omega, (by exact map_get hx)⟩)) U ?_
   refine AWl.p (by exact R_load U (.no U) U (.tm U) ty3 U U) U ?_
   refine AWl.av ?_
   refine AWl.nil (AW.sr ?_)
   refine AWl.mv ?_
   refine AWl.mv ?_
   refine AWl.p (by exact R_indexAddr_rf U (.no U) U (.tm U) U (.tm U) Try.underlying22 ty3 (fun _ => ⟨by omega, (by exact map_get hg0)⟩)) U ?_
   refine AWl.absupd (R_store_pr U U U (.const U) U (.tm U) U (by exact map_get hg0) ty3 U U U U) ?_
   refine AWl.nil ?_
   refine AW.le (σ' := ⟨_, [(0, _), (4, _), (5, _), (6, _), (8, _), (16, _), (17, _), (18, _)], [(15, _), (1400, _)]⟩) (Le.sub0 U ⟨U, U, U, U, U, U, U, U, Y⟩ ⟨U, U, Y⟩) ?_
   refine AW.region ?_
   refine AWl.mv ?_
   refine AWl.mv ?_
   refine AWl.p (R_listz (xs := [.tmp 26]) (rows := [cInt x]) U U U (.cons (.tm U) U U .nil) Try.underlying22 in3 U U (U)) U ?_
   refine AWl.appendTl (R_append_tl U U U (.tm U) U (.tm U) (by exact .t) hk.2.2.1 (by rfl) Try.underlying22 in3 U (by omega) (by (simp [chunk]; omega)) (by (unfold maxLen; simp [chunk]; omega))) U fun j28 ρ28 hj28 hd28 hv28 hl28 => ?_
   refine AWl.le (σ' := ⟨_, [(0, _), (4, _), (5, _), (6, _), (8, _), (16, _), (17, _), (18, _), (28, _)], [(15, _), (1400, _)]⟩) (Le.sub0 U ⟨U, U, U, U, U, U, U, U, U, Y⟩ ⟨U, U, Y⟩) ?_
   refine AWl.av ?_
   refine AWl.nil (AW.region ?_)
   refine AWl.p (R_add U (.no U) U (.tm U) (.const U) (fun _ => by omega)) U ?_
   refine AWl.mv ?_
   refine AWl.nil ?_
   repeat (with_reducible refine BlockQ.nor ?_)
   refine Round3.next (i + 1) (j28) (ρ28) ⟨⟨by omega, hj28, hv28, by simp at hl28; omega⟩, by rw [hd28, he, take_at hx]; simp⟩ (by omega) (Le.sub0 rfl ⟨rfl, rfl, rfl, rfl, rfl, rfl, rfl, Y⟩ ⟨(by rfl), (by refine congrArg (fun r => some (R.row 1 r)) ?_; first | (rw [zeroAll_at hx]; simp [List.map_set, cInt]; done) | (rw [relax_at hy, hrx]; simp [List.map_set, cInt]; done) | (rw [relax_at hy, hrn]; done) | (rw [htk]; done)), Y⟩)
 · skip
   try simp at h19
   have hst := bfs_start (N := next.length) hf
   have hng := negs_le (zeroAll fr (List.replicate next.length (-1)))
   rw [zeroAll_len, List.length_replicate] at hng
   rw [List.take_of_length_le (by omega)] at he
   refine AW.exit ?_
   refine AW.seq ?_
   refine AW.block ?_
   refine AW.loop4 (fun (O : List Int) (J1 : Nat) (ρ1 : List (List T)) (Q1 : List Int) => (BfsI next.length O Q1 ∧ J1 ≤ ρ1.length ∧ ρ1.flatten.all T.isV = true ∧ ρ1.length + negs O ≤ fr.length + next.length) ∧ ρ1.drop J1 = Q1.map cInt ∧ ∃ f, negs O + Q1.length < f ∧ bfs (nxL next) f O Q1 = spreadOf (nxL next) next.length fr) (fun (O : List Int) (J1 : Nat) (ρ1 : List (List T)) (Q1 : List Int) => ⟨_, [(6, (true, .a (.one (.tl 15 1 J1)))), (5, (true, .a (.one (.rf 1400)))), (0, _), (4, _)], [(15, .row 1 ρ1), (1400, .row 1 (O.map cInt))]⟩) (fun (O : List Int) (J1 : Nat) (ρ1 : List (List T)) (Q1 : List Int) => negs O + Q1.length) (zeroAll fr (List.replicate next.length (-1))) (J) (ρ) (fr) ⟨⟨hst, by omega, hk.2.2.1, by omega⟩, he, ⟨2 * next.length + fr.length + 1, by omega, U⟩⟩ (Le.sub0 U ⟨U, U, U, U, Y⟩ ⟨U, (by refine congrArg (fun r => some (R.row 1 r)) ?_; first | rfl | (rw [List.take_of_length_le (by omega)]; done)), Y⟩) ?_
   rintro O J1 ρ1 Q1 ⟨hk1, he1⟩
   refine AW.seq ?_
   refine AW.sr ?_
   refine AWl.mv ?_
   refine AWl.p (by exact R_len_tl U (.no U) U (.tm U) U Try.underlying22) U ?_
   refine AWl.p (R_gt U (.no U) U (.tm U) (.const U)) U ?_
   refine AWl.nil ?_
   refine AW.cond (.tm U) (fun h32 => ?_) (fun h32 => ?_)
   · skip
     try simp at h32
     have hql : Q1.length = ρ1.length - J1 := by (have := congrArg List.length he1.1; simp at this; omega)
     obtain ⟨q, r, rfl⟩ : ∃ q r, Q1 = q :: r := (by cases Q1 with | nil => (simp at hql; omega) | cons q r => exact ⟨q, r, rfl⟩)
     have hqr := hk1.1.mem q (by simp)
     have hl0 := hk1.1.len
     obtain ⟨l, hl⟩ : ∃ ξ, next[q.toNat]? = some ξ := ⟨_, List.getElem?_eq_getElem (by omega)⟩
     have hln := nxL_at hl
     have hq0 : ρ1[J1 + (0 : Int).toNat]? = some (cInt q) := by (have := congrArg (fun l => l[0]?) he1.1; simpa [List.getElem?_drop] using this)
     have hnq := hn q.toNat (by omega)
     have hzq := hz q.toNat (by omega)
     have hR := BfsI.relax (N := next.length) hqr (l := nxL next q.toNat) (st := (O, r)) hk1.1.tail hnq
     dsimp only at hR
     obtain ⟨f, hf1, hf2⟩ := he1.2
     refine AW.skip ?_
     refine AW.seq ?_
     refine AW.block ?_
     refine AW.sr ?_
     refine AWl.mv ?_
     refine AWl.mv ?_
     refine AWl.p (by exact R_indexAddr_tl U (.no U) U (.tm U) U (.const U) Try.underlying22 ty3 (fun _ => ⟨by omega, hq0⟩)) U ?_
     refine AWl.p (by exact R_load_pr U (.no U) U (.tm U) U (by exact hq0) ty3 U U) U ?_
     refine AWl.p (by exact R_indexAddr U (.no U) U (.tm U) (.tm U) Try.underlying27 ty22 (fun _ => ⟨by omega, (by exact map_get hl)⟩)) U ?_
     refine AWl.p (by exact R_load U (.no U) U (.tm U) ty22 U U) U ?_
     refine AWl.p (by exact R_lenm U (.no U) U (.tm U) (by exact .t) Try.underlying22) U ?_
     refine AWl.p (R_move U (.no U) U (.const U)) U ?_
     refine AWl.nil (AW.block ?_)
     refine AW.loop3 (fun (j : Nat) (J2 : Nat) (ρ2 : List (List T)) => (j ≤ (nxL next q.toNat).length ∧ J2 ≤ ρ2.length ∧ ρ2.flatten.all T.isV = true ∧ ρ2.length + negs (relax q ((nxL next q.toNat).take j) (O, r)).1 ≤ fr.length + next.length) ∧ ρ2.drop J2 = (q :: (relax q ((nxL next q.toNat).take j) (O, r)).2).map cInt) (fun (j : Nat) (J2 : Nat) (ρ2 : List (List T)) => ⟨_, [(42, (true, .a (.one (.t (.v (.int .i64 (j : Nat))))))), (6, (true, .a (.one (.tl 15 1 J2)))), (5, (true, .a (.one (.rf 1400)))), (0, _), (4, _), (40, _), (41, _)], [(15, .row 1 ρ2), (1400, .row 1 ((relax q ((nxL next q.toNat).take j) (O, r)).1.map cInt))]⟩) (fun (j : Nat) (J2 : Nat) (ρ2 : List (List T)) => (nxL next q.toNat).length - j) (0) (J1) (ρ1) ⟨⟨Nat.zero_le _, hk1.2.1, hk1.2.2.1, hk1.2.2.2⟩, he1.1⟩ (Le.sub0 U ⟨U, U, U, U, U, U, U, Y⟩ ⟨U, (by refine congrArg (fun r => some (R.row 1 r)) ?_; first | rfl | (rw [List.take_of_length_le (by omega)]; done)), Y⟩) ?_
     rintro j J2 ρ2 ⟨hk2, he2⟩
     refine AW.sr ?_
     refine AWl.p (R_lt U (.no U) U (.tm U) (.tm U)) U ?_
     refine AWl.nil (AW.seq ?_)
     refine AW.cond (.tm U) (fun h43 => ?_) (fun h43 => ?_)
     · skip
       try simp at h43
       obtain ⟨y, hy⟩ : ∃ ξ, (nxL next q.toNat)[j]? = some ξ := ⟨_, List.getElem?_eq_getElem (by rw [← hln] at h43; omega)⟩
       have hy3 : l[j]? = some y := by rw [← hln]; exact hy
       have hjl : j < (nxL next q.toNat).length := by (rw [hln]; omega)
       have hyr := hnq y (List.mem_of_getElem? hy)
       have hst := BfsI.relax (N := next.length) hqr (l := (nxL next q.toNat).take j) (st := (O, r)) hk1.1.tail (fun k hk => hnq k (List.mem_of_mem_take hk))
       dsimp only at hst
       have hgk := atI_get (out := (relax q ((nxL next q.toNat).take j) (O, r)).1) (k := y) (by rw [hst.1.len]; omega)
       have hgq := atI_get (out := (relax q ((nxL next q.toNat).take j) (O, r)).1) (k := q) (by rw [hst.1.len]; omega)
       have hvq := hst.1.val _ (List.mem_of_getElem? hgq)
       have hq2 : ρ2[J2 + (0 : Int).toNat]? = some (cInt q) := by (have := congrArg (fun l => l[0]?) he2; simpa [List.getElem?_drop] using this)
       refine AW.skip ?_
       refine AW.seq ?_
       refine AW.block ?_
       refine AW.sr ?_
       refine AWl.p (by exact R_indexAddr U (.no U) U (.tm U) (.tm U) Try.underlying22 ty3 (fun _ => ⟨by omega, (by exact map_get hy3)⟩)) U ?_
       refine AWl.p (by exact R_load U (.no U) U (.tm U) ty3 U U) U ?_
       refine AWl.av ?_
       refine AWl.nil (AW.sr ?_)
       refine AWl.mv ?_
       refine AWl.mv ?_
       refine AWl.p (by exact R_indexAddr_rf U (.no U) U (.tm U) U (.tm U) Try.underlying22 ty3 (fun _ => ⟨by omega, (by exact map_get hgk)⟩)) U ?_
       refine AWl.p (by exact R_load_pr U (.no U) U (.tm U) U (by exact map_get hgk) ty3 U U) U ?_
       refine AWl.p (R_lt U (.no U) U (.tm U) (.const U)) U ?_
       refine AWl.nil ?_
       refine AW.cond (.tm U) (fun h50 => ?_) (fun h50 => ?_)
       · skip
         try simp at h50
         have hneg := negs_set (v := atI (relax q ((nxL next q.toNat).take j) (O, r)).1 q + 1) (by omega) hgk h50
         have hrx : rlx q (relax q ((nxL next q.toNat).take j) (O, r)) y = ((relax q ((nxL next q.toNat).take j) (O, r)).1.set y.toNat (atI (relax q ((nxL next q.toNat).take j) (O, r)).1 q + 1), (relax q ((nxL next q.toNat).take j) (O, r)).2 ++ [y]) := by (unfold rlx; rw [if_pos h50])
         refine AW.seq ?_
         refine AW.le (σ' := ⟨_, [(0, _), (4, _), (5, _), (6, _), (10, _), (40, _), (41, _), (42, _)], [(15, _), (1400, _)]⟩) (Le.sub0 U ⟨U, U, U, U, U, U, U, U, Y⟩ ⟨U, U, Y⟩) ?_
         refine AW.region ?_
         refine AWl.mv ?_
         refine AWl.mv ?_
         refine AWl.mv ?_
         refine AWl.mv ?_
         refine AWl.p (by exact R_indexAddr_tl U (.no U) U (.tm U) U (.const U) Try.underlying22 ty3 (fun _ => ⟨by omega, hq2⟩)) U ?_
         refine AWl.p (by exact R_load_pr U (.no U) U (.tm U) U (by exact hq2) ty3 U U) U ?_
         refine AWl.p (by exact R_indexAddr_rf U (.no U) U (.tm U) U (.tm U) Try.underlying22 ty3 (fun _ => ⟨by omega, (by exact map_get hgq)⟩)) U ?_
         refine AWl.p (by exact R_load_pr U (.no U) U (.tm U) U (by exact map_get hgq) ty3 U U) U ?_
         refine AWl.p (R_add U (.no U) U (.tm U) (.const U) (fun _ => by omega)) U ?_
         refine AWl.p (by exact R_indexAddr_rf U (.no U) U (.tm U) U (.tm U) Try.underlying22 ty3 (fun _ => ⟨by omega, (by exact map_get hgk)⟩)) U ?_
         refine AWl.absupd (R_store_pr U U U (.tm U) U (.tm U) U (by exact map_get hgk) ty3 U U U U) ?_
         refine AWl.nil ?_
         refine AW.le (σ' := ⟨_, [(0, _), (4, _), (5, _), (6, _), (10, _), (40, _), (41, _), (42, _)], [(15, _), (1400, _)]⟩) (Le.sub0 U ⟨U, U, U, U, U, U, U, U, Y⟩ ⟨U, U, Y⟩) ?_
         refine AW.region ?_
         refine AWl.mv ?_
         refine AWl.mv ?_
         refine AWl.p (R_listz (xs := [.tmp 62]) (rows := [cInt y]) U U U (.cons (.tm U) U U .nil) Try.underlying22 in3 U U (U)) U ?_
         refine AWl.appendTl (R_append_tl U U U (.tm U) U (.tm U) (by exact .t) hk2.2.2.1 (by rfl) Try.underlying22 in3 U (by omega) (by (simp [chunk]; omega)) (by (unfold maxLen; simp [chunk]; omega))) U fun j64 ρ64 hj64 hd64 hv64 hl64 => ?_
         refine AWl.le (σ' := ⟨_, [(0, _), (4, _), (5, _), (6, _), (10, _), (40, _), (41, _), (42, _), (64, _)], [(15, _), (1400, _)]⟩) (Le.sub0 U ⟨U, U, U, U, U, U, U, U, U, Y⟩ ⟨U, U, Y⟩) ?_
         refine AWl.av ?_
         refine AWl.nil (AW.region ?_)
         refine AWl.p (R_add U (.no U) U (.tm U) (.const U) (fun _ => by omega)) U ?_
         refine AWl.mv ?_
         refine AWl.nil ?_
         repeat (with_reducible refine BlockQ.nor ?_)
         refine Round3.next (j + 1) (j64) (ρ64) ⟨⟨by omega, hj64, hv64, by rw [relax_at hy, hrx]; simp only; simp at hl64; omega⟩, by rw [hd64, he2, relax_at hy, hrx]; simp⟩ (by omega) (Le.sub0 rfl ⟨rfl, rfl, rfl, rfl, rfl, rfl, rfl, Y⟩ ⟨(by rfl), (by refine congrArg (fun r => some (R.row 1 r)) ?_; first | (rw [zeroAll_at hx]; simp [List.map_set, cInt]; done) | (rw [relax_at hy, hrx]; simp [List.map_set, cInt]; done) | (rw [relax_at hy, hrn]; done) | (rw [htk]; done)), Y⟩)
       · skip
         try simp at h50
         have hrn : rlx q (relax q ((nxL next q.toNat).take j) (O, r)) y = relax q ((nxL next q.toNat).take j) (O, r) := by (unfold rlx; rw [if_neg (by omega)])
         refine AW.skip ?_
         refine AW.le (σ' := ⟨_, [(0, _), (4, _), (5, _), (6, _), (10, _), (40, _), (41, _), (42, _)], [(15, _), (1400, _)]⟩) (Le.sub0 U ⟨U, U, U, U, U, U, U, U, Y⟩ ⟨U, U, Y⟩) ?_
         refine AW.region ?_
         refine AWl.p (R_add U (.no U) U (.tm U) (.const U) (fun _ => by omega)) U ?_
         refine AWl.mv ?_
         refine AWl.nil ?_
         repeat (with_reducible refine BlockQ.nor ?_)
         refine Round3.next (j + 1) (J2) (ρ2) ⟨⟨by omega, hk2.2.1, hk2.2.2.1, by rw [relax_at hy, hrn]; exact hk2.2.2.2⟩, by rw [he2, relax_at hy, hrn]⟩ (by omega) (Le.sub0 rfl ⟨rfl, rfl, rfl, rfl, rfl, rfl, rfl, Y⟩ ⟨(by rfl), (by refine congrArg (fun r => some (R.row 1 r)) ?_; first | (rw [zeroAll_at hx]; simp [List.map_set, cInt]; done) | (rw [relax_at hy, hrx]; simp [List.map_set, cInt]; done) | (rw [relax_at hy, hrn]; done) | (rw [htk]; done)), Y⟩)
     · skip
       try simp at h43
       have htk : (nxL next q.toNat).take j = nxL next q.toNat := List.take_of_length_le (by rw [hln]; omega)
       rw [htk] at hk2 he2
       have hdr : ρ2.drop (J2 + 1) = (relax q (nxL next q.toNat) (O, r)).2.map cInt := by (rw [← List.drop_drop, he2]; rfl)
       have hJ2 : J2 + 1 ≤ ρ2.length := by (have := congrArg List.length he2; simp at this; omega)
       have hbf : ∃ f, negs (relax q (nxL next q.toNat) (O, r)).1 + (relax q (nxL next q.toNat) (O, r)).2.length < f ∧ bfs (nxL next) f (relax q (nxL next q.toNat) (O, r)).1 (relax q (nxL next q.toNat) (O, r)).2 = spreadOf (nxL next) next.length fr := by (obtain ⟨f', rfl⟩ : ∃ f', f = f' + 1 := ⟨f - 1, by omega⟩; exact ⟨f', by have := hR.2.1; simp only [List.length_cons] at hf1; omega, hf2⟩)
       refine AW.exit ?_
       refine AW.region ?_
       refine AWl.mv ?_
       refine AWl.p ((by exact R_slice_tl (m := 1) U (.no U) U (.tm U) U (.yes (.const U) (fun _ => by first | rfl | omega | (simp <;> omega))) Try.underlying22 ty3 (fun _ => by omega))) U ?_
       refine AWl.av ?_
       refine AWl.nil ?_
       repeat (with_reducible refine BlockQ.nor ?_)
       refine Round4.next ((relax q (nxL next q.toNat) (O, r)).1) (J2 + 1) (ρ2) ((relax q (nxL next q.toNat) (O, r)).2) ⟨⟨hR.1, hJ2, hk2.2.2.1, hk2.2.2.2⟩, hdr, hbf⟩ (by have := hR.2.1; simp only [List.length_cons] at this ⊢; omega) (Le.sub0 rfl ⟨rfl, rfl, rfl, rfl, Y⟩ ⟨(by rfl), (by refine congrArg (fun r => some (R.row 1 r)) ?_; first | (rw [zeroAll_at hx]; simp [List.map_set, cInt]; done) | (rw [relax_at hy, hrx]; simp [List.map_set, cInt]; done) | (rw [relax_at hy, hrn]; done) | (rw [htk]; done)), Y⟩)
   · skip
     try simp at h32
     have hO : O = spreadOf (nxL next) next.length fr := by (obtain ⟨f, hf1, hf2⟩ := he1.2; have hQ : Q1 = [] := List.eq_nil_of_length_eq_zero (by have := congrArg List.length he1.1; simp at this; omega); subst hQ; rw [bfs_nil (by omega)] at hf2; exact hf2)
     refine AW.exit ?_
     refine AW.sr ?_
     refine AWl.mv ?_
     refine AWl.av ?_
     refine AWl.nil (AW.ret ?_)
     refine Res.one U (.tmp U .nil) U ?_
     rw [hO]; rfl
end Go.Proofs.Ytamnfkfjfelbbaa
