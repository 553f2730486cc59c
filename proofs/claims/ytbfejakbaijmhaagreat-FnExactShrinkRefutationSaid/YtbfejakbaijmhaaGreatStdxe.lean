/- Merged texts. -/
import Derived.Test.YtbfejakbaijmhaaGreatDataxe
import Derived.Test.YtbfejakbaijmhaaGreatProg
namespace Go.Proofs.YtbfejakbaijmhaaGreat
open Go.RowKit Go.Q
theorem ty3 : tyB Tryz.prog 3 false 1 = true := by kernel_rfl
theorem in3 : (Tryz.prog.info? 3).map (fun i => (i.zero, i.size, i.bytes)) = some (some (.int .i64 0), 1, 8) := by kernel_rfl
theorem ty22 : tyB Tryz.prog 22 false 1 = true := by kernel_rfl
theorem ty23 : tyB Tryz.prog 23 false 1 = true := by kernel_rfl
theorem ty25 : tyB Tryz.prog 25 true 2 = true := by kernel_rfl
theorem fl25_0 : fldB Tryz.prog 25 0 0 = true := by kernel_rfl
theorem fl25_1 : fldB Tryz.prog 25 1 1 = true := by kernel_rfl
theorem ty26 : tyB Tryz.prog 26 false 1 = true := by kernel_rfl
theorem ty28 : tyB Tryz.prog 28 true 1 = true := by kernel_rfl
theorem fl28_0 : fldB Tryz.prog 28 0 0 = true := by kernel_rfl
theorem ty31 : tyB Tryz.prog 31 false 1 = true := by kernel_rfl
theorem ty33 : tyB Tryz.prog 33 true 2 = true := by kernel_rfl
theorem in33 : (Tryz.prog.info? 33).map (fun i => (i.zero, i.size, i.bytes)) = some (some (.agg #[.slice none 0 0, .slice none 0 0]), 2, 48) := by kernel_rfl
theorem st33 : (match Tryz.prog.underlying 33 with | some (.struct fs) => fs.all (fun f => (Tryz.prog.info? f.type).isSome) | _ => false) = true := by kernel_rfl
theorem fl33_0 : fldB Tryz.prog 33 0 0 = true := by kernel_rfl
theorem fp33_0 : (match Tryz.prog.underlying 33 with | some (.struct fs) => (match fs[0]? with | some f => Nat.beq f.offset 0 && (match Tryz.prog.info? f.type with | some i => Nat.beq i.size 1 | none => false) | none => false) | _ => false) = true := by kernel_rfl
theorem fl33_1 : fldB Tryz.prog 33 1 1 = true := by kernel_rfl
theorem fp33_1 : (match Tryz.prog.underlying 33 with | some (.struct fs) => (match fs[1]? with | some f => Nat.beq f.offset 1 && (match Tryz.prog.info? f.type with | some i => Nat.beq i.size 1 | none => false) | none => false) | _ => false) = true := by kernel_rfl
theorem ty37 : tyB Tryz.prog 37 false 1 = true := by kernel_rfl
theorem ty39 : tyB Tryz.prog 39 true 1 = true := by kernel_rfl
theorem in39 : (Tryz.prog.info? 39).map (fun i => (i.zero, i.size, i.bytes)) = some (some (.agg #[.slice none 0 0]), 1, 24) := by kernel_rfl
theorem fl39_0 : fldB Tryz.prog 39 0 0 = true := by kernel_rfl
theorem ty72 : tyB Tryz.prog 72 true 4 = true := by kernel_rfl
theorem in72 : (Tryz.prog.info? 72).map (fun i => (i.zero, i.size, i.bytes)) = some (some (.agg #[.int .i64 0, .int .i64 0, .int .i64 0, .int .i64 0]), 4, 32) := by kernel_rfl
theorem fl72_0 : fldB Tryz.prog 72 0 0 = true := by kernel_rfl
theorem fl72_1 : fldB Tryz.prog 72 1 1 = true := by kernel_rfl
theorem fl72_2 : fldB Tryz.prog 72 2 2 = true := by kernel_rfl
theorem fl72_3 : fldB Tryz.prog 72 3 3 = true := by kernel_rfl
theorem ty92 : tyB Tryz.prog 92 true 2 = true := by kernel_rfl
theorem in92 : (Tryz.prog.info? 92).map (fun i => (i.zero, i.size, i.bytes)) = some (some (.agg #[.int .i64 0, .int .i64 0]), 2, 16) := by kernel_rfl
theorem st92 : (match Tryz.prog.underlying 92 with | some (.struct fs) => fs.all (fun f => (Tryz.prog.info? f.type).isSome) | _ => false) = true := by kernel_rfl
theorem eqS92 (x0 : Int) (x1 : Int) (y0 : Int) (y1 : Int) (w : World) : (binOp .eql 92 (.agg (List.toArray [.int .i64 x0, .int .i64 x1])) (.agg (List.toArray [.int .i64 y0, .int .i64 y1]))).run Tryz.prog w = .ok (.bool ((decide (x0 = y0) && decide (x1 = y1)))) w := by
  have hs : Tryz.prog.stoodInHeld 92 = false := by kernel_rfl
  simp [go_sem, hs, Tryz.underlying92]
  repeat' split
  all_goals simp [*]
theorem neS92 (x0 : Int) (x1 : Int) (y0 : Int) (y1 : Int) (w : World) : (binOp .neq 92 (.agg (List.toArray [.int .i64 x0, .int .i64 x1])) (.agg (List.toArray [.int .i64 y0, .int .i64 y1]))).run Tryz.prog w = .ok (.bool (!(decide (x0 = y0) && decide (x1 = y1)))) w := by
  have hs : Tryz.prog.stoodInHeld 92 = false := by kernel_rfl
  simp [go_sem, hs, Tryz.underlying92]
  repeat' split
  all_goals simp [*]
theorem fl92_0 : fldB Tryz.prog 92 0 0 = true := by kernel_rfl
theorem fp92_0 : (match Tryz.prog.underlying 92 with | some (.struct fs) => (match fs[0]? with | some f => Nat.beq f.offset 0 && (match Tryz.prog.info? f.type with | some i => Nat.beq i.size 1 | none => false) | none => false) | _ => false) = true := by kernel_rfl
theorem fl92_1 : fldB Tryz.prog 92 1 1 = true := by kernel_rfl
theorem fp92_1 : (match Tryz.prog.underlying 92 with | some (.struct fs) => (match fs[1]? with | some f => Nat.beq f.offset 1 && (match Tryz.prog.info? f.type with | some i => Nat.beq i.size 1 | none => false) | none => false) | _ => false) = true := by kernel_rfl
theorem ty97 : tyB Tryz.prog 97 true 4 = true := by kernel_rfl
theorem fl97_0 : fldB Tryz.prog 97 0 0 = true := by kernel_rfl
theorem fl97_1 : fldB Tryz.prog 97 1 1 = true := by kernel_rfl
theorem fl97_2 : fldB Tryz.prog 97 2 2 = true := by kernel_rfl
theorem fl97_3 : fldB Tryz.prog 97 3 3 = true := by kernel_rfl
theorem ty99 : tyB Tryz.prog 99 true 4 = true := by kernel_rfl
theorem in99 : (Tryz.prog.info? 99).map (fun i => (i.zero, i.size, i.bytes)) = some (some (.agg #[.int .i64 0, .int .i64 0, .int .i64 0, .int .i64 0]), 4, 32) := by kernel_rfl
theorem st99 : (match Tryz.prog.underlying 99 with | some (.struct fs) => fs.all (fun f => (Tryz.prog.info? f.type).isSome) | _ => false) = true := by kernel_rfl
theorem eqS99 (x0 : Int) (x1 : Int) (x2 : Int) (x3 : Int) (y0 : Int) (y1 : Int) (y2 : Int) (y3 : Int) (w : World) : (binOp .eql 99 (.agg (List.toArray [.int .i64 x0, .int .i64 x1, .int .i64 x2, .int .i64 x3])) (.agg (List.toArray [.int .i64 y0, .int .i64 y1, .int .i64 y2, .int .i64 y3]))).run Tryz.prog w = .ok (.bool ((decide (x0 = y0) && decide (x1 = y1) && decide (x2 = y2) && decide (x3 = y3)))) w := by
  have hs : Tryz.prog.stoodInHeld 99 = false := by kernel_rfl
  simp [go_sem, hs, Tryz.underlying99]
  repeat' split
  all_goals simp [*]
theorem fl99_0 : fldB Tryz.prog 99 0 0 = true := by kernel_rfl
theorem fp99_0 : (match Tryz.prog.underlying 99 with | some (.struct fs) => (match fs[0]? with | some f => Nat.beq f.offset 0 && (match Tryz.prog.info? f.type with | some i => Nat.beq i.size 1 | none => false) | none => false) | _ => false) = true := by kernel_rfl
theorem fl99_1 : fldB Tryz.prog 99 1 1 = true := by kernel_rfl
theorem fl99_2 : fldB Tryz.prog 99 2 2 = true := by kernel_rfl
theorem fl99_3 : fldB Tryz.prog 99 3 3 = true := by kernel_rfl
theorem ty101 : tyB Tryz.prog 101 true 4 = true := by kernel_rfl
theorem fl101_0 : fldB Tryz.prog 101 0 0 = true := by kernel_rfl
theorem fl101_1 : fldB Tryz.prog 101 1 1 = true := by kernel_rfl
theorem fl101_2 : fldB Tryz.prog 101 2 2 = true := by kernel_rfl
theorem fl101_3 : fldB Tryz.prog 101 3 3 = true := by kernel_rfl
theorem ty112 : tyB Tryz.prog 112 false 1 = true := by kernel_rfl
theorem ty144 : tyB Tryz.prog 144 false 1 = true := by kernel_rfl
theorem fl148_0 : fldB Tryz.prog 148 0 0 = true := by kernel_rfl
theorem fl148_1 : fldB Tryz.prog 148 1 4 = true := by kernel_rfl
theorem in155 : (Tryz.prog.info? 155).map (fun i => (i.zero, i.size, i.bytes)) = some (some (.agg #[.int .i64 0, .bool false]), 2, 16) := by kernel_rfl
theorem st155 : (match Tryz.prog.underlying 155 with | some (.struct fs) => fs.all (fun f => (Tryz.prog.info? f.type).isSome) | _ => false) = true := by kernel_rfl
theorem fp155_0 : (match Tryz.prog.underlying 155 with | some (.struct fs) => (match fs[0]? with | some f => Nat.beq f.offset 0 && (match Tryz.prog.info? f.type with | some i => Nat.beq i.size 1 | none => false) | none => false) | _ => false) = true := by kernel_rfl
theorem fp155_1 : (match Tryz.prog.underlying 155 with | some (.struct fs) => (match fs[1]? with | some f => Nat.beq f.offset 1 && (match Tryz.prog.info? f.type with | some i => Nat.beq i.size 1 | none => false) | none => false) | _ => false) = true := by kernel_rfl
theorem ty173 : tyB Tryz.prog 173 false 1 = true := by kernel_rfl
theorem in173 : (Tryz.prog.info? 173).map (fun i => (i.zero, i.size, i.bytes)) = some (some (.slice none 0 0), 1, 24) := by kernel_rfl
theorem ty175 : tyB Tryz.prog 175 true 4 = true := by kernel_rfl
theorem in175 : (Tryz.prog.info? 175).map (fun i => (i.zero, i.size, i.bytes)) = some (some (.agg #[.int .i64 0, .bool false, .int .i64 0, .int .i64 0]), 4, 32) := by kernel_rfl
theorem st175 : (match Tryz.prog.underlying 175 with | some (.struct fs) => fs.all (fun f => (Tryz.prog.info? f.type).isSome) | _ => false) = true := by kernel_rfl
theorem fp175_0 : (match Tryz.prog.underlying 175 with | some (.struct fs) => (match fs[0]? with | some f => Nat.beq f.offset 0 && (match Tryz.prog.info? f.type with | some i => Nat.beq i.size 2 | none => false) | none => false) | _ => false) = true := by kernel_rfl
theorem fl175_1 : fldB Tryz.prog 175 1 2 = true := by kernel_rfl
theorem fp175_1 : (match Tryz.prog.underlying 175 with | some (.struct fs) => (match fs[1]? with | some f => Nat.beq f.offset 2 && (match Tryz.prog.info? f.type with | some i => Nat.beq i.size 1 | none => false) | none => false) | _ => false) = true := by kernel_rfl
theorem fl175_2 : fldB Tryz.prog 175 2 3 = true := by kernel_rfl
theorem fp175_2 : (match Tryz.prog.underlying 175 with | some (.struct fs) => (match fs[2]? with | some f => Nat.beq f.offset 3 && (match Tryz.prog.info? f.type with | some i => Nat.beq i.size 1 | none => false) | none => false) | _ => false) = true := by kernel_rfl
end Go.Proofs.YtbfejakbaijmhaaGreat
set_option linter.unusedVariables false
set_option linter.unusedSimpArgs false
namespace Go.Q
theorem findI_mem {α : Type} [DecidableEq α] (v : α) : ∀ (l : List α) (m : Nat), decide (0 ≤ findI (fun x => decide (v = x)) l m) = decide (v ∈ l)
  | [], m => by simp [findI]
  | x :: l, m => by
    rw [findI]
    by_cases h : v = x
    · subst h; simp
    · rw [if_neg (by simpa using h), findI_mem v l (m + 1)]; simp [h]
end Go.Q
namespace Go.Proofs.YtbfejakbaijmhaaGreat
open Go.RowKit Go.Q Go.D
set_option maxRecDepth 100000 in
theorem slicesIndexPair (l : List TPair) (v : TPair) : FnT Tryz.prog 115 [.one (.sl 2 (l.map cPair)), .agg (cPair v)] (.a (.one (.v (.int .i64 (findI (fun x => decide (v = x)) l 0))))) := by
  refine FnT.walk Tryz.func115 rfl (by kernel_rfl) Tryz.ntmps115 rfl fun hlen w0 => ?_
  try simp [cPair, cToken, cExpr, cEdge, cGraph, cStep, cWalk, cChange, cBatch, cHistory, cPositions, cAutomaton, cProductStep, cPathAtom, cConjunction, cView, cDelta, cRegistered, cRegistry] at hlen
  refine AW.seq ?_
  refine AW.region ?_
  refine AWl.put (R_boxz rfl rfl rfl (.tmp rfl fun _ => rfl) (ts := _) (by rfl)) rfl ?_
  refine AWl.put (R_assign rfl (.no rfl) rfl (.const rfl)) rfl ?_
  refine AWl.nil ?_
  refine AW.seq ?_
  refine AW.seq ?_
  refine AW.region ?_
  refine AWl.put (R_move rfl (.no rfl) rfl (.tmp rfl fun _ => rfl)) rfl ?_
  refine AWl.put ((by exact R_lenm rfl (.no rfl) rfl (.tmp rfl fun _ => rfl) (by exact .t) Tryz.underlying94)) rfl ?_
  refine AWl.put (R_move rfl (.no rfl) rfl (.const rfl)) rfl ?_
  refine AWl.nil ?_
  refine AW.block ?_
  refine AW.loop (β := Nat) (fun x => x ≤ (l).length ∧ ∀ j y, j < x → (l)[j]? = some y → (fun x => !decide (v = x)) y = true) (fun x => ⟨_, [(8, (true, .a (.one (.t (.v (.int .i64 (x : Nat))))))), (0, _), (3, _), (7, _)], []⟩) (fun x => (l).length - x) (0) ⟨Nat.zero_le _, fun j y hj => absurd hj (Nat.not_lt_zero j)⟩ (Le.sub0 rfl ⟨rfl, rfl, rfl, rfl, trivial⟩ trivial) ?_
  intro k hk
  refine AW.seq ?_
  refine AW.region ?_
  refine AWl.put (R_lt rfl (.no rfl) rfl (.tmp rfl fun _ => rfl) (.tmp rfl fun _ => rfl)) rfl ?_
  refine AWl.nil ?_
  refine AW.seq ?_
  refine AW.cond (.tmp rfl fun _ => rfl) (fun hlt => ?_) (fun hlt => ?_)
  · skip
    try simp at hlt
    obtain ⟨x, hx⟩ : ∃ ξ, (l)[k]? = some ξ := ⟨_, List.getElem?_eq_getElem (by exact hlt)⟩
    refine AW.skip ?_
    refine AW.seq ?_
    refine AW.block ?_
    refine AW.seq ?_
    refine AW.region ?_
    refine AWl.put (R_move rfl (.no rfl) rfl (.tmp rfl fun _ => rfl)) rfl ?_
    refine AWl.put (R_assign rfl (.no rfl) rfl (.tmp rfl fun _ => rfl)) rfl ?_
    refine AWl.nil ?_
    refine AW.seq ?_
    refine AW.drawn 6 (nthB [[], [], [], [1, 2], [1, 2, 3], [0, 1, 2, 3, 4]]) (by kernel_rfl) (by kernel_rfl) (by kernel_rfl) ?_
    refine DrawC.step rfl rfl rfl (Loc.of rfl fun σ' hs => (by exact R_load rfl (.no rfl) (hd_sup hs rfl) (.tmp (hs.slots _ _ rfl) fun _ => rfl) ty92 rfl rfl)) ?_
    refine DrawC.step rfl rfl rfl (Loc.of rfl fun σ' hs => R_move rfl (.no rfl) (hd_sup hs rfl) (.tmp (hs.slots _ _ rfl) fun _ => rfl)) ?_
    refine DrawC.step rfl rfl rfl (Loc.of rfl fun σ' hs => R_move rfl (.no rfl) (hd_sup hs rfl) (.tmp (hs.slots _ _ rfl) fun _ => rfl)) ?_
    refine DrawC.step rfl rfl rfl (Loc.of rfl fun σ' hs => (by exact R_indexAddr rfl (.no rfl) (hd_sup hs rfl) (.tmp (hs.slots _ _ rfl) fun _ => rfl) (.tmp (hs.slots _ _ rfl) fun _ => rfl) Tryz.underlying94 ty92 (fun _ => ⟨by omega, (by exact map_get (by assumption))⟩))) ?_
    refine DrawC.step rfl rfl rfl (Loc.of rfl fun σ' hs => (by exact R_load rfl (.no rfl) (hd_sup hs rfl) (.tmp (hs.slots _ _ rfl) fun _ => rfl) ty92 rfl rfl)) ?_
    refine DrawC.step rfl rfl rfl (Loc.of rfl fun σ' hs => R_eqs rfl (.no rfl) (hd_sup hs rfl) (.tmp (hs.slots _ _ rfl) fun _ => rfl) (.tmp (hs.slots _ _ rfl) fun _ => rfl) rfl rfl (by kernel_rfl) (eqS92 _ _ _ _)) ?_
    refine DrawC.fin rfl rfl ?_
    refine AWl.nil ?_
    refine AW.cond (.tmp rfl fun _ => rfl) (fun h16 => ?_) (fun h16 => ?_)
    · skip
      try simp at h16
      refine AW.seq ?_
      refine AW.le (σ' := ⟨_, [(0, _), (3, _), (5, _), (7, _), (8, _)], []⟩) (Le.sub0 rfl ⟨rfl, rfl, rfl, rfl, rfl, trivial⟩ trivial) ?_
      refine AW.region ?_
      refine AWl.put (R_move rfl (.no rfl) rfl (.tmp rfl fun _ => rfl)) rfl ?_
      refine AWl.put (R_assign rfl (.no rfl) rfl (.tmp rfl fun _ => rfl)) rfl ?_
      refine AWl.nil ?_
      refine AW.ret ?_
      refine Res.v rfl rfl ?_
      rw [findI_at (k := k) hk.2 hx (by grind [TPair.ext_iff'])]; simp
    · skip
      try simp at h16
      refine AW.skip ?_
      refine AW.le (σ' := ⟨_, [(0, _), (3, _), (5, _), (7, _), (8, _)], []⟩) (Le.sub0 rfl ⟨rfl, rfl, rfl, rfl, rfl, trivial⟩ trivial) ?_
      refine AW.region ?_
      refine AWl.put (R_add rfl (.no rfl) rfl (.tmp rfl fun _ => rfl) (.const rfl) (fun _ => by omega)) rfl ?_
      refine AWl.put (R_move rfl (.no rfl) rfl (.tmp rfl fun _ => rfl)) rfl ?_
      refine AWl.nil ?_
      refine Round.next (k + 1) ⟨by omega, each_succ hk.2 hx (by grind [TPair.ext_iff'])⟩ (by omega) (Le.sub0 rfl ⟨rfl, rfl, rfl, rfl, trivial⟩ trivial)
  · skip
    try simp at hlt
    refine AW.exit ?_
    refine AW.seq ?_
    refine AW.region ?_
    refine AWl.put (R_assign rfl (.no rfl) rfl (.const rfl)) rfl ?_
    refine AWl.nil ?_
    refine AW.ret ?_
    refine Res.v rfl rfl ?_
    rw [findI_none hk.2 (by omega)]
set_option maxRecDepth 100000 in
theorem slicesContainsPair (l : List TPair) (v : TPair) : FnT Tryz.prog 69 [.one (.sl 2 (l.map cPair)), .agg (cPair v)] (.a (.one (.v (.bool (decide (v ∈ l)))))) := by
  refine FnT.walk Tryz.func69 rfl (by kernel_rfl) Tryz.ntmps69 rfl fun hlen w0 => ?_
  try simp [cPair, cToken, cExpr, cEdge, cGraph, cStep, cWalk, cChange, cBatch, cHistory, cPositions, cAutomaton, cProductStep, cPathAtom, cConjunction, cView, cDelta, cRegistered, cRegistry] at hlen
  refine AW.seq ?_
  refine AW.region ?_
  refine AWl.put (R_boxz rfl rfl rfl (.tmp rfl fun _ => rfl) (ts := _) (by rfl)) rfl ?_
  refine AWl.put (R_assign rfl (.no rfl) rfl (.const rfl)) rfl ?_
  refine AWl.nil ?_
  refine AW.seq ?_
  refine AW.region ?_
  refine AWl.put (R_move rfl (.no rfl) rfl (.tmp rfl fun _ => rfl)) rfl ?_
  refine AWl.put ((by exact R_load rfl (.no rfl) rfl (.tmp rfl fun _ => rfl) ty92 rfl rfl)) rfl ?_
  refine AWl.put (R_callz (FnT.fr (slicesIndexPair _ _)) rfl (.no rfl) rfl (.cons (.tmp rfl fun _ => rfl) rfl (.cons (.tmp rfl fun _ => rfl) rfl .nil))) rfl ?_
  refine AWl.put (R_ge rfl (.no rfl) rfl (.tmp rfl fun _ => rfl) (.const rfl)) rfl ?_
  refine AWl.put (R_assign rfl (.no rfl) rfl (.tmp rfl fun _ => rfl)) rfl ?_
  refine AWl.nil ?_
  refine AW.ret ?_
  refine Res.v rfl rfl ?_
  rw [findI_mem]
set_option maxRecDepth 100000 in
theorem IndexFuncEdge (l : List TEdge) (f : FuncId) (caps : List T) (p : TEdge → Bool) (hp : ∀ e, FrT Tryz.prog f ([.agg (cEdge e)] ++ caps.map .one) (.a (.one (.v (.bool (p e)))))) : FnT Tryz.prog 116 [.one (.sl 4 (l.map cEdge)), .one (.fn (.func f) [] caps)] (.a (.one (.v (.int .i64 (findI p l 0))))) := by
  refine FnT.walk Tryz.func116 rfl (by kernel_rfl) Tryz.ntmps116 rfl fun hlen w0 => ?_
  try simp [cPair, cToken, cExpr, cEdge, cGraph, cStep, cWalk, cChange, cBatch, cHistory, cPositions, cAutomaton, cProductStep, cPathAtom, cConjunction, cView, cDelta, cRegistered, cRegistry] at hlen
  refine AW.seq ?_
  refine AW.region ?_
  refine AWl.put (R_assign rfl (.no rfl) rfl (.const rfl)) rfl ?_
  refine AWl.nil ?_
  refine AW.seq ?_
  refine AW.seq ?_
  refine AW.region ?_
  refine AWl.put (R_move rfl (.no rfl) rfl (.tmp rfl fun _ => rfl)) rfl ?_
  refine AWl.put ((by exact R_lenm rfl (.no rfl) rfl (.tmp rfl fun _ => rfl) (by exact .t) Tryz.underlying31)) rfl ?_
  refine AWl.put (R_move rfl (.no rfl) rfl (.const rfl)) rfl ?_
  refine AWl.nil ?_
  refine AW.block ?_
  refine AW.loop (β := Nat) (fun x => x ≤ (l).length ∧ ∀ j y, j < x → (l)[j]? = some y → (fun e => !p e) y = true) (fun x => ⟨_, [(8, (true, .a (.one (.t (.v (.int .i64 (x : Nat))))))), (0, _), (1, _), (7, _)], []⟩) (fun x => (l).length - x) (0) ⟨Nat.zero_le _, fun j y hj => absurd hj (Nat.not_lt_zero j)⟩ (Le.sub0 rfl ⟨rfl, rfl, rfl, rfl, trivial⟩ trivial) ?_
  intro k hk
  refine AW.seq ?_
  refine AW.region ?_
  refine AWl.put (R_lt rfl (.no rfl) rfl (.tmp rfl fun _ => rfl) (.tmp rfl fun _ => rfl)) rfl ?_
  refine AWl.nil ?_
  refine AW.seq ?_
  refine AW.cond (.tmp rfl fun _ => rfl) (fun hlt => ?_) (fun hlt => ?_)
  · skip
    try simp at hlt
    obtain ⟨x, hx⟩ : ∃ ξ, (l)[k]? = some ξ := ⟨_, List.getElem?_eq_getElem (by exact hlt)⟩
    refine AW.skip ?_
    refine AW.seq ?_
    refine AW.block ?_
    refine AW.seq ?_
    refine AW.region ?_
    refine AWl.put (R_move rfl (.no rfl) rfl (.tmp rfl fun _ => rfl)) rfl ?_
    refine AWl.put (R_assign rfl (.no rfl) rfl (.tmp rfl fun _ => rfl)) rfl ?_
    refine AWl.nil ?_
    refine AW.seq ?_
    refine AW.region ?_
    refine AWl.put (R_move rfl (.no rfl) rfl (.tmp rfl fun _ => rfl)) rfl ?_
    refine AWl.put (R_move rfl (.no rfl) rfl (.tmp rfl fun _ => rfl)) rfl ?_
    refine AWl.put (R_move rfl (.no rfl) rfl (.tmp rfl fun _ => rfl)) rfl ?_
    refine AWl.put ((by exact R_indexAddr rfl (.no rfl) rfl (.tmp rfl fun _ => rfl) (.tmp rfl fun _ => rfl) Tryz.underlying31 ty72 (fun _ => ⟨by omega, (by exact map_get (by assumption))⟩))) rfl ?_
    refine AWl.put ((by exact R_load rfl (.no rfl) rfl (.tmp rfl fun _ => rfl) ty72 rfl rfl)) rfl ?_
    refine AWl.put (R_callv rfl (.no rfl) rfl (.tmp rfl fun _ => rfl) (.cons (.tmp rfl fun _ => rfl) rfl .nil) (hp _)) rfl ?_
    refine AWl.nil ?_
    refine AW.cond (.tmp rfl fun _ => rfl) (fun h16 => ?_) (fun h16 => ?_)
    · skip
      try simp at h16
      refine AW.seq ?_
      refine AW.le (σ' := ⟨_, [(0, _), (1, _), (5, _), (7, _), (8, _)], []⟩) (Le.sub0 rfl ⟨rfl, rfl, rfl, rfl, rfl, trivial⟩ trivial) ?_
      refine AW.region ?_
      refine AWl.put (R_move rfl (.no rfl) rfl (.tmp rfl fun _ => rfl)) rfl ?_
      refine AWl.put (R_assign rfl (.no rfl) rfl (.tmp rfl fun _ => rfl)) rfl ?_
      refine AWl.nil ?_
      refine AW.ret ?_
      refine Res.v rfl rfl ?_
      rw [findI_at (k := k) hk.2 hx h16]; simp
    · skip
      try simp at h16
      refine AW.skip ?_
      refine AW.le (σ' := ⟨_, [(0, _), (1, _), (5, _), (7, _), (8, _)], []⟩) (Le.sub0 rfl ⟨rfl, rfl, rfl, rfl, rfl, trivial⟩ trivial) ?_
      refine AW.region ?_
      refine AWl.put (R_add rfl (.no rfl) rfl (.tmp rfl fun _ => rfl) (.const rfl) (fun _ => by omega)) rfl ?_
      refine AWl.put (R_move rfl (.no rfl) rfl (.tmp rfl fun _ => rfl)) rfl ?_
      refine AWl.nil ?_
      refine Round.next (k + 1) ⟨by omega, each_succ hk.2 hx (by simp [h16])⟩ (by omega) (Le.sub0 rfl ⟨rfl, rfl, rfl, rfl, trivial⟩ trivial)
  · skip
    try simp at hlt
    refine AW.exit ?_
    refine AW.seq ?_
    refine AW.region ?_
    refine AWl.put (R_assign rfl (.no rfl) rfl (.const rfl)) rfl ?_
    refine AWl.nil ?_
    refine AW.ret ?_
    refine Res.v rfl rfl ?_
    rw [findI_none hk.2 (by omega)]
end Go.Proofs.YtbfejakbaijmhaaGreat
