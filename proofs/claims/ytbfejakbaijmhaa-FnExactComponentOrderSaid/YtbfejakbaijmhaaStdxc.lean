/- Merged texts. -/
import Derived.Test.YtbfejakbaijmhaaOpenTxc
import Derived.Test.YtbfejakbaijmhaaProg
namespace Go.Proofs.Ytbfejakbaijmhaa
open Go.RowKit Go.Q
theorem ty3 : tyB Try.prog 3 false 1 = true := by kernel_rfl
theorem in3 : (Try.prog.info? 3).map (fun i => (i.zero, i.size, i.bytes)) = some (some (.int .i64 0), 1, 8) := by kernel_rfl
theorem ty4 : tyB Try.prog 4 false 1 = true := by kernel_rfl
theorem in4 : (Try.prog.info? 4).map (fun i => (i.zero, i.size, i.bytes)) = some (some (.bool false), 1, 1) := by kernel_rfl
theorem ty22 : tyB Try.prog 22 false 1 = true := by kernel_rfl
theorem in22 : (Try.prog.info? 22).map (fun i => (i.zero, i.size, i.bytes)) = some (some (.slice none 0 0), 1, 24) := by kernel_rfl
theorem ty23 : tyB Try.prog 23 false 1 = true := by kernel_rfl
theorem ty25 : tyB Try.prog 25 true 2 = true := by kernel_rfl
theorem fl25_0 : fldB Try.prog 25 0 0 = true := by kernel_rfl
theorem fl25_1 : fldB Try.prog 25 1 1 = true := by kernel_rfl
theorem ty26 : tyB Try.prog 26 false 1 = true := by kernel_rfl
theorem in26 : (Try.prog.info? 26).map (fun i => (i.zero, i.size, i.bytes)) = some (some (.slice none 0 0), 1, 24) := by kernel_rfl
theorem ty27 : tyB Try.prog 27 false 1 = true := by kernel_rfl
theorem ty29 : tyB Try.prog 29 true 3 = true := by kernel_rfl
theorem fl29_0 : fldB Try.prog 29 0 0 = true := by kernel_rfl
theorem fl29_1 : fldB Try.prog 29 1 1 = true := by kernel_rfl
theorem fl29_2 : fldB Try.prog 29 2 2 = true := by kernel_rfl
theorem ty33 : tyB Try.prog 33 false 1 = true := by kernel_rfl
theorem ty35 : tyB Try.prog 35 true 2 = true := by kernel_rfl
theorem in35 : (Try.prog.info? 35).map (fun i => (i.zero, i.size, i.bytes)) = some (some (.agg #[.slice none 0 0, .slice none 0 0]), 2, 48) := by kernel_rfl
theorem fl35_0 : fldB Try.prog 35 0 0 = true := by kernel_rfl
theorem fl35_1 : fldB Try.prog 35 1 1 = true := by kernel_rfl
theorem ty37 : tyB Try.prog 37 true 3 = true := by kernel_rfl
theorem in37 : (Try.prog.info? 37).map (fun i => (i.zero, i.size, i.bytes)) = some (some (.agg #[.int .i64 0, .slice none 0 0, .slice none 0 0]), 3, 56) := by kernel_rfl
theorem fl37_0 : fldB Try.prog 37 0 0 = true := by kernel_rfl
theorem fl37_1 : fldB Try.prog 37 1 1 = true := by kernel_rfl
theorem fl37_2 : fldB Try.prog 37 2 2 = true := by kernel_rfl
theorem ty122 : tyB Try.prog 122 true 2 = true := by kernel_rfl
theorem in122 : (Try.prog.info? 122).map (fun i => (i.zero, i.size, i.bytes)) = some (some (.agg #[.int .i64 0, .bool false]), 2, 16) := by kernel_rfl
theorem st122 : (match Try.prog.underlying 122 with | some (.struct fs) => fs.all (fun f => (Try.prog.info? f.type).isSome) | _ => false) = true := by kernel_rfl
theorem fl122_0 : fldB Try.prog 122 0 0 = true := by kernel_rfl
theorem fp122_0 : (match Try.prog.underlying 122 with | some (.struct fs) => (match fs[0]? with | some f => Nat.beq f.offset 0 && (match Try.prog.info? f.type with | some i => Nat.beq i.size 1 | none => false) | none => false) | _ => false) = true := by kernel_rfl
theorem fl122_1 : fldB Try.prog 122 1 1 = true := by kernel_rfl
theorem fp122_1 : (match Try.prog.underlying 122 with | some (.struct fs) => (match fs[1]? with | some f => Nat.beq f.offset 1 && (match Try.prog.info? f.type with | some i => Nat.beq i.size 1 | none => false) | none => false) | _ => false) = true := by kernel_rfl
theorem ty131 : tyB Try.prog 131 false 1 = true := by kernel_rfl
theorem in131 : (Try.prog.info? 131).map (fun i => (i.zero, i.size, i.bytes)) = some (some (.slice none 0 0), 1, 24) := by kernel_rfl
theorem ty133 : tyB Try.prog 133 true 4 = true := by kernel_rfl
theorem in133 : (Try.prog.info? 133).map (fun i => (i.zero, i.size, i.bytes)) = some (some (.agg #[.int .i64 0, .bool false, .int .i64 0, .int .i64 0]), 4, 32) := by kernel_rfl
theorem st133 : (match Try.prog.underlying 133 with | some (.struct fs) => fs.all (fun f => (Try.prog.info? f.type).isSome) | _ => false) = true := by kernel_rfl
theorem fp133_0 : (match Try.prog.underlying 133 with | some (.struct fs) => (match fs[0]? with | some f => Nat.beq f.offset 0 && (match Try.prog.info? f.type with | some i => Nat.beq i.size 2 | none => false) | none => false) | _ => false) = true := by kernel_rfl
theorem fl133_1 : fldB Try.prog 133 1 2 = true := by kernel_rfl
theorem fp133_1 : (match Try.prog.underlying 133 with | some (.struct fs) => (match fs[1]? with | some f => Nat.beq f.offset 2 && (match Try.prog.info? f.type with | some i => Nat.beq i.size 1 | none => false) | none => false) | _ => false) = true := by kernel_rfl
theorem fl133_2 : fldB Try.prog 133 2 3 = true := by kernel_rfl
theorem fp133_2 : (match Try.prog.underlying 133 with | some (.struct fs) => (match fs[2]? with | some f => Nat.beq f.offset 3 && (match Try.prog.info? f.type with | some i => Nat.beq i.size 1 | none => false) | none => false) | _ => false) = true := by kernel_rfl
theorem ty152 : tyB Try.prog 152 true 4 = true := by kernel_rfl
theorem in152 : (Try.prog.info? 152).map (fun i => (i.zero, i.size, i.bytes)) = some (some (.agg #[.int .i64 0, .bool false, .int .i64 0, .int .i64 0]), 4, 32) := by kernel_rfl
theorem st152 : (match Try.prog.underlying 152 with | some (.struct fs) => fs.all (fun f => (Try.prog.info? f.type).isSome) | _ => false) = true := by kernel_rfl
theorem fp152_0 : (match Try.prog.underlying 152 with | some (.struct fs) => (match fs[0]? with | some f => Nat.beq f.offset 0 && (match Try.prog.info? f.type with | some i => Nat.beq i.size 2 | none => false) | none => false) | _ => false) = true := by kernel_rfl
theorem fl152_1 : fldB Try.prog 152 1 2 = true := by kernel_rfl
theorem fp152_1 : (match Try.prog.underlying 152 with | some (.struct fs) => (match fs[1]? with | some f => Nat.beq f.offset 2 && (match Try.prog.info? f.type with | some i => Nat.beq i.size 1 | none => false) | none => false) | _ => false) = true := by kernel_rfl
theorem fl152_2 : fldB Try.prog 152 2 3 = true := by kernel_rfl
theorem fp152_2 : (match Try.prog.underlying 152 with | some (.struct fs) => (match fs[2]? with | some f => Nat.beq f.offset 3 && (match Try.prog.info? f.type with | some i => Nat.beq i.size 1 | none => false) | none => false) | _ => false) = true := by kernel_rfl
theorem ty154 : tyB Try.prog 154 true 4 = true := by kernel_rfl
theorem in154 : (Try.prog.info? 154).map (fun i => (i.zero, i.size, i.bytes)) = some (some (.agg #[.int .i64 0, .int .i64 0, .int .i64 0, .int .i64 0]), 4, 32) := by kernel_rfl
theorem fl154_0 : fldB Try.prog 154 0 0 = true := by kernel_rfl
theorem fl154_1 : fldB Try.prog 154 1 1 = true := by kernel_rfl
theorem fl154_2 : fldB Try.prog 154 2 2 = true := by kernel_rfl
theorem fl154_3 : fldB Try.prog 154 3 3 = true := by kernel_rfl
theorem ty156 : tyB Try.prog 156 true 4 = true := by kernel_rfl
theorem fl156_0 : fldB Try.prog 156 0 0 = true := by kernel_rfl
theorem fl156_1 : fldB Try.prog 156 1 1 = true := by kernel_rfl
theorem fl156_2 : fldB Try.prog 156 2 2 = true := by kernel_rfl
theorem fl156_3 : fldB Try.prog 156 3 3 = true := by kernel_rfl
end Go.Proofs.Ytbfejakbaijmhaa
set_option linter.unusedVariables false
set_option linter.unusedSimpArgs false
namespace Go.Q
theorem findI_mem {α : Type} [DecidableEq α] (v : α) : ∀ (l : List α) (m : Nat), decide (0 ≤ findI (fun x => decide (v = x)) l m) = decide (v ∈ l)
  | [], m => by simp [findI]
  | x :: l, m => by
    rw [findI]
    by_cases h : v = x
    · subst h; simp
    · rw [if_neg (by simpa using h), findI_mem v l (m + 1)]; simp [h]
theorem findI_any {α : Type} (p : α → Bool) : ∀ (l : List α) (m : Nat), decide (0 ≤ findI p l m) = l.any p
  | [], m => by simp [findI]
  | x :: l, m => by
    rw [findI, List.any_cons]
    by_cases h : p x = true
    · rw [if_pos h, h]; simp
    · rw [if_neg h, findI_any p l (m + 1)]; simp [h]
end Go.Q
namespace Go.Proofs.Ytbfejakbaijmhaa
open Go.RowKit Go.Q Go.D
set_option maxRecDepth 100000 in
theorem slicesIndexInt (l : List Int) (v : Int) : FnT Try.prog 143 [.one (.sl 1 (l.map cInt)), .one (.v (.int .i64 v))] (.a (.one (.v (.int .i64 (findI (fun x => decide (v = x)) l 0))))) := by
  refine FnT.walk Try.func143 rfl (by kernel_rfl) Try.ntmps143 rfl fun hlen w0 => ?_
  try simp [cPair, cToken, cExpr, cEdge, cGraph, cStep, cWalk, cChange, cBatch, cHistory, cPositions, cAutomaton, cProductStep, cPathAtom, cConjunction, cView, cDelta, cRegistered, cRegistry] at hlen
  refine AW.seq ?_
  refine AW.region ?_
  refine AWl.put (R_assign rfl (.no rfl) rfl (.const rfl)) rfl ?_
  refine AWl.nil ?_
  refine AW.seq ?_
  refine AW.seq ?_
  refine AW.region ?_
  refine AWl.put (R_move rfl (.no rfl) rfl (.tmp rfl fun _ => rfl)) rfl ?_
  refine AWl.put ((by exact R_lenm rfl (.no rfl) rfl (.tmp rfl fun _ => rfl) (by exact .t) Try.underlying22)) rfl ?_
  refine AWl.put (R_move rfl (.no rfl) rfl (.const rfl)) rfl ?_
  refine AWl.nil ?_
  refine AW.block ?_
  refine AW.loop (β := Nat) (fun x => x ≤ (l).length ∧ ∀ j y, j < x → (l)[j]? = some y → (fun x => !decide (v = x)) y = true) (fun x => ⟨_, [(8, (true, .a (.one (.t (.v (.int .i64 (x : Nat))))))), (0, _), (1, _), (7, _)], []⟩) (fun x => (l).length - x) (0) ⟨Nat.zero_le _, fun j y hj => absurd hj (Nat.not_lt_zero j)⟩ (Le.sub0 rfl ⟨rfl, rfl, rfl, rfl, trivial⟩ trivial) ?_
  intro k hk
  refine AW.seq ?_
  refine AW.region ?_
  refine AWl.put (R_lt rfl (.no rfl) rfl (.tmp rfl fun _ => rfl) (.tmp rfl fun _ => rfl)) rfl ?_
  refine AWl.nil ?_
  refine AW.seq ?_
  refine AW.cond (.tmp rfl fun _ => rfl) (fun hlt => ?_) (fun hlt => ?_)
  · skip
    try simp at hlt
    obtain ⟨x, hx⟩ : ∃ ξ, (l)[k]? = some ξ := ⟨_, List.getElem?_eq_getElem (by exact hlt)⟩
    refine AW.skip ?_
    refine AW.seq ?_
    refine AW.block ?_
    refine AW.seq ?_
    refine AW.region ?_
    refine AWl.put (R_move rfl (.no rfl) rfl (.tmp rfl fun _ => rfl)) rfl ?_
    refine AWl.put (R_assign rfl (.no rfl) rfl (.tmp rfl fun _ => rfl)) rfl ?_
    refine AWl.nil ?_
    refine AW.seq ?_
    refine AW.region ?_
    refine AWl.put (R_move rfl (.no rfl) rfl (.tmp rfl fun _ => rfl)) rfl ?_
    refine AWl.put (R_move rfl (.no rfl) rfl (.tmp rfl fun _ => rfl)) rfl ?_
    refine AWl.put (R_move rfl (.no rfl) rfl (.tmp rfl fun _ => rfl)) rfl ?_
    refine AWl.put ((by exact R_indexAddr rfl (.no rfl) rfl (.tmp rfl fun _ => rfl) (.tmp rfl fun _ => rfl) Try.underlying22 ty3 (fun _ => ⟨by omega, (by exact map_get (by assumption))⟩))) rfl ?_
    refine AWl.put ((by exact R_load rfl (.no rfl) rfl (.tmp rfl fun _ => rfl) ty3 rfl rfl)) rfl ?_
    refine AWl.put (R_eq rfl (.no rfl) rfl (.tmp rfl fun _ => rfl) (.tmp rfl fun _ => rfl)) rfl ?_
    refine AWl.nil ?_
    refine AW.cond (.tmp rfl fun _ => rfl) (fun h16 => ?_) (fun h16 => ?_)
    · skip
      try simp at h16
      refine AW.seq ?_
      refine AW.le (σ' := ⟨_, [(0, _), (1, _), (5, _), (7, _), (8, _)], []⟩) (Le.sub0 rfl ⟨rfl, rfl, rfl, rfl, rfl, trivial⟩ trivial) ?_
      refine AW.region ?_
      refine AWl.put (R_move rfl (.no rfl) rfl (.tmp rfl fun _ => rfl)) rfl ?_
      refine AWl.put (R_assign rfl (.no rfl) rfl (.tmp rfl fun _ => rfl)) rfl ?_
      refine AWl.nil ?_
      refine AW.ret ?_
      refine Res.v rfl rfl ?_
      rw [findI_at (k := k) hk.2 hx (by simp [h16])]; simp
    · skip
      try simp at h16
      refine AW.skip ?_
      refine AW.le (σ' := ⟨_, [(0, _), (1, _), (5, _), (7, _), (8, _)], []⟩) (Le.sub0 rfl ⟨rfl, rfl, rfl, rfl, rfl, trivial⟩ trivial) ?_
      refine AW.region ?_
      refine AWl.put (R_add rfl (.no rfl) rfl (.tmp rfl fun _ => rfl) (.const rfl) (fun _ => by omega)) rfl ?_
      refine AWl.put (R_move rfl (.no rfl) rfl (.tmp rfl fun _ => rfl)) rfl ?_
      refine AWl.nil ?_
      refine Round.next (k + 1) ⟨by omega, each_succ hk.2 hx (by simp [h16])⟩ (by omega) (Le.sub0 rfl ⟨rfl, rfl, rfl, rfl, trivial⟩ trivial)
  · skip
    try simp at hlt
    refine AW.exit ?_
    refine AW.seq ?_
    refine AW.region ?_
    refine AWl.put (R_assign rfl (.no rfl) rfl (.const rfl)) rfl ?_
    refine AWl.nil ?_
    refine AW.ret ?_
    refine Res.v rfl rfl ?_
    rw [findI_none hk.2 (by omega)]
set_option maxRecDepth 100000 in
theorem slicesContainsInt (l : List Int) (v : Int) : FnT Try.prog 83 [.one (.sl 1 (l.map cInt)), .one (.v (.int .i64 v))] (.a (.one (.v (.bool (decide (v ∈ l)))))) := by
  refine FnT.walk Try.func83 rfl (by kernel_rfl) Try.ntmps83 rfl fun hlen w0 => ?_
  try simp [cPair, cToken, cExpr, cEdge, cGraph, cStep, cWalk, cChange, cBatch, cHistory, cPositions, cAutomaton, cProductStep, cPathAtom, cConjunction, cView, cDelta, cRegistered, cRegistry] at hlen
  refine AW.seq ?_
  refine AW.region ?_
  refine AWl.put (R_assign rfl (.no rfl) rfl (.const rfl)) rfl ?_
  refine AWl.nil ?_
  refine AW.seq ?_
  refine AW.region ?_
  refine AWl.put (R_move rfl (.no rfl) rfl (.tmp rfl fun _ => rfl)) rfl ?_
  refine AWl.put (R_move rfl (.no rfl) rfl (.tmp rfl fun _ => rfl)) rfl ?_
  refine AWl.put (R_callz (FnT.fr (slicesIndexInt _ _)) rfl (.no rfl) rfl (.cons (.tmp rfl fun _ => rfl) rfl (.cons (.tmp rfl fun _ => rfl) rfl .nil))) rfl ?_
  refine AWl.put (R_ge rfl (.no rfl) rfl (.tmp rfl fun _ => rfl) (.const rfl)) rfl ?_
  refine AWl.put (R_assign rfl (.no rfl) rfl (.tmp rfl fun _ => rfl)) rfl ?_
  refine AWl.nil ?_
  refine AW.ret ?_
  refine Res.v rfl rfl ?_
  rw [findI_mem]
end Go.Proofs.Ytbfejakbaijmhaa
