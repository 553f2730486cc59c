import Derived.Test.YtoealglkenhphaaGreatOpenTxc
import Derived.Test.YtoealglkenhphaaGreatProg
namespace Go.Proofs.YtoealglkenhphaaGreat
open Go.RowKit Go.Q
theorem ty3 : tyB Tryz.prog 3 false 1 = true := by kernel_rfl
theorem in3 : (Tryz.prog.info? 3).map (fun i => (i.zero, i.size, i.bytes)) = some (some (.int .i64 0), 1, 8) := by kernel_rfl
theorem ty4 : tyB Tryz.prog 4 false 1 = true := by kernel_rfl
theorem in4 : (Tryz.prog.info? 4).map (fun i => (i.zero, i.size, i.bytes)) = some (some (.bool false), 1, 1) := by kernel_rfl
theorem ty22 : tyB Tryz.prog 22 false 1 = true := by kernel_rfl
theorem in22 : (Tryz.prog.info? 22).map (fun i => (i.zero, i.size, i.bytes)) = some (some (.slice none 0 0), 1, 24) := by kernel_rfl
theorem ty23 : tyB Tryz.prog 23 false 1 = true := by kernel_rfl
theorem ty25 : tyB Tryz.prog 25 true 2 = true := by kernel_rfl
theorem fl25_0 : fldB Tryz.prog 25 0 0 = true := by kernel_rfl
theorem fl25_1 : fldB Tryz.prog 25 1 1 = true := by kernel_rfl
theorem ty33 : tyB Tryz.prog 33 true 4 = true := by kernel_rfl
theorem fl33_0 : fldB Tryz.prog 33 0 0 = true := by kernel_rfl
theorem fl33_1 : fldB Tryz.prog 33 1 1 = true := by kernel_rfl
theorem fl33_2 : fldB Tryz.prog 33 2 2 = true := by kernel_rfl
theorem fl33_3 : fldB Tryz.prog 33 3 3 = true := by kernel_rfl
theorem ty41 : tyB Tryz.prog 41 false 1 = true := by kernel_rfl
theorem ty43 : tyB Tryz.prog 43 true 2 = true := by kernel_rfl
theorem in43 : (Tryz.prog.info? 43).map (fun i => (i.zero, i.size, i.bytes)) = some (some (.agg #[.slice none 0 0, .slice none 0 0]), 2, 48) := by kernel_rfl
theorem fl43_0 : fldB Tryz.prog 43 0 0 = true := by kernel_rfl
theorem fl43_1 : fldB Tryz.prog 43 1 1 = true := by kernel_rfl
theorem ty46 : tyB Tryz.prog 46 true 4 = true := by kernel_rfl
theorem in46 : (Tryz.prog.info? 46).map (fun i => (i.zero, i.size, i.bytes)) = some (some (.agg #[.int .i64 0, .int .i64 0, .int .i64 0, .int .i64 0]), 4, 32) := by kernel_rfl
theorem fl46_0 : fldB Tryz.prog 46 0 0 = true := by kernel_rfl
theorem fl46_1 : fldB Tryz.prog 46 1 1 = true := by kernel_rfl
theorem fl46_2 : fldB Tryz.prog 46 2 2 = true := by kernel_rfl
theorem fl46_3 : fldB Tryz.prog 46 3 3 = true := by kernel_rfl
theorem ty65 : tyB Tryz.prog 65 false 1 = true := by kernel_rfl
theorem ty67 : tyB Tryz.prog 67 true 1 = true := by kernel_rfl
theorem fl67_0 : fldB Tryz.prog 67 0 0 = true := by kernel_rfl
theorem ty71 : tyB Tryz.prog 71 false 1 = true := by kernel_rfl
theorem ty73 : tyB Tryz.prog 73 true 1 = true := by kernel_rfl
theorem in73 : (Tryz.prog.info? 73).map (fun i => (i.zero, i.size, i.bytes)) = some (some (.agg #[.slice none 0 0]), 1, 24) := by kernel_rfl
theorem fl73_0 : fldB Tryz.prog 73 0 0 = true := by kernel_rfl
theorem ty80 : tyB Tryz.prog 80 false 1 = true := by kernel_rfl
theorem ty82 : tyB Tryz.prog 82 true 2 = true := by kernel_rfl
theorem fl82_0 : fldB Tryz.prog 82 0 0 = true := by kernel_rfl
theorem fl82_1 : fldB Tryz.prog 82 1 1 = true := by kernel_rfl
theorem ty85 : tyB Tryz.prog 85 false 1 = true := by kernel_rfl
theorem ty87 : tyB Tryz.prog 87 true 2 = true := by kernel_rfl
theorem in87 : (Tryz.prog.info? 87).map (fun i => (i.zero, i.size, i.bytes)) = some (some (.agg #[.int .i64 0, .slice none 0 0]), 2, 32) := by kernel_rfl
theorem fl87_0 : fldB Tryz.prog 87 0 0 = true := by kernel_rfl
theorem fl87_1 : fldB Tryz.prog 87 1 1 = true := by kernel_rfl
theorem ty125 : tyB Tryz.prog 125 false 1 = true := by kernel_rfl
theorem in125 : (Tryz.prog.info? 125).map (fun i => (i.zero, i.size, i.bytes)) = some (some (.slice none 0 0), 1, 24) := by kernel_rfl
theorem ty126 : tyB Tryz.prog 126 false 1 = true := by kernel_rfl
theorem in126 : (Tryz.prog.info? 126).map (fun i => (i.zero, i.size, i.bytes)) = some (some (.slice none 0 0), 1, 24) := by kernel_rfl
theorem ty129 : tyB Tryz.prog 129 true 3 = true := by kernel_rfl
theorem in129 : (Tryz.prog.info? 129).map (fun i => (i.zero, i.size, i.bytes)) = some (some (.agg #[.int .i64 0, .int .i64 0, .slice none 0 0]), 3, 40) := by kernel_rfl
theorem fl129_0 : fldB Tryz.prog 129 0 0 = true := by kernel_rfl
theorem fl129_1 : fldB Tryz.prog 129 1 1 = true := by kernel_rfl
theorem fl129_2 : fldB Tryz.prog 129 2 2 = true := by kernel_rfl
theorem in147 : (Tryz.prog.info? 147).map (fun i => (i.zero, i.size, i.bytes)) = some (some (.agg #[.int .i64 0, .bool false]), 2, 16) := by kernel_rfl
theorem st147 : (match Tryz.prog.underlying 147 with | some (.struct fs) => fs.all (fun f => (Tryz.prog.info? f.type).isSome) | _ => false) = true := by kernel_rfl
theorem fp147_0 : (match Tryz.prog.underlying 147 with | some (.struct fs) => (match fs[0]? with | some f => Nat.beq f.offset 0 && (match Tryz.prog.info? f.type with | some i => Nat.beq i.size 1 | none => false) | none => false) | _ => false) = true := by kernel_rfl
theorem fp147_1 : (match Tryz.prog.underlying 147 with | some (.struct fs) => (match fs[1]? with | some f => Nat.beq f.offset 1 && (match Tryz.prog.info? f.type with | some i => Nat.beq i.size 1 | none => false) | none => false) | _ => false) = true := by kernel_rfl
theorem ty170 : tyB Tryz.prog 170 true 2 = true := by kernel_rfl
theorem in170 : (Tryz.prog.info? 170).map (fun i => (i.zero, i.size, i.bytes)) = some (some (.agg #[.int .i64 0, .int .i64 0]), 2, 16) := by kernel_rfl
theorem st170 : (match Tryz.prog.underlying 170 with | some (.struct fs) => fs.all (fun f => (Tryz.prog.info? f.type).isSome) | _ => false) = true := by kernel_rfl
theorem eqS170 (x0 : Int) (x1 : Int) (y0 : Int) (y1 : Int) (w : World) : (binOp .eql 170 (.agg (List.toArray [.int .i64 x0, .int .i64 x1])) (.agg (List.toArray [.int .i64 y0, .int .i64 y1]))).run Tryz.prog w = .ok (.bool ((decide (x0 = y0) && decide (x1 = y1)))) w := by
 have hs : Tryz.prog.stoodInHeld 170 = false := by kernel_rfl
 simp [go_sem, hs, Tryz.underlying170]
 repeat' split
 all_goals simp [*]
theorem neS170 (x0 : Int) (x1 : Int) (y0 : Int) (y1 : Int) (w : World) : (binOp .neq 170 (.agg (List.toArray [.int .i64 x0, .int .i64 x1])) (.agg (List.toArray [.int .i64 y0, .int .i64 y1]))).run Tryz.prog w = .ok (.bool (!(decide (x0 = y0) && decide (x1 = y1)))) w := by
 have hs : Tryz.prog.stoodInHeld 170 = false := by kernel_rfl
 simp [go_sem, hs, Tryz.underlying170]
 repeat' split
 all_goals simp [*]
theorem fl170_0 : fldB Tryz.prog 170 0 0 = true := by kernel_rfl
theorem fp170_0 : (match Tryz.prog.underlying 170 with | some (.struct fs) => (match fs[0]? with | some f => Nat.beq f.offset 0 && (match Tryz.prog.info? f.type with | some i => Nat.beq i.size 1 | none => false) | none => false) | _ => false) = true := by kernel_rfl
theorem fl170_1 : fldB Tryz.prog 170 1 1 = true := by kernel_rfl
theorem fp170_1 : (match Tryz.prog.underlying 170 with | some (.struct fs) => (match fs[1]? with | some f => Nat.beq f.offset 1 && (match Tryz.prog.info? f.type with | some i => Nat.beq i.size 1 | none => false) | none => false) | _ => false) = true := by kernel_rfl
theorem ty172 : tyB Tryz.prog 172 true 4 = true := by kernel_rfl
theorem in172 : (Tryz.prog.info? 172).map (fun i => (i.zero, i.size, i.bytes)) = some (some (.agg #[.int .i64 0, .int .i64 0, .int .i64 0, .int .i64 0]), 4, 32) := by kernel_rfl
theorem st172 : (match Tryz.prog.underlying 172 with | some (.struct fs) => fs.all (fun f => (Tryz.prog.info? f.type).isSome) | _ => false) = true := by kernel_rfl
theorem eqS172 (x0 : Int) (x1 : Int) (x2 : Int) (x3 : Int) (y0 : Int) (y1 : Int) (y2 : Int) (y3 : Int) (w : World) : (binOp .eql 172 (.agg (List.toArray [.int .i64 x0, .int .i64 x1, .int .i64 x2, .int .i64 x3])) (.agg (List.toArray [.int .i64 y0, .int .i64 y1, .int .i64 y2, .int .i64 y3]))).run Tryz.prog w = .ok (.bool ((decide (x0 = y0) && decide (x1 = y1) && decide (x2 = y2) && decide (x3 = y3)))) w := by
 have hs : Tryz.prog.stoodInHeld 172 = false := by kernel_rfl
 simp [go_sem, hs, Tryz.underlying172]
 repeat' split
 all_goals simp [*]
theorem fl172_0 : fldB Tryz.prog 172 0 0 = true := by kernel_rfl
theorem fp172_0 : (match Tryz.prog.underlying 172 with | some (.struct fs) => (match fs[0]? with | some f => Nat.beq f.offset 0 && (match Tryz.prog.info? f.type with | some i => Nat.beq i.size 1 | none => false) | none => false) | _ => false) = true := by kernel_rfl
theorem fl172_1 : fldB Tryz.prog 172 1 1 = true := by kernel_rfl
theorem fl172_2 : fldB Tryz.prog 172 2 2 = true := by kernel_rfl
theorem fl172_3 : fldB Tryz.prog 172 3 3 = true := by kernel_rfl
theorem ty174 : tyB Tryz.prog 174 true 4 = true := by kernel_rfl
theorem fl174_0 : fldB Tryz.prog 174 0 0 = true := by kernel_rfl
theorem fl174_1 : fldB Tryz.prog 174 1 1 = true := by kernel_rfl
theorem fl174_2 : fldB Tryz.prog 174 2 2 = true := by kernel_rfl
theorem fl174_3 : fldB Tryz.prog 174 3 3 = true := by kernel_rfl
theorem ty175 : tyB Tryz.prog 175 false 1 = true := by kernel_rfl
theorem ty183 : tyB Tryz.prog 183 true 3 = true := by kernel_rfl
theorem fl183_0 : fldB Tryz.prog 183 0 0 = true := by kernel_rfl
theorem fl183_1 : fldB Tryz.prog 183 1 1 = true := by kernel_rfl
theorem fl183_2 : fldB Tryz.prog 183 2 2 = true := by kernel_rfl
theorem ty213 : tyB Tryz.prog 213 false 1 = true := by kernel_rfl
theorem fl217_0 : fldB Tryz.prog 217 0 0 = true := by kernel_rfl
theorem fl217_1 : fldB Tryz.prog 217 1 4 = true := by kernel_rfl
theorem ty230 : tyB Tryz.prog 230 false 1 = true := by kernel_rfl
theorem in230 : (Tryz.prog.info? 230).map (fun i => (i.zero, i.size, i.bytes)) = some (some (.slice none 0 0), 1, 24) := by kernel_rfl
theorem ty232 : tyB Tryz.prog 232 true 4 = true := by kernel_rfl
theorem in232 : (Tryz.prog.info? 232).map (fun i => (i.zero, i.size, i.bytes)) = some (some (.agg #[.int .i64 0, .bool false, .int .i64 0, .int .i64 0]), 4, 32) := by kernel_rfl
theorem st232 : (match Tryz.prog.underlying 232 with | some (.struct fs) => fs.all (fun f => (Tryz.prog.info? f.type).isSome) | _ => false) = true := by kernel_rfl
theorem fp232_0 : (match Tryz.prog.underlying 232 with | some (.struct fs) => (match fs[0]? with | some f => Nat.beq f.offset 0 && (match Tryz.prog.info? f.type with | some i => Nat.beq i.size 2 | none => false) | none => false) | _ => false) = true := by kernel_rfl
theorem fl232_1 : fldB Tryz.prog 232 1 2 = true := by kernel_rfl
theorem fp232_1 : (match Tryz.prog.underlying 232 with | some (.struct fs) => (match fs[1]? with | some f => Nat.beq f.offset 2 && (match Tryz.prog.info? f.type with | some i => Nat.beq i.size 1 | none => false) | none => false) | _ => false) = true := by kernel_rfl
theorem fl232_2 : fldB Tryz.prog 232 2 3 = true := by kernel_rfl
theorem fp232_2 : (match Tryz.prog.underlying 232 with | some (.struct fs) => (match fs[2]? with | some f => Nat.beq f.offset 3 && (match Tryz.prog.info? f.type with | some i => Nat.beq i.size 1 | none => false) | none => false) | _ => false) = true := by kernel_rfl
end Go.Proofs.YtoealglkenhphaaGreat
set_option linter.unusedVariables false
set_option linter.unusedSimpArgs false
namespace Go.Q
theorem findI_mem {α : Type} [DecidableEq α] (v : α) : ∀ (l : List α) (m : Nat), decide (0 ≤ findI (fun x => decide (v = x)) l m) = decide (v ∈ l)
 | [], m => by simp [findI]
 | x :: l, m => by
  rw [findI]
  by_cases h : v = x
  · subst h; simp
  · rw [if_neg (by simpa using h), findI_mem v l (m + 1)]; simp [h]
end Go.Q
namespace Go.Proofs.YtoealglkenhphaaGreat
open Go.RowKit Go.Q Go.D
set_option maxRecDepth 100000 in
theorem slicesIndexBool (l : List Bool) (v : Bool) : FnT Tryz.prog 185 [.one (.sl 1 (l.map cBool)), .one (.v (.bool v))] (.a (.one (.v (.int .i64 (findI (fun x => decide (v = x)) l 0))))) := by
 refine FnT.walk Tryz.func185 rfl (by kernel_rfl) Tryz.ntmps185 rfl fun hlen w0 => ?_
 try simp [cPair, cToken, cExpr, cEdge, cGraph, cStep, cWalk, cChange, cBatch, cHistory, cPositions, cAutomaton, cProductStep, cPathAtom, cConjunction, cView, cDelta, cRegistered, cRegistry] at hlen
 refine AW.seq ?_
 refine AW.region ?_
 refine AWl.put (R_assign rfl (.no rfl) rfl (.const rfl)) rfl ?_
 refine AWl.nil (AW.seq ?_)
 refine AW.seq ?_
 refine AW.region ?_
 refine AWl.put (R_move rfl (.no rfl) rfl (.tmp rfl fun _ => rfl)) rfl ?_
 refine AWl.put (by exact R_lenm rfl (.no rfl) rfl (.tmp rfl fun _ => rfl) (by exact .t) Tryz.underlying26) rfl ?_
 refine AWl.put (R_move rfl (.no rfl) rfl (.const rfl)) rfl ?_
 refine AWl.nil (AW.block ?_)
 refine AW.loop (β := Nat) (fun x => x ≤ (l).length ∧ ∀ j y, j < x → (l)[j]? = some y → (fun x => !decide (v = x)) y = true) (fun x => ⟨_, [(8, (true, .a (.one (.t (.v (.int .i64 (x : Nat))))))), (0, _), (1, _), (7, _)], []⟩) (fun x => (l).length - x) (0) ⟨Nat.zero_le _, fun j y hj => absurd hj (Nat.not_lt_zero j)⟩ (Le.sub0 rfl ⟨rfl, rfl, rfl, rfl, trivial⟩ trivial) ?_
 intro k hk
 refine AW.seq ?_
 refine AW.region ?_
 refine AWl.put (R_lt rfl (.no rfl) rfl (.tmp rfl fun _ => rfl) (.tmp rfl fun _ => rfl)) rfl ?_
 refine AWl.nil (AW.seq ?_)
 refine AW.cond (.tmp rfl fun _ => rfl) (fun hlt => ?_) (fun hlt => ?_)
 · skip
   try simp at hlt
   obtain ⟨x, hx⟩ : ∃ ξ, (l)[k]? = some ξ := ⟨_, List.getElem?_eq_getElem (by exact hlt)⟩
   refine AW.skip ?_
   refine AW.seq ?_
   refine AW.block ?_
   refine AW.seq ?_
   refine AW.region ?_
   refine AWl.put (R_move rfl (.no rfl) rfl (.tmp rfl fun _ => rfl)) rfl ?_
   refine AWl.put (R_assign rfl (.no rfl) rfl (.tmp rfl fun _ => rfl)) rfl ?_
   refine AWl.nil (AW.seq ?_)
   refine AW.region ?_
   refine AWl.put (R_move rfl (.no rfl) rfl (.tmp rfl fun _ => rfl)) rfl ?_
   refine AWl.put (R_move rfl (.no rfl) rfl (.tmp rfl fun _ => rfl)) rfl ?_
   refine AWl.put (R_move rfl (.no rfl) rfl (.tmp rfl fun _ => rfl)) rfl ?_
   refine AWl.put ((by exact R_indexAddr rfl (.no rfl) rfl (.tmp rfl fun _ => rfl) (.tmp rfl fun _ => rfl) Tryz.underlying26 ty4 (fun _ => ⟨by omega, (by exact map_get (by assumption))⟩))) rfl ?_
   refine AWl.put (by exact R_load rfl (.no rfl) rfl (.tmp rfl fun _ => rfl) ty4 rfl rfl) rfl ?_
   refine AWl.put (R_eqb rfl (.no rfl) rfl (.tmp rfl fun _ => rfl) (.tmp rfl fun _ => rfl) Tryz.underlying4) rfl ?_
   refine AWl.nil ?_
   refine AW.cond (.tmp rfl fun _ => rfl) (fun h16 => ?_) (fun h16 => ?_)
   · skip
     try simp at h16
     refine AW.seq ?_
     refine AW.le (σ' := ⟨_, [(0, _), (1, _), (5, _), (7, _), (8, _)], []⟩) (Le.sub0 rfl ⟨rfl, rfl, rfl, rfl, rfl, trivial⟩ trivial) ?_
     refine AW.region ?_
     refine AWl.put (R_move rfl (.no rfl) rfl (.tmp rfl fun _ => rfl)) rfl ?_
     refine AWl.put (R_assign rfl (.no rfl) rfl (.tmp rfl fun _ => rfl)) rfl ?_
     refine AWl.nil (AW.ret ?_)
     refine Res.v rfl rfl ?_
     rw [findI_at (k := k) hk.2 hx (by simp [h16])]; simp
   · skip
     try simp at h16
     refine AW.skip ?_
     refine AW.le (σ' := ⟨_, [(0, _), (1, _), (5, _), (7, _), (8, _)], []⟩) (Le.sub0 rfl ⟨rfl, rfl, rfl, rfl, rfl, trivial⟩ trivial) ?_
     refine AW.region ?_
     refine AWl.put (R_add rfl (.no rfl) rfl (.tmp rfl fun _ => rfl) (.const rfl) (fun _ => by omega)) rfl ?_
     refine AWl.put (R_move rfl (.no rfl) rfl (.tmp rfl fun _ => rfl)) rfl ?_
     refine AWl.nil ?_
     refine Round.next (k + 1) ⟨by omega, each_succ hk.2 hx (by simp [h16])⟩ (by omega) (Le.sub0 rfl ⟨rfl, rfl, rfl, rfl, trivial⟩ trivial)
 · skip
   try simp at hlt
   refine AW.exit ?_
   refine AW.seq ?_
   refine AW.region ?_
   refine AWl.put (R_assign rfl (.no rfl) rfl (.const rfl)) rfl ?_
   refine AWl.nil (AW.ret ?_)
   refine Res.v rfl rfl ?_
   rw [findI_none hk.2 (by omega)]
set_option maxRecDepth 100000 in
theorem slicesContainsBool (l : List Bool) (v : Bool) : FnT Tryz.prog 148 [.one (.sl 1 (l.map cBool)), .one (.v (.bool v))] (.a (.one (.v (.bool (decide (v ∈ l)))))) := by
 refine FnT.walk Tryz.func148 rfl (by kernel_rfl) Tryz.ntmps148 rfl fun hlen w0 => ?_
 try simp [cPair, cToken, cExpr, cEdge, cGraph, cStep, cWalk, cChange, cBatch, cHistory, cPositions, cAutomaton, cProductStep, cPathAtom, cConjunction, cView, cDelta, cRegistered, cRegistry] at hlen
 refine AW.seq ?_
 refine AW.region ?_
 refine AWl.put (R_assign rfl (.no rfl) rfl (.const rfl)) rfl ?_
 refine AWl.nil (AW.seq ?_)
 refine AW.region ?_
 refine AWl.put (R_move rfl (.no rfl) rfl (.tmp rfl fun _ => rfl)) rfl ?_
 refine AWl.put (R_move rfl (.no rfl) rfl (.tmp rfl fun _ => rfl)) rfl ?_
 refine AWl.put (R_callz (FnT.fr (slicesIndexBool _ _)) rfl (.no rfl) rfl (.cons (.tmp rfl fun _ => rfl) rfl (.cons (.tmp rfl fun _ => rfl) rfl .nil))) rfl ?_
 refine AWl.put (R_ge rfl (.no rfl) rfl (.tmp rfl fun _ => rfl) (.const rfl)) rfl ?_
 refine AWl.put (R_assign rfl (.no rfl) rfl (.tmp rfl fun _ => rfl)) rfl ?_
 refine AWl.nil (AW.ret ?_)
 refine Res.v rfl rfl ?_
 rw [findI_mem]
set_option maxRecDepth 100000 in
theorem slicesIndexPair (l : List TPair) (v : TPair) : FnT Tryz.prog 181 [.one (.sl 2 (l.map cPair)), .agg (cPair v)] (.a (.one (.v (.int .i64 (findI (fun x => decide (v = x)) l 0))))) := by
 refine FnT.walk Tryz.func181 rfl (by kernel_rfl) Tryz.ntmps181 rfl fun hlen w0 => ?_
 try simp [cPair, cToken, cExpr, cEdge, cGraph, cStep, cWalk, cChange, cBatch, cHistory, cPositions, cAutomaton, cProductStep, cPathAtom, cConjunction, cView, cDelta, cRegistered, cRegistry] at hlen
 refine AW.seq ?_
 refine AW.region ?_
 refine AWl.put (R_boxz rfl rfl rfl (.tmp rfl fun _ => rfl) (ts := _) (by rfl)) rfl ?_
 refine AWl.put (R_assign rfl (.no rfl) rfl (.const rfl)) rfl ?_
 refine AWl.nil (AW.seq ?_)
 refine AW.seq ?_
 refine AW.region ?_
 refine AWl.put (R_move rfl (.no rfl) rfl (.tmp rfl fun _ => rfl)) rfl ?_
 refine AWl.put (by exact R_lenm rfl (.no rfl) rfl (.tmp rfl fun _ => rfl) (by exact .t) Tryz.underlying126) rfl ?_
 refine AWl.put (R_move rfl (.no rfl) rfl (.const rfl)) rfl ?_
 refine AWl.nil (AW.block ?_)
 refine AW.loop (β := Nat) (fun x => x ≤ (l).length ∧ ∀ j y, j < x → (l)[j]? = some y → (fun x => !decide (v = x)) y = true) (fun x => ⟨_, [(8, (true, .a (.one (.t (.v (.int .i64 (x : Nat))))))), (0, _), (3, _), (7, _)], []⟩) (fun x => (l).length - x) (0) ⟨Nat.zero_le _, fun j y hj => absurd hj (Nat.not_lt_zero j)⟩ (Le.sub0 rfl ⟨rfl, rfl, rfl, rfl, trivial⟩ trivial) ?_
 intro k hk
 refine AW.seq ?_
 refine AW.region ?_
 refine AWl.put (R_lt rfl (.no rfl) rfl (.tmp rfl fun _ => rfl) (.tmp rfl fun _ => rfl)) rfl ?_
 refine AWl.nil (AW.seq ?_)
 refine AW.cond (.tmp rfl fun _ => rfl) (fun hlt => ?_) (fun hlt => ?_)
 · skip
   try simp at hlt
   obtain ⟨x, hx⟩ : ∃ ξ, (l)[k]? = some ξ := ⟨_, List.getElem?_eq_getElem (by exact hlt)⟩
   refine AW.skip ?_
   refine AW.seq ?_
   refine AW.block ?_
   refine AW.seq ?_
   refine AW.region ?_
   refine AWl.put (R_move rfl (.no rfl) rfl (.tmp rfl fun _ => rfl)) rfl ?_
   refine AWl.put (R_assign rfl (.no rfl) rfl (.tmp rfl fun _ => rfl)) rfl ?_
   refine AWl.nil (AW.seq ?_)
   refine AW.drawn 6 (nthB [[], [], [], [1, 2], [1, 2, 3], [0, 1, 2, 3, 4]]) (by kernel_rfl) (by kernel_rfl) (by kernel_rfl) ?_
   refine DrawC.step rfl rfl rfl (Loc.of rfl fun σ' hs => (by exact R_load rfl (.no rfl) (hd_sup hs rfl) (.tmp (hs.slots _ _ rfl) fun _ => rfl) ty170 rfl rfl)) ?_
   refine DrawC.step rfl rfl rfl (Loc.of rfl fun σ' hs => R_move rfl (.no rfl) (hd_sup hs rfl) (.tmp (hs.slots _ _ rfl) fun _ => rfl)) ?_
   refine DrawC.step rfl rfl rfl (Loc.of rfl fun σ' hs => R_move rfl (.no rfl) (hd_sup hs rfl) (.tmp (hs.slots _ _ rfl) fun _ => rfl)) ?_
   refine DrawC.step rfl rfl rfl (Loc.of rfl fun σ' hs => (by exact R_indexAddr rfl (.no rfl) (hd_sup hs rfl) (.tmp (hs.slots _ _ rfl) fun _ => rfl) (.tmp (hs.slots _ _ rfl) fun _ => rfl) Tryz.underlying126 ty170 (fun _ => ⟨by omega, (by exact map_get (by assumption))⟩))) ?_
   refine DrawC.step rfl rfl rfl (Loc.of rfl fun σ' hs => (by exact R_load rfl (.no rfl) (hd_sup hs rfl) (.tmp (hs.slots _ _ rfl) fun _ => rfl) ty170 rfl rfl)) ?_
   refine DrawC.step rfl rfl rfl (Loc.of rfl fun σ' hs => R_eqs rfl (.no rfl) (hd_sup hs rfl) (.tmp (hs.slots _ _ rfl) fun _ => rfl) (.tmp (hs.slots _ _ rfl) fun _ => rfl) rfl rfl (by kernel_rfl) (eqS170 _ _ _ _)) ?_
   refine DrawC.fin rfl rfl ?_
   refine AWl.nil ?_
   refine AW.cond (.tmp rfl fun _ => rfl) (fun h16 => ?_) (fun h16 => ?_)
   · skip
     try simp at h16
     refine AW.seq ?_
     refine AW.le (σ' := ⟨_, [(0, _), (3, _), (5, _), (7, _), (8, _)], []⟩) (Le.sub0 rfl ⟨rfl, rfl, rfl, rfl, rfl, trivial⟩ trivial) ?_
     refine AW.region ?_
     refine AWl.put (R_move rfl (.no rfl) rfl (.tmp rfl fun _ => rfl)) rfl ?_
     refine AWl.put (R_assign rfl (.no rfl) rfl (.tmp rfl fun _ => rfl)) rfl ?_
     refine AWl.nil (AW.ret ?_)
     refine Res.v rfl rfl ?_
     rw [findI_at (k := k) hk.2 hx (by grind [TPair.ext_iff'])]; simp
   · skip
     try simp at h16
     refine AW.skip ?_
     refine AW.le (σ' := ⟨_, [(0, _), (3, _), (5, _), (7, _), (8, _)], []⟩) (Le.sub0 rfl ⟨rfl, rfl, rfl, rfl, rfl, trivial⟩ trivial) ?_
     refine AW.region ?_
     refine AWl.put (R_add rfl (.no rfl) rfl (.tmp rfl fun _ => rfl) (.const rfl) (fun _ => by omega)) rfl ?_
     refine AWl.put (R_move rfl (.no rfl) rfl (.tmp rfl fun _ => rfl)) rfl ?_
     refine AWl.nil ?_
     refine Round.next (k + 1) ⟨by omega, each_succ hk.2 hx (by grind [TPair.ext_iff'])⟩ (by omega) (Le.sub0 rfl ⟨rfl, rfl, rfl, rfl, trivial⟩ trivial)
 · skip
   try simp at hlt
   refine AW.exit ?_
   refine AW.seq ?_
   refine AW.region ?_
   refine AWl.put (R_assign rfl (.no rfl) rfl (.const rfl)) rfl ?_
   refine AWl.nil (AW.ret ?_)
   refine Res.v rfl rfl ?_
   rw [findI_none hk.2 (by omega)]
set_option maxRecDepth 100000 in
theorem slicesContainsPair (l : List TPair) (v : TPair) : FnT Tryz.prog 137 [.one (.sl 2 (l.map cPair)), .agg (cPair v)] (.a (.one (.v (.bool (decide (v ∈ l)))))) := by
 refine FnT.walk Tryz.func137 rfl (by kernel_rfl) Tryz.ntmps137 rfl fun hlen w0 => ?_
 try simp [cPair, cToken, cExpr, cEdge, cGraph, cStep, cWalk, cChange, cBatch, cHistory, cPositions, cAutomaton, cProductStep, cPathAtom, cConjunction, cView, cDelta, cRegistered, cRegistry] at hlen
 refine AW.seq ?_
 refine AW.region ?_
 refine AWl.put (R_boxz rfl rfl rfl (.tmp rfl fun _ => rfl) (ts := _) (by rfl)) rfl ?_
 refine AWl.put (R_assign rfl (.no rfl) rfl (.const rfl)) rfl ?_
 refine AWl.nil (AW.seq ?_)
 refine AW.region ?_
 refine AWl.put (R_move rfl (.no rfl) rfl (.tmp rfl fun _ => rfl)) rfl ?_
 refine AWl.put (by exact R_load rfl (.no rfl) rfl (.tmp rfl fun _ => rfl) ty170 rfl rfl) rfl ?_
 refine AWl.put (R_callz (FnT.fr (slicesIndexPair _ _)) rfl (.no rfl) rfl (.cons (.tmp rfl fun _ => rfl) rfl (.cons (.tmp rfl fun _ => rfl) rfl .nil))) rfl ?_
 refine AWl.put (R_ge rfl (.no rfl) rfl (.tmp rfl fun _ => rfl) (.const rfl)) rfl ?_
 refine AWl.put (R_assign rfl (.no rfl) rfl (.tmp rfl fun _ => rfl)) rfl ?_
 refine AWl.nil (AW.ret ?_)
 refine Res.v rfl rfl ?_
 rw [findI_mem]
end Go.Proofs.YtoealglkenhphaaGreat
