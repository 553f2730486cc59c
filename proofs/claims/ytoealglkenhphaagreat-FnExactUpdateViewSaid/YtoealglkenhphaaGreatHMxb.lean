import Derived.Test.YtoealglkenhphaaGreatB105xb
set_option linter.unusedVariables false
set_option linter.unusedSimpArgs false
namespace Go.Proofs.YtoealglkenhphaaGreat
open Go.RowKit Go.Q Go.D
set_option maxRecDepth 100000 in
theorem MmarkIntS (l : (List Int)) (k : Int) (hk : 0 ≤ k ∧ k + cntIntS l ≤ 4611686018427387904) : FnM Tryz.prog 32 (.one (.sl 1 (l.map cInt))) (.int .i64 k) (.one (.sl 1 ((mkIntS l k).map cInt))) (.int .i64 (k + cntIntS l)) := by
 refine FnM.walk (y := .one (.rf 1000)) (R0 := fun hd => [(1000, .row 1 (l.map cInt)), (500, .hdr (some 1000) (hd 1000))]) (ts := [.sl 1 ((mkIntS l k).map cInt)]) Tryz.func32 rfl (by kernel_rfl) Tryz.ntmps32 rfl rfl rfl rfl rfl rfl rfl rfl fun hlen w0 hd => ?_
 try simp [cEdge, cGraph, cStep, cChange, cBatch, cAutomaton, cProductStep, cView] at hlen
 try simp only [LenV, LenT, List.length_map] at hlen
 unfold cntIntS at hk
 refine AW.sr ?_
 refine AWl.ac rfl rfl rfl rfl rfl ?_
 refine AWl.nil ?_
 refine AW.seq ?_
 refine AW.sr ?_
 refine AWl.ac rfl rfl rfl rfl rfl ?_
 refine AWl.nil ?_
 refine AW.block ?_
 refine AW.loop (β := Nat × Int) (fun j => j.1 ≤ l.length ∧ j.2 = k + cntL cntInt (l.take j.1)) (fun j => ⟨_, [(5, (true, .a (.one (.t (.v (.int .i64 (j.1 : Nat))))))), (1, (true, .a (.one (.t (.v (.int .i64 j.2)))))), (0, _), (4, _)], [(1000, .row 1 ((mkL mkInt cntInt (l.take j.1) k).map cInt ++ (l.drop j.1).map cInt)), (500, .hdr (some 1000) (hd 1000))]⟩) (fun j => l.length - j.1) ((0, k)) ⟨Nat.zero_le _, by simp [cntL]⟩ (Le.sub0 rfl ⟨rfl, rfl, rfl, rfl, trivial⟩ ⟨rfl, rfl, trivial⟩) ?_
 intro ⟨i, κ⟩ ⟨hi, hκ⟩
 dsimp only at hi hκ; subst hκ
 refine AW.seq ?_
 refine AW.sr ?_
 refine AWl.mv rfl rfl rfl rfl rfl ?_
 refine AWl.mv rfl rfl rfl rfl rfl ?_
 refine AWl.put (by exact R_len rfl (.no rfl) rfl (.tm rfl) (by exact .rf rfl) Tryz.underlying22) rfl ?_
 refine AWl.put (R_lt rfl (.no rfl) rfl (.tm rfl) (.tm rfl)) rfl ?_
 refine AWl.nil ?_
 refine AW.cond (.tm rfl) (fun hlt => ?_) (fun hlt => ?_)
 ·skip
  try simp at hlt
  replace hlt : i < l.length := by simp only [mkL_length, List.length_take] at hlt; omega
  obtain ⟨x, hx⟩ : ∃ x, l[i]? = some x := ⟨_, List.getElem?_eq_getElem hlt⟩
  have hrow := mark_at (f := mkInt) (c := cntInt) (k := k) cInt hx
  have hcs := cntL_at (c := cntInt) hx
  have hcn := cntL_nonneg cntInt_nn (l.take i)
  have hcl := cntL_le cntInt_nn l (i + 1)
  have hce : cntInt x = 1 := rfl
  refine AW.skip ?_
  refine AW.seq ?_
  refine AW.block ?_
  refine AW.sr ?_
  refine AWl.mv rfl rfl rfl rfl rfl ?_
  refine AWl.mv rfl rfl rfl rfl rfl ?_
  refine AWl.mv rfl rfl rfl rfl rfl ?_
  refine AWl.put (by exact R_indexAddr_rf rfl (.no rfl) rfl (.tm rfl) rfl (.tm rfl) Tryz.underlying22 ty3 (fun _ => ⟨by omega, (by exact hrow)⟩)) rfl ?_
  refine AWl.absupd (R_store_pr rfl rfl rfl (.tm rfl) rfl (.tm rfl) rfl (by exact hrow) ty3 rfl rfl rfl rfl) ?_
  refine AWl.nil ?_
  refine AW.region ?_
  refine AWl.mv rfl rfl rfl rfl rfl ?_
  refine AWl.put (R_add rfl (.no rfl) rfl (.tm rfl) (.const rfl) (fun _ => by omega)) rfl ?_
  refine AWl.av rfl rfl rfl rfl rfl ?_
  refine AWl.nil ?_
  refine AW.region ?_
  refine AWl.mv rfl rfl rfl rfl rfl ?_
  refine AWl.put (R_add rfl (.no rfl) rfl (.tm rfl) (.const rfl) (fun _ => by omega)) rfl ?_
  refine AWl.av rfl rfl rfl rfl rfl ?_
  refine AWl.nil ?_
  refine Round.next (i + 1, _) ⟨by dsimp only; omega, by dsimp only; omega⟩ (by dsimp only; omega) (Le.sub0 rfl ⟨rfl, rfl, rfl, rfl, trivial⟩ ⟨congrArg (fun r => some (R.row 1 r)) (by simp only [List.set_set]; exact mark_set _ hx rfl), rfl, trivial⟩)
 ·skip
  try simp at hlt
  replace hlt : l.length ≤ i := by simp only [mkL_length, List.length_take] at hlt; omega
  refine AW.exit ?_
  refine AW.sr ?_
  refine AWl.mv rfl rfl rfl rfl rfl ?_
  refine AWl.av rfl rfl rfl rfl rfl ?_
  refine AWl.nil ?_
  refine AW.ret ?_
  refine RetM.mk (Res.v rfl rfl ?_) (.rf (congrArg (fun r => some (R.row 1 r)) (mark_all _ (by omega))) rfl rfl .nil)
  rw [cntL_all (by omega)]; rfl
set_option maxRecDepth 100000 in
theorem MheldIntS (l : (List Int)) (k : Int) (hk : 0 ≤ k ∧ k + cntIntS l ≤ 4611686018427387904) : FnT Tryz.prog 33 [.one (.sl 1 ((mkIntS l k).map cInt)), .one (.v (.int .i64 k))] (.a (.one (.v (.int .i64 (k + cntIntS l))))) := by
 refine FnT.walk Tryz.func33 rfl (by kernel_rfl) Tryz.ntmps33 rfl fun hlen w0 => ?_
 try simp [cEdge, cGraph, cStep, cChange, cBatch, cAutomaton, cProductStep, cView] at hlen
 unfold cntIntS at hk ⊢; unfold mkIntS at hlen ⊢; try simp only [LenV, LenT, List.length_map, mkL_length] at hlen
 refine AW.sr ?_
 refine AWl.ac rfl rfl rfl rfl rfl ?_
 refine AWl.nil ?_
 refine AW.seq ?_
 refine AW.sr ?_
 refine AWl.ac rfl rfl rfl rfl rfl ?_
 refine AWl.nil ?_
 refine AW.block ?_
 refine AW.loop (β := Nat × Int) (fun j => j.1 ≤ l.length ∧ j.2 = k + cntL cntInt (l.take j.1)) (fun j => ⟨_, [(5, (true, .a (.one (.t (.v (.int .i64 (j.1 : Nat))))))), (1, (true, .a (.one (.t (.v (.int .i64 j.2)))))), (0, _)], []⟩) (fun j => l.length - j.1) ((0, k)) ⟨Nat.zero_le _, by simp [cntL]⟩ (Le.sub0 rfl ⟨rfl, rfl, rfl, trivial⟩ trivial) ?_
 intro ⟨i, κ⟩ ⟨hi, hκ⟩
 dsimp only at hi hκ; subst hκ
 refine AW.seq ?_
 refine AW.sr ?_
 refine AWl.mv rfl rfl rfl rfl rfl ?_
 refine AWl.mv rfl rfl rfl rfl rfl ?_
 refine AWl.put (by exact R_lenm rfl (.no rfl) rfl (.tm rfl) (by exact .t) Tryz.underlying22) rfl ?_
 refine AWl.put (R_lt rfl (.no rfl) rfl (.tm rfl) (.tm rfl)) rfl ?_
 refine AWl.nil ?_
 refine AW.cond (.tm rfl) (fun hlt => ?_) (fun hlt => ?_)
 ·skip
  try simp at hlt
  rw [mkL_length] at hlt
  obtain ⟨x, hx⟩ : ∃ x, l[i]? = some x := ⟨_, List.getElem?_eq_getElem hlt⟩
  have hrow := map_get (f := cInt) (mkL_get (f := mkInt) (c := cntInt) (k := k) hx)
  have hcs := cntL_at (c := cntInt) hx
  have hcn := cntL_nonneg cntInt_nn (l.take i)
  have hcl := cntL_le cntInt_nn l (i + 1)
  have hce : cntInt x = 1 := rfl
  refine AW.skip ?_
  refine AW.seq ?_
  refine AW.block ?_
  refine AW.seq ?_
  refine AW.sr ?_
  refine AWl.mv rfl rfl rfl rfl rfl ?_
  refine AWl.mv rfl rfl rfl rfl rfl ?_
  refine AWl.put (by exact R_indexAddr rfl (.no rfl) rfl (.tm rfl) (.tm rfl) Tryz.underlying22 ty3 (fun _ => ⟨by omega, hrow⟩)) rfl ?_
  refine AWl.put (by exact R_load rfl (.no rfl) rfl (.tm rfl) ty3 rfl rfl) rfl ?_
  refine AWl.mv rfl rfl rfl rfl rfl ?_
  refine AWl.put (R_ne rfl (.no rfl) rfl (.tm rfl) (.tm rfl)) rfl ?_
  refine AWl.nil ?_
  refine AW.cond (.tm rfl) (fun h17 => ?_) (fun h17 => ?_)
  ·first | (exfalso; simp at h17; omega) | (exfalso; simp [mkInt] at h17; done) | (exfalso; simp [mkInt] at h17; omega)
  ·skip
   try simp at h17
   refine AW.skip ?_
   refine AW.region ?_
   refine AWl.mv rfl rfl rfl rfl rfl ?_
   refine AWl.put (R_add rfl (.no rfl) rfl (.tm rfl) (.const rfl) (fun _ => by omega)) rfl ?_
   refine AWl.av rfl rfl rfl rfl rfl ?_
   refine AWl.nil ?_
   refine AW.region ?_
   refine AWl.mv rfl rfl rfl rfl rfl ?_
   refine AWl.put (R_add rfl (.no rfl) rfl (.tm rfl) (.const rfl) (fun _ => by omega)) rfl ?_
   refine AWl.av rfl rfl rfl rfl rfl ?_
   refine AWl.nil ?_
   refine Round.next (i + 1, _) ⟨by dsimp only; omega, by dsimp only; omega⟩ (by dsimp only; omega) (Le.sub0 rfl ⟨rfl, rfl, rfl, trivial⟩ trivial)
 ·skip
  try simp at hlt
  rw [mkL_length] at hlt
  refine AW.exit ?_
  refine AW.sr ?_
  refine AWl.mv rfl rfl rfl rfl rfl ?_
  refine AWl.av rfl rfl rfl rfl rfl ?_
  refine AWl.nil ?_
  refine AW.ret ?_
  refine Res.v rfl rfl ?_
  rw [cntL_all (by omega)]
set_option maxRecDepth 100000 in
theorem MmarkBoolS (l : (List Bool)) (k : Int) (hk : 0 ≤ k ∧ k + cntBoolS l ≤ 4611686018427387904) : FnM Tryz.prog 114 (.one (.sl 1 (l.map cBool))) (.int .i64 k) (.one (.sl 1 ((mkBoolS l k).map cBool))) (.int .i64 (k + cntBoolS l)) := by
 refine FnM.walk (y := .one (.rf 1000)) (R0 := fun hd => [(1000, .row 1 (l.map cBool)), (500, .hdr (some 1000) (hd 1000))]) (ts := [.sl 1 ((mkBoolS l k).map cBool)]) Tryz.func114 rfl (by kernel_rfl) Tryz.ntmps114 rfl rfl rfl rfl rfl rfl rfl rfl fun hlen w0 hd => ?_
 try simp [cEdge, cGraph, cStep, cChange, cBatch, cAutomaton, cProductStep, cView] at hlen
 try simp only [LenV, LenT, List.length_map] at hlen
 unfold cntBoolS at hk
 refine AW.sr ?_
 refine AWl.ac rfl rfl rfl rfl rfl ?_
 refine AWl.nil ?_
 refine AW.seq ?_
 refine AW.sr ?_
 refine AWl.ac rfl rfl rfl rfl rfl ?_
 refine AWl.nil ?_
 refine AW.block ?_
 refine AW.loop (β := Nat × Int) (fun j => j.1 ≤ l.length ∧ j.2 = k + cntL cntBool (l.take j.1)) (fun j => ⟨_, [(5, (true, .a (.one (.t (.v (.int .i64 (j.1 : Nat))))))), (1, (true, .a (.one (.t (.v (.int .i64 j.2)))))), (0, _), (4, _)], [(1000, .row 1 ((mkL mkBool cntBool (l.take j.1) k).map cBool ++ (l.drop j.1).map cBool)), (500, .hdr (some 1000) (hd 1000))]⟩) (fun j => l.length - j.1) ((0, k)) ⟨Nat.zero_le _, by simp [cntL]⟩ (Le.sub0 rfl ⟨rfl, rfl, rfl, rfl, trivial⟩ ⟨rfl, rfl, trivial⟩) ?_
 intro ⟨i, κ⟩ ⟨hi, hκ⟩
 dsimp only at hi hκ; subst hκ
 refine AW.seq ?_
 refine AW.sr ?_
 refine AWl.mv rfl rfl rfl rfl rfl ?_
 refine AWl.mv rfl rfl rfl rfl rfl ?_
 refine AWl.put (by exact R_len rfl (.no rfl) rfl (.tm rfl) (by exact .rf rfl) Tryz.underlying26) rfl ?_
 refine AWl.put (R_lt rfl (.no rfl) rfl (.tm rfl) (.tm rfl)) rfl ?_
 refine AWl.nil ?_
 refine AW.cond (.tm rfl) (fun hlt => ?_) (fun hlt => ?_)
 ·skip
  try simp at hlt
  replace hlt : i < l.length := by simp only [mkL_length, List.length_take] at hlt; omega
  obtain ⟨x, hx⟩ : ∃ x, l[i]? = some x := ⟨_, List.getElem?_eq_getElem hlt⟩
  have hrow := mark_at (f := mkBool) (c := cntBool) (k := k) cBool hx
  have hcs := cntL_at (c := cntBool) hx
  have hcn := cntL_nonneg cntBool_nn (l.take i)
  have hcl := cntL_le cntBool_nn l (i + 1)
  have hce : cntBool x = 1 := rfl
  refine AW.skip ?_
  refine AW.seq ?_
  refine AW.block ?_
  refine AW.sr ?_
  refine AWl.mv rfl rfl rfl rfl rfl ?_
  refine AWl.mv rfl rfl rfl rfl rfl ?_
  refine AWl.mv rfl rfl rfl rfl rfl ?_
  refine AWl.put (R_rem rfl (.no rfl) rfl (.tm rfl) (.const rfl) (fun _ => by omega)) rfl ?_
  refine AWl.put (R_eq rfl (.no rfl) rfl (.tm rfl) (.const rfl)) rfl ?_
  refine AWl.put (by exact R_indexAddr_rf rfl (.no rfl) rfl (.tm rfl) rfl (.tm rfl) Tryz.underlying26 ty4 (fun _ => ⟨by omega, (by exact hrow)⟩)) rfl ?_
  refine AWl.absupd (R_store_pr rfl rfl rfl (.tm rfl) rfl (.tm rfl) rfl (by exact hrow) ty4 rfl rfl rfl rfl) ?_
  refine AWl.nil ?_
  refine AW.region ?_
  refine AWl.mv rfl rfl rfl rfl rfl ?_
  refine AWl.put (R_add rfl (.no rfl) rfl (.tm rfl) (.const rfl) (fun _ => by omega)) rfl ?_
  refine AWl.av rfl rfl rfl rfl rfl ?_
  refine AWl.nil ?_
  refine AW.region ?_
  refine AWl.mv rfl rfl rfl rfl rfl ?_
  refine AWl.put (R_add rfl (.no rfl) rfl (.tm rfl) (.const rfl) (fun _ => by omega)) rfl ?_
  refine AWl.av rfl rfl rfl rfl rfl ?_
  refine AWl.nil ?_
  refine Round.next (i + 1, _) ⟨by dsimp only; omega, by dsimp only; omega⟩ (by dsimp only; omega) (Le.sub0 rfl ⟨rfl, rfl, rfl, rfl, trivial⟩ ⟨congrArg (fun r => some (R.row 1 r)) (by simp only [List.set_set]; exact mark_set _ hx rfl), rfl, trivial⟩)
 ·skip
  try simp at hlt
  replace hlt : l.length ≤ i := by simp only [mkL_length, List.length_take] at hlt; omega
  refine AW.exit ?_
  refine AW.sr ?_
  refine AWl.mv rfl rfl rfl rfl rfl ?_
  refine AWl.av rfl rfl rfl rfl rfl ?_
  refine AWl.nil ?_
  refine AW.ret ?_
  refine RetM.mk (Res.v rfl rfl ?_) (.rf (congrArg (fun r => some (R.row 1 r)) (mark_all _ (by omega))) rfl rfl .nil)
  rw [cntL_all (by omega)]; rfl
set_option maxRecDepth 100000 in
theorem MheldBoolS (l : (List Bool)) (k : Int) (hk : 0 ≤ k ∧ k + cntBoolS l ≤ 4611686018427387904) : FnT Tryz.prog 115 [.one (.sl 1 ((mkBoolS l k).map cBool)), .one (.v (.int .i64 k))] (.a (.one (.v (.int .i64 (k + cntBoolS l))))) := by
 refine FnT.walk Tryz.func115 rfl (by kernel_rfl) Tryz.ntmps115 rfl fun hlen w0 => ?_
 try simp [cEdge, cGraph, cStep, cChange, cBatch, cAutomaton, cProductStep, cView] at hlen
 unfold cntBoolS at hk ⊢; unfold mkBoolS at hlen ⊢; try simp only [LenV, LenT, List.length_map, mkL_length] at hlen
 refine AW.sr ?_
 refine AWl.ac rfl rfl rfl rfl rfl ?_
 refine AWl.nil ?_
 refine AW.seq ?_
 refine AW.sr ?_
 refine AWl.ac rfl rfl rfl rfl rfl ?_
 refine AWl.nil ?_
 refine AW.block ?_
 refine AW.loop (β := Nat × Int) (fun j => j.1 ≤ l.length ∧ j.2 = k + cntL cntBool (l.take j.1)) (fun j => ⟨_, [(5, (true, .a (.one (.t (.v (.int .i64 (j.1 : Nat))))))), (1, (true, .a (.one (.t (.v (.int .i64 j.2)))))), (0, _)], []⟩) (fun j => l.length - j.1) ((0, k)) ⟨Nat.zero_le _, by simp [cntL]⟩ (Le.sub0 rfl ⟨rfl, rfl, rfl, trivial⟩ trivial) ?_
 intro ⟨i, κ⟩ ⟨hi, hκ⟩
 dsimp only at hi hκ; subst hκ
 refine AW.seq ?_
 refine AW.sr ?_
 refine AWl.mv rfl rfl rfl rfl rfl ?_
 refine AWl.mv rfl rfl rfl rfl rfl ?_
 refine AWl.put (by exact R_lenm rfl (.no rfl) rfl (.tm rfl) (by exact .t) Tryz.underlying26) rfl ?_
 refine AWl.put (R_lt rfl (.no rfl) rfl (.tm rfl) (.tm rfl)) rfl ?_
 refine AWl.nil ?_
 refine AW.cond (.tm rfl) (fun hlt => ?_) (fun hlt => ?_)
 ·skip
  try simp at hlt
  rw [mkL_length] at hlt
  obtain ⟨x, hx⟩ : ∃ x, l[i]? = some x := ⟨_, List.getElem?_eq_getElem hlt⟩
  have hrow := map_get (f := cBool) (mkL_get (f := mkBool) (c := cntBool) (k := k) hx)
  have hcs := cntL_at (c := cntBool) hx
  have hcn := cntL_nonneg cntBool_nn (l.take i)
  have hcl := cntL_le cntBool_nn l (i + 1)
  have hce : cntBool x = 1 := rfl
  refine AW.skip ?_
  refine AW.seq ?_
  refine AW.block ?_
  refine AW.seq ?_
  refine AW.sr ?_
  refine AWl.mv rfl rfl rfl rfl rfl ?_
  refine AWl.mv rfl rfl rfl rfl rfl ?_
  refine AWl.put (by exact R_indexAddr rfl (.no rfl) rfl (.tm rfl) (.tm rfl) Tryz.underlying26 ty4 (fun _ => ⟨by omega, hrow⟩)) rfl ?_
  refine AWl.put (by exact R_load rfl (.no rfl) rfl (.tm rfl) ty4 rfl rfl) rfl ?_
  refine AWl.mv rfl rfl rfl rfl rfl ?_
  refine AWl.put (R_rem rfl (.no rfl) rfl (.tm rfl) (.const rfl) (fun _ => by omega)) rfl ?_
  refine AWl.put (R_eq rfl (.no rfl) rfl (.tm rfl) (.const rfl)) rfl ?_
  refine AWl.put (R_neb rfl (.no rfl) rfl (.tm rfl) (.tm rfl) Tryz.underlying4) rfl ?_
  refine AWl.nil ?_
  refine AW.cond (.tm rfl) (fun h19 => ?_) (fun h19 => ?_)
  ·first | (exfalso; simp at h19; omega) | (exfalso; simp [mkBool] at h19; done) | (exfalso; simp [mkBool] at h19; omega)
  ·skip
   try simp at h19
   refine AW.skip ?_
   refine AW.region ?_
   refine AWl.mv rfl rfl rfl rfl rfl ?_
   refine AWl.put (R_add rfl (.no rfl) rfl (.tm rfl) (.const rfl) (fun _ => by omega)) rfl ?_
   refine AWl.av rfl rfl rfl rfl rfl ?_
   refine AWl.nil ?_
   refine AW.region ?_
   refine AWl.mv rfl rfl rfl rfl rfl ?_
   refine AWl.put (R_add rfl (.no rfl) rfl (.tm rfl) (.const rfl) (fun _ => by omega)) rfl ?_
   refine AWl.av rfl rfl rfl rfl rfl ?_
   refine AWl.nil ?_
   refine Round.next (i + 1, _) ⟨by dsimp only; omega, by dsimp only; omega⟩ (by dsimp only; omega) (Le.sub0 rfl ⟨rfl, rfl, rfl, trivial⟩ trivial)
 ·skip
  try simp at hlt
  rw [mkL_length] at hlt
  refine AW.exit ?_
  refine AW.sr ?_
  refine AWl.mv rfl rfl rfl rfl rfl ?_
  refine AWl.av rfl rfl rfl rfl rfl ?_
  refine AWl.nil ?_
  refine AW.ret ?_
  refine Res.v rfl rfl ?_
  rw [cntL_all (by omega)]
set_option maxRecDepth 100000 in
theorem MmarkIntSS (l : (List (List Int))) (k : Int) (hk : 0 ≤ k ∧ k + cntIntSS l ≤ 4611686018427387904) : FnM Tryz.prog 41 (.one (.sl 1 (l.map cIntS))) (.int .i64 k) (.one (.sl 1 ((mkIntSS l k).map cIntS))) (.int .i64 (k + cntIntSS l)) := by
 refine FnM.walk (y := .one (.rf 1000)) (R0 := fun hd => [(1000, .row 1 (l.map cIntS)), (500, .hdr (some 1000) (hd 1000))]) (ts := [.sl 1 ((mkIntSS l k).map cIntS)]) Tryz.func41 rfl (by kernel_rfl) Tryz.ntmps41 rfl rfl rfl rfl rfl rfl rfl rfl fun hlen w0 hd => ?_
 try simp [cEdge, cGraph, cStep, cChange, cBatch, cAutomaton, cProductStep, cView] at hlen
 try simp only [LenV, LenT, List.length_map] at hlen
 unfold cntIntSS at hk
 refine AW.sr ?_
 refine AWl.ac rfl rfl rfl rfl rfl ?_
 refine AWl.nil ?_
 refine AW.seq ?_
 refine AW.sr ?_
 refine AWl.ac rfl rfl rfl rfl rfl ?_
 refine AWl.nil ?_
 refine AW.block ?_
 refine AW.loop (β := Nat × Int) (fun j => j.1 ≤ l.length ∧ j.2 = k + cntL cntIntS (l.take j.1)) (fun j => ⟨_, [(5, (true, .a (.one (.t (.v (.int .i64 (j.1 : Nat))))))), (1, (true, .a (.one (.t (.v (.int .i64 j.2)))))), (0, _), (4, _)], [(1000, .row 1 ((mkL mkIntS cntIntS (l.take j.1) k).map cIntS ++ (l.drop j.1).map cIntS)), (500, .hdr (some 1000) (hd 1000))]⟩) (fun j => l.length - j.1) ((0, k)) ⟨Nat.zero_le _, by simp [cntL]⟩ (Le.sub0 rfl ⟨rfl, rfl, rfl, rfl, trivial⟩ ⟨rfl, rfl, trivial⟩) ?_
 intro ⟨i, κ⟩ ⟨hi, hκ⟩
 dsimp only at hi hκ; subst hκ
 refine AW.seq ?_
 refine AW.sr ?_
 refine AWl.mv rfl rfl rfl rfl rfl ?_
 refine AWl.mv rfl rfl rfl rfl rfl ?_
 refine AWl.put (by exact R_len rfl (.no rfl) rfl (.tm rfl) (by exact .rf rfl) Tryz.underlying27) rfl ?_
 refine AWl.put (R_lt rfl (.no rfl) rfl (.tm rfl) (.tm rfl)) rfl ?_
 refine AWl.nil ?_
 refine AW.cond (.tm rfl) (fun hlt => ?_) (fun hlt => ?_)
 ·skip
  try simp at hlt
  replace hlt : i < l.length := by simp only [mkL_length, List.length_take] at hlt; omega
  obtain ⟨x, hx⟩ : ∃ x, l[i]? = some x := ⟨_, List.getElem?_eq_getElem hlt⟩
  have hrow := mark_at (f := mkIntS) (c := cntIntS) (k := k) cIntS hx
  have hcs := cntL_at (c := cntIntS) hx
  have hcn := cntL_nonneg cntIntS_nn (l.take i)
  have hcl := cntL_le cntIntS_nn l (i + 1)
  have := cntIntS_nn x
  have hce : cntIntS x = cntIntS x := rfl
  refine AW.skip ?_
  refine AW.seq ?_
  refine AW.block ?_
  refine AW.region ?_
  refine AWl.mv rfl rfl rfl rfl rfl ?_
  refine AWl.mv rfl rfl rfl rfl rfl ?_
  refine AWl.put (by exact R_indexAddr_rf rfl (.no rfl) rfl (.tm rfl) rfl (.tm rfl) Tryz.underlying27 ty22 (fun _ => ⟨by omega, (by exact hrow)⟩)) rfl ?_
  refine AWl.put (R_load_sb rfl (.no rfl) rfl (.tm rfl) rfl (by exact hrow) ty22 rfl) rfl ?_
  refine AWl.mv rfl rfl rfl rfl rfl ?_
  refine AWl.updput (R_mark_sbc rfl rfl rfl (.tm rfl) (.tm rfl) rfl (by exact hrow) rfl (MmarkIntS _ _ (by omega))) rfl ?_
  refine AWl.av rfl rfl rfl rfl rfl ?_
  refine AWl.nil ?_
  refine AW.region ?_
  refine AWl.mv rfl rfl rfl rfl rfl ?_
  refine AWl.put (R_add rfl (.no rfl) rfl (.tm rfl) (.const rfl) (fun _ => by omega)) rfl ?_
  refine AWl.av rfl rfl rfl rfl rfl ?_
  refine AWl.nil ?_
  refine Round.next (i + 1, _) ⟨by dsimp only; omega, by dsimp only; omega⟩ (by dsimp only; omega) (Le.sub0 rfl ⟨rfl, rfl, rfl, rfl, trivial⟩ ⟨congrArg (fun r => some (R.row 1 r)) (by simp only [List.set_set]; exact mark_set _ hx rfl), rfl, trivial⟩)
 ·skip
  try simp at hlt
  replace hlt : l.length ≤ i := by simp only [mkL_length, List.length_take] at hlt; omega
  refine AW.exit ?_
  refine AW.sr ?_
  refine AWl.mv rfl rfl rfl rfl rfl ?_
  refine AWl.av rfl rfl rfl rfl rfl ?_
  refine AWl.nil ?_
  refine AW.ret ?_
  refine RetM.mk (Res.v rfl rfl ?_) (.rf (congrArg (fun r => some (R.row 1 r)) (mark_all _ (by omega))) rfl rfl .nil)
  rw [cntL_all (by omega)]; rfl
set_option maxRecDepth 100000 in
theorem MheldIntSS (l : (List (List Int))) (k : Int) (hk : 0 ≤ k ∧ k + cntIntSS l ≤ 4611686018427387904) : FnT Tryz.prog 42 [.one (.sl 1 ((mkIntSS l k).map cIntS)), .one (.v (.int .i64 k))] (.a (.one (.v (.int .i64 (k + cntIntSS l))))) := by
 refine FnT.walk Tryz.func42 rfl (by kernel_rfl) Tryz.ntmps42 rfl fun hlen w0 => ?_
 try simp [cEdge, cGraph, cStep, cChange, cBatch, cAutomaton, cProductStep, cView] at hlen
 unfold cntIntSS at hk ⊢; unfold mkIntSS at hlen ⊢; try simp only [LenV, LenT, List.length_map, mkL_length] at hlen
 refine AW.sr ?_
 refine AWl.ac rfl rfl rfl rfl rfl ?_
 refine AWl.nil ?_
 refine AW.seq ?_
 refine AW.sr ?_
 refine AWl.ac rfl rfl rfl rfl rfl ?_
 refine AWl.nil ?_
 refine AW.block ?_
 refine AW.loop (β := Nat × Int) (fun j => j.1 ≤ l.length ∧ j.2 = k + cntL cntIntS (l.take j.1)) (fun j => ⟨_, [(5, (true, .a (.one (.t (.v (.int .i64 (j.1 : Nat))))))), (1, (true, .a (.one (.t (.v (.int .i64 j.2)))))), (0, _)], []⟩) (fun j => l.length - j.1) ((0, k)) ⟨Nat.zero_le _, by simp [cntL]⟩ (Le.sub0 rfl ⟨rfl, rfl, rfl, trivial⟩ trivial) ?_
 intro ⟨i, κ⟩ ⟨hi, hκ⟩
 dsimp only at hi hκ; subst hκ
 refine AW.seq ?_
 refine AW.sr ?_
 refine AWl.mv rfl rfl rfl rfl rfl ?_
 refine AWl.mv rfl rfl rfl rfl rfl ?_
 refine AWl.put (by exact R_lenm rfl (.no rfl) rfl (.tm rfl) (by exact .t) Tryz.underlying27) rfl ?_
 refine AWl.put (R_lt rfl (.no rfl) rfl (.tm rfl) (.tm rfl)) rfl ?_
 refine AWl.nil ?_
 refine AW.cond (.tm rfl) (fun hlt => ?_) (fun hlt => ?_)
 ·skip
  try simp at hlt
  rw [mkL_length] at hlt
  obtain ⟨x, hx⟩ : ∃ x, l[i]? = some x := ⟨_, List.getElem?_eq_getElem hlt⟩
  have hrow := map_get (f := cIntS) (mkL_get (f := mkIntS) (c := cntIntS) (k := k) hx)
  have hcs := cntL_at (c := cntIntS) hx
  have hcn := cntL_nonneg cntIntS_nn (l.take i)
  have hcl := cntL_le cntIntS_nn l (i + 1)
  have := cntIntS_nn x
  have hce : cntIntS x = cntIntS x := rfl
  refine AW.skip ?_
  refine AW.seq ?_
  refine AW.block ?_
  refine AW.sr ?_
  refine AWl.mv rfl rfl rfl rfl rfl ?_
  refine AWl.mv rfl rfl rfl rfl rfl ?_
  refine AWl.put (by exact R_indexAddr rfl (.no rfl) rfl (.tm rfl) (.tm rfl) Tryz.underlying27 ty22 (fun _ => ⟨by omega, hrow⟩)) rfl ?_
  refine AWl.put (by exact R_load rfl (.no rfl) rfl (.tm rfl) ty22 rfl rfl) rfl ?_
  refine AWl.mv rfl rfl rfl rfl rfl ?_
  refine AWl.put (R_callz (FnT.fr (MheldIntS _ _ (by omega))) rfl (.no rfl) rfl (.cons (.tm rfl) rfl (.cons (.tm rfl) rfl .nil))) rfl ?_
  refine AWl.av rfl rfl rfl rfl rfl ?_
  refine AWl.nil ?_
  refine AW.sr ?_
  refine AWl.mv rfl rfl rfl rfl rfl ?_
  refine AWl.put (R_lt rfl (.no rfl) rfl (.tm rfl) (.const rfl)) rfl ?_
  refine AWl.nil ?_
  refine AW.cond (.tm rfl) (fun h19 => ?_) (fun h19 => ?_)
  ·first | (exfalso; simp at h19; omega) | (exfalso; simp [mkIntS] at h19; done) | (exfalso; simp [mkIntS] at h19; omega)
  ·skip
   try simp at h19
   refine AW.skip ?_
   refine AW.region ?_
   refine AWl.mv rfl rfl rfl rfl rfl ?_
   refine AWl.put (R_add rfl (.no rfl) rfl (.tm rfl) (.const rfl) (fun _ => by omega)) rfl ?_
   refine AWl.av rfl rfl rfl rfl rfl ?_
   refine AWl.nil ?_
   refine Round.next (i + 1, _) ⟨by dsimp only; omega, by dsimp only; omega⟩ (by dsimp only; omega) (Le.sub0 rfl ⟨rfl, rfl, rfl, trivial⟩ trivial)
 ·skip
  try simp at hlt
  rw [mkL_length] at hlt
  refine AW.exit ?_
  refine AW.sr ?_
  refine AWl.mv rfl rfl rfl rfl rfl ?_
  refine AWl.av rfl rfl rfl rfl rfl ?_
  refine AWl.nil ?_
  refine AW.ret ?_
  refine Res.v rfl rfl ?_
  rw [cntL_all (by omega)]
set_option maxRecDepth 100000 in
theorem MmarkEdgeS (l : (List TEdge)) (k : Int) (hk : 0 ≤ k ∧ k + cntEdgeS l ≤ 4611686018427387904) : FnM Tryz.prog 57 (.one (.sl 4 (l.map cEdge))) (.int .i64 k) (.one (.sl 4 ((mkEdgeS l k).map cEdge))) (.int .i64 (k + cntEdgeS l)) := by
 refine FnM.walk (y := .one (.rf 1000)) (R0 := fun hd => [(1000, .row 4 (l.map cEdge)), (500, .hdr (some 1000) (hd 1000))]) (ts := [.sl 4 ((mkEdgeS l k).map cEdge)]) Tryz.func57 rfl (by kernel_rfl) Tryz.ntmps57 rfl rfl rfl rfl rfl rfl rfl rfl fun hlen w0 hd => ?_
 try simp [cEdge, cGraph, cStep, cChange, cBatch, cAutomaton, cProductStep, cView] at hlen
 try simp only [LenV, LenT, List.length_map] at hlen
 unfold cntEdgeS at hk
 refine AW.sr ?_
 refine AWl.ac rfl rfl rfl rfl rfl ?_
 refine AWl.nil ?_
 refine AW.seq ?_
 refine AW.sr ?_
 refine AWl.ac rfl rfl rfl rfl rfl ?_
 refine AWl.nil ?_
 refine AW.block ?_
 refine AW.loop (β := Nat × Int) (fun j => j.1 ≤ l.length ∧ j.2 = k + cntL cntEdge (l.take j.1)) (fun j => ⟨_, [(5, (true, .a (.one (.t (.v (.int .i64 (j.1 : Nat))))))), (1, (true, .a (.one (.t (.v (.int .i64 j.2)))))), (0, _), (4, _)], [(1000, .row 4 ((mkL mkEdge cntEdge (l.take j.1) k).map cEdge ++ (l.drop j.1).map cEdge)), (500, .hdr (some 1000) (hd 1000))]⟩) (fun j => l.length - j.1) ((0, k)) ⟨Nat.zero_le _, by simp [cntL]⟩ (Le.sub0 rfl ⟨rfl, rfl, rfl, rfl, trivial⟩ ⟨rfl, rfl, trivial⟩) ?_
 intro ⟨i, κ⟩ ⟨hi, hκ⟩
 dsimp only at hi hκ; subst hκ
 refine AW.seq ?_
 refine AW.sr ?_
 refine AWl.mv rfl rfl rfl rfl rfl ?_
 refine AWl.mv rfl rfl rfl rfl rfl ?_
 refine AWl.put (by exact R_len rfl (.no rfl) rfl (.tm rfl) (by exact .rf rfl) Tryz.underlying41) rfl ?_
 refine AWl.put (R_lt rfl (.no rfl) rfl (.tm rfl) (.tm rfl)) rfl ?_
 refine AWl.nil ?_
 refine AW.cond (.tm rfl) (fun hlt => ?_) (fun hlt => ?_)
 ·skip
  try simp at hlt
  replace hlt : i < l.length := by simp only [mkL_length, List.length_take] at hlt; omega
  obtain ⟨x, hx⟩ : ∃ x, l[i]? = some x := ⟨_, List.getElem?_eq_getElem hlt⟩
  have hrow := mark_at (f := mkEdge) (c := cntEdge) (k := k) cEdge hx
  have hcs := cntL_at (c := cntEdge) hx
  have hcn := cntL_nonneg cntEdge_nn (l.take i)
  have hcl := cntL_le cntEdge_nn l (i + 1)
  have hce : cntEdge x = 1 + 1 + 1 + 1 := rfl
  refine AW.skip ?_
  refine AW.seq ?_
  refine AW.block ?_
  refine AW.sr ?_
  refine AWl.mv rfl rfl rfl rfl rfl ?_
  refine AWl.mv rfl rfl rfl rfl rfl ?_
  refine AWl.mv rfl rfl rfl rfl rfl ?_
  refine AWl.put (by exact R_indexAddr_rf rfl (.no rfl) rfl (.tm rfl) rfl (.tm rfl) Tryz.underlying41 ty46 (fun _ => ⟨by omega, (by exact hrow)⟩)) rfl ?_
  refine AWl.put (by exact R_fieldAddr_pr rfl (.no rfl) rfl (.tm rfl) fl46_0) rfl ?_
  refine AWl.absupd (R_store_pr rfl rfl rfl (.tm rfl) rfl (.tm rfl) rfl (by exact hrow) ty3 rfl rfl rfl rfl) ?_
  refine AWl.nil ?_
  refine AW.sr ?_
  refine AWl.mv rfl rfl rfl rfl rfl ?_
  refine AWl.put (R_add rfl (.no rfl) rfl (.tm rfl) (.const rfl) (fun _ => by omega)) rfl ?_
  refine AWl.av rfl rfl rfl rfl rfl ?_
  refine AWl.nil ?_
  refine AW.sr ?_
  refine AWl.mv rfl rfl rfl rfl rfl ?_
  refine AWl.mv rfl rfl rfl rfl rfl ?_
  refine AWl.mv rfl rfl rfl rfl rfl ?_
  refine AWl.put ((by exact R_indexAddr_rf rfl (.no rfl) rfl (.tm rfl) rfl (.tm rfl) Tryz.underlying41 ty46 (fun _ => ⟨by omega, (by exact set_at _ (hrow))⟩))) rfl ?_
  refine AWl.put (by exact R_fieldAddr_pr rfl (.no rfl) rfl (.tm rfl) fl46_1) rfl ?_
  refine AWl.absupd (R_store_pr rfl rfl rfl (.tm rfl) rfl (.tm rfl) rfl (by exact set_at _ (hrow)) ty3 rfl rfl rfl rfl) ?_
  refine AWl.nil ?_
  refine AW.sr ?_
  refine AWl.mv rfl rfl rfl rfl rfl ?_
  refine AWl.put (R_add rfl (.no rfl) rfl (.tm rfl) (.const rfl) (fun _ => by omega)) rfl ?_
  refine AWl.av rfl rfl rfl rfl rfl ?_
  refine AWl.nil ?_
  refine AW.sr ?_
  refine AWl.mv rfl rfl rfl rfl rfl ?_
  refine AWl.mv rfl rfl rfl rfl rfl ?_
  refine AWl.mv rfl rfl rfl rfl rfl ?_
  refine AWl.put ((by exact R_indexAddr_rf rfl (.no rfl) rfl (.tm rfl) rfl (.tm rfl) Tryz.underlying41 ty46 (fun _ => ⟨by omega, (by exact set_at _ (set_at _ (hrow)))⟩))) rfl ?_
  refine AWl.put (by exact R_fieldAddr_pr rfl (.no rfl) rfl (.tm rfl) fl46_2) rfl ?_
  refine AWl.absupd (R_store_pr rfl rfl rfl (.tm rfl) rfl (.tm rfl) rfl (by exact set_at _ (set_at _ (hrow))) ty3 rfl rfl rfl rfl) ?_
  refine AWl.nil ?_
  refine AW.sr ?_
  refine AWl.mv rfl rfl rfl rfl rfl ?_
  refine AWl.put (R_add rfl (.no rfl) rfl (.tm rfl) (.const rfl) (fun _ => by omega)) rfl ?_
  refine AWl.av rfl rfl rfl rfl rfl ?_
  refine AWl.nil ?_
  refine AW.sr ?_
  refine AWl.mv rfl rfl rfl rfl rfl ?_
  refine AWl.mv rfl rfl rfl rfl rfl ?_
  refine AWl.mv rfl rfl rfl rfl rfl ?_
  refine AWl.put ((by exact R_indexAddr_rf rfl (.no rfl) rfl (.tm rfl) rfl (.tm rfl) Tryz.underlying41 ty46 (fun _ => ⟨by omega, (by exact set_at _ (set_at _ (set_at _ (hrow))))⟩))) rfl ?_
  refine AWl.put (by exact R_fieldAddr_pr rfl (.no rfl) rfl (.tm rfl) fl46_3) rfl ?_
  refine AWl.absupd (R_store_pr rfl rfl rfl (.tm rfl) rfl (.tm rfl) rfl (by exact set_at _ (set_at _ (set_at _ (hrow)))) ty3 rfl rfl rfl rfl) ?_
  refine AWl.nil ?_
  refine AW.region ?_
  refine AWl.mv rfl rfl rfl rfl rfl ?_
  refine AWl.put (R_add rfl (.no rfl) rfl (.tm rfl) (.const rfl) (fun _ => by omega)) rfl ?_
  refine AWl.av rfl rfl rfl rfl rfl ?_
  refine AWl.nil ?_
  refine AW.region ?_
  refine AWl.mv rfl rfl rfl rfl rfl ?_
  refine AWl.put (R_add rfl (.no rfl) rfl (.tm rfl) (.const rfl) (fun _ => by omega)) rfl ?_
  refine AWl.av rfl rfl rfl rfl rfl ?_
  refine AWl.nil ?_
  refine Round.next (i + 1, _) ⟨by dsimp only; omega, by dsimp only; omega⟩ (by dsimp only; omega) (Le.sub0 rfl ⟨rfl, rfl, rfl, rfl, trivial⟩ ⟨congrArg (fun r => some (R.row 4 r)) (by simp only [List.set_set]; exact mark_set _ hx rfl), rfl, trivial⟩)
 ·skip
  try simp at hlt
  replace hlt : l.length ≤ i := by simp only [mkL_length, List.length_take] at hlt; omega
  refine AW.exit ?_
  refine AW.sr ?_
  refine AWl.mv rfl rfl rfl rfl rfl ?_
  refine AWl.av rfl rfl rfl rfl rfl ?_
  refine AWl.nil ?_
  refine AW.ret ?_
  refine RetM.mk (Res.v rfl rfl ?_) (.rf (congrArg (fun r => some (R.row 4 r)) (mark_all _ (by omega))) rfl rfl .nil)
  rw [cntL_all (by omega)]; rfl
set_option maxRecDepth 100000 in
theorem MmarkGraph (x : TGraph) (k : Int) (hk : 0 ≤ k ∧ k + cpGraph x ≤ 4611686018427387904) : FnM Tryz.prog 16 (.agg (cGraph x)) (.int .i64 k) (.agg (cGraph (mpGraph x k))) (.int .i64 (k + cpGraph x)) := by
 refine FnM.walk (y := .agg [.rf 1000, .rf 1001]) (R0 := fun hd => [(1001, .row 4 (x.Edges.map cEdge)), (1000, .row 1 (x.Values.map cInt)), (500, .hdr (some 1000) (hd 1000)), (501, .hdr (some 1001) (hd 1001))]) (ts := cGraph (mpGraph x k)) Tryz.func16 rfl (by kernel_rfl) Tryz.ntmps16 rfl rfl rfl rfl rfl rfl rfl rfl fun hlen w0 hd => ?_
 try simp [cEdge, cGraph, cStep, cChange, cBatch, cAutomaton, cProductStep, cView] at hlen
 have := cntIntS_nn x.Values
 have := cntEdgeS_nn x.Edges
 have hce : cpGraph x = cntIntS x.Values + cntEdgeS x.Edges := rfl
 refine AW.sr ?_
 refine AWl.add (R_box 2 rfl rfl rfl (.tm rfl) rfl rfl rfl) rfl ?_
 refine AWl.ac rfl rfl rfl rfl rfl ?_
 refine AWl.nil ?_
 refine AW.sr ?_
 refine AWl.put (by exact R_fieldAddr_pp rfl (.no rfl) rfl (.tm rfl) fl43_0) rfl ?_
 refine AWl.put (by exact R_load_pp rfl (.no rfl) rfl (.tm rfl) rfl ty22 rfl rfl) rfl ?_
 refine AWl.mv rfl rfl rfl rfl rfl ?_
 refine AWl.marks (R_markc rfl rfl rfl (.tm rfl) (.tm rfl) (MmarkIntS _ _ (by omega)) (.rf rfl rfl .nil) rfl rfl) rfl ?_
 refine AWl.av rfl rfl rfl rfl rfl ?_
 refine AWl.nil ?_
 refine AW.sr ?_
 refine AWl.put (by exact R_fieldAddr_pp rfl (.no rfl) rfl (.tm rfl) fl43_1) rfl ?_
 refine AWl.put (by exact R_load_pp rfl (.no rfl) rfl (.tm rfl) rfl ty41 rfl rfl) rfl ?_
 refine AWl.mv rfl rfl rfl rfl rfl ?_
 refine AWl.marks (R_markc rfl rfl rfl (.tm rfl) (.tm rfl) (MmarkEdgeS _ _ (by omega)) (.rf rfl rfl .nil) rfl rfl) rfl ?_
 refine AWl.av rfl rfl rfl rfl rfl ?_
 refine AWl.nil ?_
 refine AW.sr ?_
 refine AWl.mv rfl rfl rfl rfl rfl ?_
 refine AWl.av rfl rfl rfl rfl rfl ?_
 refine AWl.nil ?_
 refine AW.ret ?_
 refine RetM.mk (Res.v rfl rfl ?_) (.rf rfl rfl rfl (.rf rfl rfl rfl .nil))
 first | rfl | (congr 1; omega)
set_option maxRecDepth 100000 in
theorem MmarkChangeS (l : (List TChange)) (k : Int) (hk : 0 ≤ k ∧ k + cntChangeS l ≤ 4611686018427387904) : FnM Tryz.prog 65 (.one (.sl 5 (l.map cChange))) (.int .i64 k) (.one (.sl 5 ((mkChangeS l k).map cChange))) (.int .i64 (k + cntChangeS l)) := by
 refine FnM.walk (y := .one (.rf 1000)) (R0 := fun hd => [(1000, .row 5 (l.map cChange)), (500, .hdr (some 1000) (hd 1000))]) (ts := [.sl 5 ((mkChangeS l k).map cChange)]) Tryz.func65 rfl (by kernel_rfl) Tryz.ntmps65 rfl rfl rfl rfl rfl rfl rfl rfl fun hlen w0 hd => ?_
 try simp [cEdge, cGraph, cStep, cChange, cBatch, cAutomaton, cProductStep, cView] at hlen
 try simp only [LenV, LenT, List.length_map] at hlen
 unfold cntChangeS at hk
 refine AW.sr ?_
 refine AWl.ac rfl rfl rfl rfl rfl ?_
 refine AWl.nil ?_
 refine AW.seq ?_
 refine AW.sr ?_
 refine AWl.ac rfl rfl rfl rfl rfl ?_
 refine AWl.nil ?_
 refine AW.block ?_
 refine AW.loop (β := Nat × Int) (fun j => j.1 ≤ l.length ∧ j.2 = k + cntL cntChange (l.take j.1)) (fun j => ⟨_, [(5, (true, .a (.one (.t (.v (.int .i64 (j.1 : Nat))))))), (1, (true, .a (.one (.t (.v (.int .i64 j.2)))))), (0, _), (4, _)], [(1000, .row 5 ((mkL mkChange cntChange (l.take j.1) k).map cChange ++ (l.drop j.1).map cChange)), (500, .hdr (some 1000) (hd 1000))]⟩) (fun j => l.length - j.1) ((0, k)) ⟨Nat.zero_le _, by simp [cntL]⟩ (Le.sub0 rfl ⟨rfl, rfl, rfl, rfl, trivial⟩ ⟨rfl, rfl, trivial⟩) ?_
 intro ⟨i, κ⟩ ⟨hi, hκ⟩
 dsimp only at hi hκ; subst hκ
 refine AW.seq ?_
 refine AW.sr ?_
 refine AWl.mv rfl rfl rfl rfl rfl ?_
 refine AWl.mv rfl rfl rfl rfl rfl ?_
 refine AWl.put (by exact R_len rfl (.no rfl) rfl (.tm rfl) (by exact .rf rfl) Tryz.underlying58) rfl ?_
 refine AWl.put (R_lt rfl (.no rfl) rfl (.tm rfl) (.tm rfl)) rfl ?_
 refine AWl.nil ?_
 refine AW.cond (.tm rfl) (fun hlt => ?_) (fun hlt => ?_)
 ·skip
  try simp at hlt
  replace hlt : i < l.length := by simp only [mkL_length, List.length_take] at hlt; omega
  obtain ⟨x, hx⟩ : ∃ x, l[i]? = some x := ⟨_, List.getElem?_eq_getElem hlt⟩
  have hrow := mark_at (f := mkChange) (c := cntChange) (k := k) cChange hx
  have hcs := cntL_at (c := cntChange) hx
  have hcn := cntL_nonneg cntChange_nn (l.take i)
  have hcl := cntL_le cntChange_nn l (i + 1)
  have hce : cntChange x = 1 + 1 + 1 + 1 + 1 := rfl
  refine AW.skip ?_
  refine AW.seq ?_
  refine AW.block ?_
  refine AW.sr ?_
  refine AWl.mv rfl rfl rfl rfl rfl ?_
  refine AWl.mv rfl rfl rfl rfl rfl ?_
  refine AWl.mv rfl rfl rfl rfl rfl ?_
  refine AWl.put (R_rem rfl (.no rfl) rfl (.tm rfl) (.const rfl) (fun _ => by omega)) rfl ?_
  refine AWl.put (R_eq rfl (.no rfl) rfl (.tm rfl) (.const rfl)) rfl ?_
  refine AWl.put (by exact R_indexAddr_rf rfl (.no rfl) rfl (.tm rfl) rfl (.tm rfl) Tryz.underlying58 ty157 (fun _ => ⟨by omega, (by exact hrow)⟩)) rfl ?_
  refine AWl.put (by exact R_fieldAddr_pr rfl (.no rfl) rfl (.tm rfl) fl157_0) rfl ?_
  refine AWl.absupd (R_store_pr rfl rfl rfl (.tm rfl) rfl (.tm rfl) rfl (by exact hrow) ty4 rfl rfl rfl rfl) ?_
  refine AWl.nil ?_
  refine AW.sr ?_
  refine AWl.mv rfl rfl rfl rfl rfl ?_
  refine AWl.put (R_add rfl (.no rfl) rfl (.tm rfl) (.const rfl) (fun _ => by omega)) rfl ?_
  refine AWl.av rfl rfl rfl rfl rfl ?_
  refine AWl.nil ?_
  refine AW.sr ?_
  refine AWl.mv rfl rfl rfl rfl rfl ?_
  refine AWl.mv rfl rfl rfl rfl rfl ?_
  refine AWl.mv rfl rfl rfl rfl rfl ?_
  refine AWl.put ((by exact R_indexAddr_rf rfl (.no rfl) rfl (.tm rfl) rfl (.tm rfl) Tryz.underlying58 ty157 (fun _ => ⟨by omega, (by exact set_at _ (hrow))⟩))) rfl ?_
  refine AWl.put (by exact R_fieldAddr_pr rfl (.no rfl) rfl (.tm rfl) fl157_1) rfl ?_
  refine AWl.put (by exact R_fieldAddr_pr rfl (.no rfl) rfl (.tm rfl) fl46_0) rfl ?_
  refine AWl.absupd (R_store_pr rfl rfl rfl (.tm rfl) rfl (.tm rfl) rfl (by exact set_at _ (hrow)) ty3 rfl rfl rfl rfl) ?_
  refine AWl.nil ?_
  refine AW.sr ?_
  refine AWl.mv rfl rfl rfl rfl rfl ?_
  refine AWl.put (R_add rfl (.no rfl) rfl (.tm rfl) (.const rfl) (fun _ => by omega)) rfl ?_
  refine AWl.av rfl rfl rfl rfl rfl ?_
  refine AWl.nil ?_
  refine AW.sr ?_
  refine AWl.mv rfl rfl rfl rfl rfl ?_
  refine AWl.mv rfl rfl rfl rfl rfl ?_
  refine AWl.mv rfl rfl rfl rfl rfl ?_
  refine AWl.put ((by exact R_indexAddr_rf rfl (.no rfl) rfl (.tm rfl) rfl (.tm rfl) Tryz.underlying58 ty157 (fun _ => ⟨by omega, (by exact set_at _ (set_at _ (hrow)))⟩))) rfl ?_
  refine AWl.put (by exact R_fieldAddr_pr rfl (.no rfl) rfl (.tm rfl) fl157_1) rfl ?_
  refine AWl.put (by exact R_fieldAddr_pr rfl (.no rfl) rfl (.tm rfl) fl46_1) rfl ?_
  refine AWl.absupd (R_store_pr rfl rfl rfl (.tm rfl) rfl (.tm rfl) rfl (by exact set_at _ (set_at _ (hrow))) ty3 rfl rfl rfl rfl) ?_
  refine AWl.nil ?_
  refine AW.sr ?_
  refine AWl.mv rfl rfl rfl rfl rfl ?_
  refine AWl.put (R_add rfl (.no rfl) rfl (.tm rfl) (.const rfl) (fun _ => by omega)) rfl ?_
  refine AWl.av rfl rfl rfl rfl rfl ?_
  refine AWl.nil ?_
  refine AW.sr ?_
  refine AWl.mv rfl rfl rfl rfl rfl ?_
  refine AWl.mv rfl rfl rfl rfl rfl ?_
  refine AWl.mv rfl rfl rfl rfl rfl ?_
  refine AWl.put ((by exact R_indexAddr_rf rfl (.no rfl) rfl (.tm rfl) rfl (.tm rfl) Tryz.underlying58 ty157 (fun _ => ⟨by omega, (by exact set_at _ (set_at _ (set_at _ (hrow))))⟩))) rfl ?_
  refine AWl.put (by exact R_fieldAddr_pr rfl (.no rfl) rfl (.tm rfl) fl157_1) rfl ?_
  refine AWl.put (by exact R_fieldAddr_pr rfl (.no rfl) rfl (.tm rfl) fl46_2) rfl ?_
  refine AWl.absupd (R_store_pr rfl rfl rfl (.tm rfl) rfl (.tm rfl) rfl (by exact set_at _ (set_at _ (set_at _ (hrow)))) ty3 rfl rfl rfl rfl) ?_
  refine AWl.nil ?_
  refine AW.sr ?_
  refine AWl.mv rfl rfl rfl rfl rfl ?_
  refine AWl.put (R_add rfl (.no rfl) rfl (.tm rfl) (.const rfl) (fun _ => by omega)) rfl ?_
  refine AWl.av rfl rfl rfl rfl rfl ?_
  refine AWl.nil ?_
  refine AW.sr ?_
  refine AWl.mv rfl rfl rfl rfl rfl ?_
  refine AWl.mv rfl rfl rfl rfl rfl ?_
  refine AWl.mv rfl rfl rfl rfl rfl ?_
  refine AWl.put ((by exact R_indexAddr_rf rfl (.no rfl) rfl (.tm rfl) rfl (.tm rfl) Tryz.underlying58 ty157 (fun _ => ⟨by omega, (by exact set_at _ (set_at _ (set_at _ (set_at _ (hrow)))))⟩))) rfl ?_
  refine AWl.put (by exact R_fieldAddr_pr rfl (.no rfl) rfl (.tm rfl) fl157_1) rfl ?_
  refine AWl.put (by exact R_fieldAddr_pr rfl (.no rfl) rfl (.tm rfl) fl46_3) rfl ?_
  refine AWl.absupd (R_store_pr rfl rfl rfl (.tm rfl) rfl (.tm rfl) rfl (by exact set_at _ (set_at _ (set_at _ (set_at _ (hrow))))) ty3 rfl rfl rfl rfl) ?_
  refine AWl.nil ?_
  refine AW.region ?_
  refine AWl.mv rfl rfl rfl rfl rfl ?_
  refine AWl.put (R_add rfl (.no rfl) rfl (.tm rfl) (.const rfl) (fun _ => by omega)) rfl ?_
  refine AWl.av rfl rfl rfl rfl rfl ?_
  refine AWl.nil ?_
  refine AW.region ?_
  refine AWl.mv rfl rfl rfl rfl rfl ?_
  refine AWl.put (R_add rfl (.no rfl) rfl (.tm rfl) (.const rfl) (fun _ => by omega)) rfl ?_
  refine AWl.av rfl rfl rfl rfl rfl ?_
  refine AWl.nil ?_
  refine Round.next (i + 1, _) ⟨by dsimp only; omega, by dsimp only; omega⟩ (by dsimp only; omega) (Le.sub0 rfl ⟨rfl, rfl, rfl, rfl, trivial⟩ ⟨congrArg (fun r => some (R.row 5 r)) (by simp only [List.set_set]; exact mark_set _ hx rfl), rfl, trivial⟩)
 ·skip
  try simp at hlt
  replace hlt : l.length ≤ i := by simp only [mkL_length, List.length_take] at hlt; omega
  refine AW.exit ?_
  refine AW.sr ?_
  refine AWl.mv rfl rfl rfl rfl rfl ?_
  refine AWl.av rfl rfl rfl rfl rfl ?_
  refine AWl.nil ?_
  refine AW.ret ?_
  refine RetM.mk (Res.v rfl rfl ?_) (.rf (congrArg (fun r => some (R.row 5 r)) (mark_all _ (by omega))) rfl rfl .nil)
  rw [cntL_all (by omega)]; rfl
set_option maxRecDepth 100000 in
theorem MmarkBatch (x : TBatch) (k : Int) (hk : 0 ≤ k ∧ k + cpBatch x ≤ 4611686018427387904) : FnM Tryz.prog 24 (.agg (cBatch x)) (.int .i64 k) (.agg (cBatch (mpBatch x k))) (.int .i64 (k + cpBatch x)) := by
 refine FnM.walk (y := .agg [.rf 1000]) (R0 := fun hd => [(1000, .row 5 (x.Changes.map cChange)), (500, .hdr (some 1000) (hd 1000))]) (ts := cBatch (mpBatch x k)) Tryz.func24 rfl (by kernel_rfl) Tryz.ntmps24 rfl rfl rfl rfl rfl rfl rfl rfl fun hlen w0 hd => ?_
 try simp [cEdge, cGraph, cStep, cChange, cBatch, cAutomaton, cProductStep, cView] at hlen
 have := cntChangeS_nn x.Changes
 have hce : cpBatch x = cntChangeS x.Changes := rfl
 refine AW.sr ?_
 refine AWl.add (R_box 2 rfl rfl rfl (.tm rfl) rfl rfl rfl) rfl ?_
 refine AWl.ac rfl rfl rfl rfl rfl ?_
 refine AWl.nil ?_
 refine AW.sr ?_
 refine AWl.put (by exact R_fieldAddr_pp rfl (.no rfl) rfl (.tm rfl) fl60_0) rfl ?_
 refine AWl.put (by exact R_load_pp rfl (.no rfl) rfl (.tm rfl) rfl ty58 rfl rfl) rfl ?_
 refine AWl.mv rfl rfl rfl rfl rfl ?_
 refine AWl.marks (R_markc rfl rfl rfl (.tm rfl) (.tm rfl) (MmarkChangeS _ _ (by omega)) (.rf rfl rfl .nil) rfl rfl) rfl ?_
 refine AWl.av rfl rfl rfl rfl rfl ?_
 refine AWl.nil ?_
 refine AW.sr ?_
 refine AWl.mv rfl rfl rfl rfl rfl ?_
 refine AWl.av rfl rfl rfl rfl rfl ?_
 refine AWl.nil ?_
 refine AW.ret ?_
 refine RetM.mk (Res.v rfl rfl ?_) (.rf rfl rfl rfl .nil)
 first | rfl | (congr 1; omega)
set_option maxRecDepth 100000 in
theorem MmarkAutomaton (x : TAutomaton) (k : Int) (hk : 0 ≤ k ∧ k + cpAutomaton x ≤ 4611686018427387904) : FnM Tryz.prog 58 (.agg (cAutomaton x)) (.int .i64 k) (.agg (cAutomaton (mpAutomaton x k))) (.int .i64 (k + cpAutomaton x)) := by
 refine FnM.walk (y := .agg [.t (.v (.int .i64 x.Start)), .rf 1000, .rf 1001]) (R0 := fun hd => [(1001, .row 1 (x.Next.map cIntS)), (1000, .row 1 (x.Accept.map cBool)), (500, .hdr (some 1000) (hd 1000)), (501, .hdr (some 1001) (hd 1001))]) (ts := cAutomaton (mpAutomaton x k)) Tryz.func58 rfl (by kernel_rfl) Tryz.ntmps58 rfl rfl rfl rfl rfl rfl rfl rfl fun hlen w0 hd => ?_
 try simp [cEdge, cGraph, cStep, cChange, cBatch, cAutomaton, cProductStep, cView] at hlen
 have := cntBoolS_nn x.Accept
 have := cntIntSS_nn x.Next
 have hce : cpAutomaton x = 0 + cntBoolS x.Accept + cntIntSS x.Next := rfl
 refine AW.sr ?_
 refine AWl.add (R_box 2 rfl rfl rfl (.tm rfl) rfl rfl rfl) rfl ?_
 refine AWl.ac rfl rfl rfl rfl rfl ?_
 refine AWl.nil ?_
 refine AW.sr ?_
 refine AWl.put (by exact R_fieldAddr_pp rfl (.no rfl) rfl (.tm rfl) fl36_1) rfl ?_
 refine AWl.put (by exact R_load_pp rfl (.no rfl) rfl (.tm rfl) rfl ty26 rfl rfl) rfl ?_
 refine AWl.mv rfl rfl rfl rfl rfl ?_
 refine AWl.marks (R_markc rfl rfl rfl (.tm rfl) (.tm rfl) (MmarkBoolS _ _ (by omega)) (.rf rfl rfl .nil) rfl rfl) rfl ?_
 refine AWl.av rfl rfl rfl rfl rfl ?_
 refine AWl.nil ?_
 refine AW.sr ?_
 refine AWl.put (by exact R_fieldAddr_pp rfl (.no rfl) rfl (.tm rfl) fl36_2) rfl ?_
 refine AWl.put (by exact R_load_pp rfl (.no rfl) rfl (.tm rfl) rfl ty27 rfl rfl) rfl ?_
 refine AWl.mv rfl rfl rfl rfl rfl ?_
 refine AWl.marks (R_markc rfl rfl rfl (.tm rfl) (.tm rfl) (MmarkIntSS _ _ (by omega)) (.rf rfl rfl .nil) rfl rfl) rfl ?_
 refine AWl.av rfl rfl rfl rfl rfl ?_
 refine AWl.nil ?_
 refine AW.sr ?_
 refine AWl.mv rfl rfl rfl rfl rfl ?_
 refine AWl.av rfl rfl rfl rfl rfl ?_
 refine AWl.nil ?_
 refine AW.ret ?_
 refine RetM.mk (Res.v rfl rfl ?_) (.v (.rf rfl rfl rfl (.rf rfl rfl rfl .nil)))
 first | rfl | (congr 1; omega)
set_option maxRecDepth 100000 in
theorem MheldAutomaton (x : TAutomaton) (k : Int) (hk : 0 ≤ k ∧ k + cpAutomaton x ≤ 4611686018427387904) : FnT Tryz.prog 59 [.agg (cAutomaton (mpAutomaton x k)), .one (.v (.int .i64 k))] (.a (.one (.v (.int .i64 (k + cpAutomaton x))))) := by
 refine FnT.walk Tryz.func59 rfl (by kernel_rfl) Tryz.ntmps59 rfl fun hlen w0 => ?_
 try simp [cEdge, cGraph, cStep, cChange, cBatch, cAutomaton, cProductStep, cView] at hlen
 have := cntBoolS_nn x.Accept
 have := cntIntSS_nn x.Next
 have hce : cpAutomaton x = 0 + cntBoolS x.Accept + cntIntSS x.Next := rfl
 refine AW.sr ?_
 refine AWl.put (R_boxz rfl rfl rfl (.tm rfl) (ts := _) (by rfl)) rfl ?_
 refine AWl.ac rfl rfl rfl rfl rfl ?_
 refine AWl.nil ?_
 refine AW.sr ?_
 refine AWl.put (by exact R_fieldAddr rfl (.no rfl) rfl (.tm rfl) fl36_1) rfl ?_
 refine AWl.put (by exact R_load rfl (.no rfl) rfl (.tm rfl) ty26 rfl rfl) rfl ?_
 refine AWl.mv rfl rfl rfl rfl rfl ?_
 refine AWl.put (R_callz (FnT.fr (MheldBoolS _ _ (by omega))) rfl (.no rfl) rfl (.cons (.tm rfl) rfl (.cons (.tm rfl) rfl .nil))) rfl ?_
 refine AWl.av rfl rfl rfl rfl rfl ?_
 refine AWl.nil ?_
 refine AW.seq ?_
 refine AW.sr ?_
 refine AWl.mv rfl rfl rfl rfl rfl ?_
 refine AWl.put (R_lt rfl (.no rfl) rfl (.tm rfl) (.const rfl)) rfl ?_
 refine AWl.nil ?_
 refine AW.cond (.tm rfl) (fun h10 => ?_) (fun h10 => ?_)
 ·(exfalso; simp at h10; omega)
 ·skip
  try simp at h10
  refine AW.skip ?_
  refine AW.sr ?_
  refine AWl.put (by exact R_fieldAddr rfl (.no rfl) rfl (.tm rfl) fl36_2) rfl ?_
  refine AWl.put (by exact R_load rfl (.no rfl) rfl (.tm rfl) ty27 rfl rfl) rfl ?_
  refine AWl.mv rfl rfl rfl rfl rfl ?_
  refine AWl.put (R_callz (FnT.fr (MheldIntSS _ _ (by omega))) rfl (.no rfl) rfl (.cons (.tm rfl) rfl (.cons (.tm rfl) rfl .nil))) rfl ?_
  refine AWl.av rfl rfl rfl rfl rfl ?_
  refine AWl.nil ?_
  refine AW.seq ?_
  refine AW.sr ?_
  refine AWl.mv rfl rfl rfl rfl rfl ?_
  refine AWl.put (R_lt rfl (.no rfl) rfl (.tm rfl) (.const rfl)) rfl ?_
  refine AWl.nil ?_
  refine AW.cond (.tm rfl) (fun h16 => ?_) (fun h16 => ?_)
  ·(exfalso; simp at h16; omega)
  ·skip
   try simp at h16
   refine AW.skip ?_
   refine AW.sr ?_
   refine AWl.mv rfl rfl rfl rfl rfl ?_
   refine AWl.av rfl rfl rfl rfl rfl ?_
   refine AWl.nil ?_
   refine AW.ret ?_
   refine Res.v rfl rfl ?_
   first | rfl | (congr 1; omega)
set_option maxRecDepth 100000 in
theorem MmarkView (x : TView) (k : Int) (hk : 0 ≤ k ∧ k + cpView x ≤ 4611686018427387904) : FnM Tryz.prog 17 (.agg (cView x)) (.int .i64 k) (.agg (cView (mpView x k))) (.int .i64 (k + cpView x)) := by
 refine FnM.walk (y := .agg [.t (.v (.int .i64 x.Automaton.Start)), .rf 1000, .rf 1001, .t (.v (.int .i64 x.Source)), .rf 1002, .rf 1003]) (R0 := fun hd => [(1003, .row 1 (x.Supports.map cInt)), (1002, .row 1 (x.Ranks.map cInt)), (1001, .row 1 (x.Automaton.Next.map cIntS)), (1000, .row 1 (x.Automaton.Accept.map cBool)), (500, .hdr (some 1000) (hd 1000)), (501, .hdr (some 1001) (hd 1001)), (502, .hdr (some 1002) (hd 1002)), (503, .hdr (some 1003) (hd 1003))]) (ts := cView (mpView x k)) Tryz.func17 rfl (by kernel_rfl) Tryz.ntmps17 rfl rfl rfl rfl rfl rfl rfl rfl fun hlen w0 hd => ?_
 try simp [cEdge, cGraph, cStep, cChange, cBatch, cAutomaton, cProductStep, cView] at hlen
 have := cntBoolS_nn x.Automaton.Accept
 have := cntIntSS_nn x.Automaton.Next
 have := cntIntS_nn x.Ranks
 have := cntIntS_nn x.Supports
 have hce : cpView x = cpAutomaton x.Automaton + 0 + cntIntS x.Ranks + cntIntS x.Supports := rfl
 have := cpAutomaton_nn x.Automaton
 refine AW.sr ?_
 refine AWl.add (R_box 2 rfl rfl rfl (.tm rfl) rfl rfl rfl) rfl ?_
 refine AWl.ac rfl rfl rfl rfl rfl ?_
 refine AWl.nil ?_
 refine AW.sr ?_
 refine AWl.put (by exact R_fieldAddr_pp rfl (.no rfl) rfl (.tm rfl) fl38_0) rfl ?_
 refine AWl.put (by exact R_load_pp rfl (.no rfl) rfl (.tm rfl) rfl ty36 rfl rfl) rfl ?_
 refine AWl.mv rfl rfl rfl rfl rfl ?_
 refine AWl.marks (R_markc rfl rfl rfl (.tm rfl) (.tm rfl) (MmarkAutomaton _ _ (by omega)) (.v (.rf rfl rfl (.rf rfl rfl .nil))) rfl rfl) rfl ?_
 refine AWl.av rfl rfl rfl rfl rfl ?_
 refine AWl.nil ?_
 refine AW.sr ?_
 refine AWl.put (by exact R_fieldAddr_pp rfl (.no rfl) rfl (.tm rfl) fl38_2) rfl ?_
 refine AWl.put (by exact R_load_pp rfl (.no rfl) rfl (.tm rfl) rfl ty22 rfl rfl) rfl ?_
 refine AWl.mv rfl rfl rfl rfl rfl ?_
 refine AWl.marks (R_markc rfl rfl rfl (.tm rfl) (.tm rfl) (MmarkIntS _ _ (by omega)) (.rf rfl rfl .nil) rfl rfl) rfl ?_
 refine AWl.av rfl rfl rfl rfl rfl ?_
 refine AWl.nil ?_
 refine AW.sr ?_
 refine AWl.put (by exact R_fieldAddr_pp rfl (.no rfl) rfl (.tm rfl) fl38_3) rfl ?_
 refine AWl.put (by exact R_load_pp rfl (.no rfl) rfl (.tm rfl) rfl ty22 rfl rfl) rfl ?_
 refine AWl.mv rfl rfl rfl rfl rfl ?_
 refine AWl.marks (R_markc rfl rfl rfl (.tm rfl) (.tm rfl) (MmarkIntS _ _ (by omega)) (.rf rfl rfl .nil) rfl rfl) rfl ?_
 refine AWl.av rfl rfl rfl rfl rfl ?_
 refine AWl.nil ?_
 refine AW.sr ?_
 refine AWl.mv rfl rfl rfl rfl rfl ?_
 refine AWl.av rfl rfl rfl rfl rfl ?_
 refine AWl.nil ?_
 refine AW.ret ?_
 refine RetM.mk (Res.v rfl rfl ?_) (.v (.rf rfl rfl rfl (.rf rfl rfl rfl (.v (.rf rfl rfl rfl (.rf rfl rfl rfl .nil))))))
 first | rfl | (congr 1; omega)
set_option maxRecDepth 100000 in
theorem MheldView (x : TView) (k : Int) (hk : 0 ≤ k ∧ k + cpView x ≤ 4611686018427387904) : FnT Tryz.prog 18 [.agg (cView (mpView x k)), .one (.v (.int .i64 k))] (.a (.one (.v (.int .i64 (k + cpView x))))) := by
 refine FnT.walk Tryz.func18 rfl (by kernel_rfl) Tryz.ntmps18 rfl fun hlen w0 => ?_
 try simp [cEdge, cGraph, cStep, cChange, cBatch, cAutomaton, cProductStep, cView] at hlen
 have := cntBoolS_nn x.Automaton.Accept
 have := cntIntSS_nn x.Automaton.Next
 have := cntIntS_nn x.Ranks
 have := cntIntS_nn x.Supports
 have hce : cpView x = cpAutomaton x.Automaton + 0 + cntIntS x.Ranks + cntIntS x.Supports := rfl
 have := cpAutomaton_nn x.Automaton
 refine AW.sr ?_
 refine AWl.put (R_boxz rfl rfl rfl (.tm rfl) (ts := _) (by rfl)) rfl ?_
 refine AWl.ac rfl rfl rfl rfl rfl ?_
 refine AWl.nil ?_
 refine AW.sr ?_
 refine AWl.put (by exact R_fieldAddr rfl (.no rfl) rfl (.tm rfl) fl38_0) rfl ?_
 refine AWl.put (by exact R_load rfl (.no rfl) rfl (.tm rfl) ty36 rfl rfl) rfl ?_
 refine AWl.mv rfl rfl rfl rfl rfl ?_
 refine AWl.put (R_callz (FnT.fr (MheldAutomaton _ _ (by omega))) rfl (.no rfl) rfl (.cons (.tm rfl) rfl (.cons (.tm rfl) rfl .nil))) rfl ?_
 refine AWl.av rfl rfl rfl rfl rfl ?_
 refine AWl.nil ?_
 refine AW.seq ?_
 refine AW.sr ?_
 refine AWl.mv rfl rfl rfl rfl rfl ?_
 refine AWl.put (R_lt rfl (.no rfl) rfl (.tm rfl) (.const rfl)) rfl ?_
 refine AWl.nil ?_
 refine AW.cond (.tm rfl) (fun h10 => ?_) (fun h10 => ?_)
 ·(exfalso; simp at h10; omega)
 ·skip
  try simp at h10
  refine AW.skip ?_
  refine AW.sr ?_
  refine AWl.put (by exact R_fieldAddr rfl (.no rfl) rfl (.tm rfl) fl38_2) rfl ?_
  refine AWl.put (by exact R_load rfl (.no rfl) rfl (.tm rfl) ty22 rfl rfl) rfl ?_
  refine AWl.mv rfl rfl rfl rfl rfl ?_
  refine AWl.put (R_callz (FnT.fr (MheldIntS _ _ (by omega))) rfl (.no rfl) rfl (.cons (.tm rfl) rfl (.cons (.tm rfl) rfl .nil))) rfl ?_
  refine AWl.av rfl rfl rfl rfl rfl ?_
  refine AWl.nil ?_
  refine AW.seq ?_
  refine AW.sr ?_
  refine AWl.mv rfl rfl rfl rfl rfl ?_
  refine AWl.put (R_lt rfl (.no rfl) rfl (.tm rfl) (.const rfl)) rfl ?_
  refine AWl.nil ?_
  refine AW.cond (.tm rfl) (fun h16 => ?_) (fun h16 => ?_)
  ·(exfalso; simp at h16; omega)
  ·skip
   try simp at h16
   refine AW.skip ?_
   refine AW.sr ?_
   refine AWl.put (by exact R_fieldAddr rfl (.no rfl) rfl (.tm rfl) fl38_3) rfl ?_
   refine AWl.put (by exact R_load rfl (.no rfl) rfl (.tm rfl) ty22 rfl rfl) rfl ?_
   refine AWl.mv rfl rfl rfl rfl rfl ?_
   refine AWl.put (R_callz (FnT.fr (MheldIntS _ _ (by omega))) rfl (.no rfl) rfl (.cons (.tm rfl) rfl (.cons (.tm rfl) rfl .nil))) rfl ?_
   refine AWl.av rfl rfl rfl rfl rfl ?_
   refine AWl.nil ?_
   refine AW.seq ?_
   refine AW.sr ?_
   refine AWl.mv rfl rfl rfl rfl rfl ?_
   refine AWl.put (R_lt rfl (.no rfl) rfl (.tm rfl) (.const rfl)) rfl ?_
   refine AWl.nil ?_
   refine AW.cond (.tm rfl) (fun h22 => ?_) (fun h22 => ?_)
   ·(exfalso; simp at h22; omega)
   ·skip
    try simp at h22
    refine AW.skip ?_
    refine AW.sr ?_
    refine AWl.mv rfl rfl rfl rfl rfl ?_
    refine AWl.av rfl rfl rfl rfl rfl ?_
    refine AWl.nil ?_
    refine AW.ret ?_
    refine Res.v rfl rfl ?_
    first | rfl | (congr 1; omega)
end Go.Proofs.YtoealglkenhphaaGreat
