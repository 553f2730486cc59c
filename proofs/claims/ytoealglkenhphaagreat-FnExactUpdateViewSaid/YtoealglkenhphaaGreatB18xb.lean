import Derived.Test.YtoealglkenhphaaGreatB17xb
set_option linter.unusedVariables false
set_option linter.unusedSimpArgs false
set_option maxHeartbeats 1000000
set_option maxRecDepth 100000
namespace Go.Q
open Go.D
def toOf (e : TEdge) (b : Bool) : Int := if b then e.From else e.To
theorem aftF_snoc (a : TAutomaton) (k : Int) (l : List Nat) (t m : Nat) : aftF a k (l ++ [t]) m = if 0 ≤ nextOf a t k then aftF a k l m ||| 2 ^ (nextOf a t k).toNat else aftF a k l m := by
 unfold aftF
 rw [List.foldl_append]; rfl
theorem aft1_eq {a : TAutomaton} (ha : validA a = true) {s v k : Int} (hv : 0 ≤ v ∧ v ≤ 2) (hst : s < a.Accept.length) : aft1 a s v k = aftF a k ((List.range a.Accept.length).filter (closure a s v).testBit) 0 := by
 unfold aft1
 rw [bits_eq (closure_lt ha hv hst) (by have := validA_len ha; omega)]
theorem vertS_eq {a : TAutomaton} (ha : validA a = true) {s v : Int} (hv : 0 ≤ v ∧ v ≤ 2) (hst : s < a.Accept.length) {y : TArc} (hy : 0 ≤ y.letter ∧ y.letter < 9) : vertS a s v y = ((List.range a.Accept.length).filter (aft1 a s v y.letter).testBit).map fun (t : Nat) => ⟨y.step, y.to, t⟩ := by
 unfold vertS
 rw [bits_eq (aft1_lt ha hv hst hy) (by have := validA_len ha; omega)]
theorem vertS_len (a : TAutomaton) (s v : Int) (y : TArc) : (vertS a s v y).length ≤ 64 := by
 unfold vertS
 rw [List.length_map]
 exact bits_len _
end Go.Q
namespace Go.Proofs.YtoealglkenhphaaGreat
open Go.RowKit Go.Q Go.D
theorem specl4From (g : TGraph) (x : Int) (hg : g.Edges.length ≤ 1048576) : FnT Tryz.prog 155 [.agg (cGraph g), .one (.v (.int .i64 x))] (.a (.one (.sl 2 (((arcsAt g x).map (·.step)).map cStep)))) := by
 refine FnT.walk Tryz.func155 rfl (by kernel_rfl) Tryz.ntmps155 rfl fun hlen w0 => ?_
 try simp [cEdge, cGraph, cStep, cChange, cBatch, cAutomaton, cProductStep, cView] at hlen
 refine AW.sr ?_
 refine AWl.put (R_boxz rfl rfl rfl (.tm rfl) (ts := _) (by rfl)) rfl ?_
 refine AWl.ac rfl rfl rfl rfl rfl ?_
 refine AWl.nilS (i := 4) 20001 2 rfl rfl ?_
 refine AWl.nil ?_
 refine AW.sr ?_
 refine AWl.add (R_empty 7 rfl rfl rfl Tryz.underlying197 ty147 rfl) rfl ?_
 refine AWl.av rfl rfl rfl rfl rfl ?_
 refine AWl.nil ?_
 refine AW.seq ?_
 refine AW.sr ?_
 refine AWl.ac rfl rfl rfl rfl rfl ?_
 refine AWl.nil ?_
 refine AW.block ?_
 refine AW.loop1 (fun (k : Nat) => (k ≤ g.Edges.length) ∧ True) (fun (k : Nat) => ⟨_, [(6, (true, .a (.one (.t (.v (.int .i64 (k : Nat))))))), (5, (true, .a (.one (.rf 7)))), (1, _), (2, _), (4, _)], [(7, .row 2 (((arcsL (g.Edges.take k) x).map (·.step)).map cStep))]⟩) (fun (k : Nat) => g.Edges.length - k) (0) ⟨Nat.zero_le _, trivial⟩ (Le.sub0 rfl ⟨rfl, rfl, rfl, rfl, rfl, trivial⟩ ⟨rfl, trivial⟩) ?_
 rintro k ⟨hk, he⟩
 refine AW.seq ?_
 refine AW.sr ?_
 refine AWl.mv rfl rfl rfl rfl rfl ?_
 refine AWl.put (by exact R_fieldAddr rfl (.no rfl) rfl (.tm rfl) fl43_1) rfl ?_
 refine AWl.put (by exact R_load rfl (.no rfl) rfl (.tm rfl) ty41 rfl rfl) rfl ?_
 refine AWl.put (by exact R_lenm rfl (.no rfl) rfl (.tm rfl) (by exact .t) Tryz.underlying41) rfl ?_
 refine AWl.put (R_lt rfl (.no rfl) rfl (.tm rfl) (.tm rfl)) rfl ?_
 refine AWl.nil ?_
 refine AW.cond (.tm rfl) (fun h12 => ?_) (fun h12 => ?_)
 ·skip
  try simp at h12
  obtain ⟨e, he1⟩ : ∃ ξ, g.Edges[k]? = some ξ := ⟨_, List.getElem?_eq_getElem (by omega)⟩
  have hL : (arcsL (g.Edges.take k) x).length ≤ 2097152 := Nat.le_trans (arcsL_len _ x) (by simp; omega)
  refine AW.skip ?_
  refine AW.seq ?_
  refine AW.block ?_
  refine AW.seq ?_
  refine AW.sr ?_
  refine AWl.put (by exact R_fieldAddr rfl (.no rfl) rfl (.tm rfl) fl43_1) rfl ?_
  refine AWl.put (by exact R_load rfl (.no rfl) rfl (.tm rfl) ty41 rfl rfl) rfl ?_
  refine AWl.mv rfl rfl rfl rfl rfl ?_
  refine AWl.put (by exact R_indexAddr rfl (.no rfl) rfl (.tm rfl) (.tm rfl) Tryz.underlying41 ty46 (fun _ => ⟨by omega, map_get he1⟩)) rfl ?_
  refine AWl.put (by exact R_fieldAddr rfl (.no rfl) rfl (.tm rfl) fl46_1) rfl ?_
  refine AWl.put (by exact R_load rfl (.no rfl) rfl (.tm rfl) ty3 rfl rfl) rfl ?_
  refine AWl.mv rfl rfl rfl rfl rfl ?_
  refine AWl.put (R_eq rfl (.no rfl) rfl (.tm rfl) (.tm rfl)) rfl ?_
  refine AWl.nil ?_
  refine AW.cond (.tm rfl) (fun h22 => ?_) (fun h22 => ?_)
  ·skip
   try simp at h22
   refine AW.le (σ' := ⟨_, [(1, _), (2, _), (4, _), (5, _), (6, _)], [(7, _)]⟩) (Le.sub0 rfl ⟨rfl, rfl, rfl, rfl, rfl, trivial⟩ ⟨rfl, trivial⟩) ?_
   refine AW.region ?_
   refine AWl.mv rfl rfl rfl rfl rfl ?_
   refine AWl.put (by exact R_fieldAddr rfl (.no rfl) rfl (.tm rfl) fl43_1) rfl ?_
   refine AWl.put (by exact R_load rfl (.no rfl) rfl (.tm rfl) ty41 rfl rfl) rfl ?_
   refine AWl.mv rfl rfl rfl rfl rfl ?_
   refine AWl.put (by exact R_indexAddr rfl (.no rfl) rfl (.tm rfl) (.tm rfl) Tryz.underlying41 ty46 (fun _ => ⟨by omega, map_get he1⟩)) rfl ?_
   refine AWl.put (by exact R_fieldAddr rfl (.no rfl) rfl (.tm rfl) fl46_0) rfl ?_
   refine AWl.put (by exact R_load rfl (.no rfl) rfl (.tm rfl) ty3 rfl rfl) rfl ?_
   refine AWl.put (R_build (ps := [(0, .tmp 29)]) rfl rfl rfl in147 rfl rfl st147 (.cons (.tm rfl) rfl rfl fp147_0 .nil) rfl) rfl ?_
   refine AWl.absadd (R_list (xs := [.tmp 30]) 31 rfl rfl rfl (.cons (.tm rfl) rfl rfl .nil) Tryz.underlying197 in147 rfl rfl rfl rfl) rfl ?_
   refine AWl.chgput (R_append rfl rfl rfl (.tm rfl) rfl (.tm rfl) (by exact .rf rfl) (by rfl) Tryz.underlying197 in147 rfl (by (simp [chunk]; omega)) (by (unfold maxLen; simp [chunk]; omega))) rfl ?_
   refine AWl.le (σ' := ⟨_, [(1, _), (2, _), (4, _), (5, _), (6, _), (32, _)], [(7, _), (31, _)]⟩) (Le.sub0 rfl ⟨rfl, rfl, rfl, rfl, rfl, rfl, trivial⟩ ⟨rfl, rfl, trivial⟩) ?_
   refine AWl.av rfl rfl rfl rfl rfl ?_
   refine AWl.nil ?_
   refine AW.sr ?_
   refine AWl.put (by exact R_fieldAddr rfl (.no rfl) rfl (.tm rfl) fl43_1) rfl ?_
   refine AWl.put (by exact R_load rfl (.no rfl) rfl (.tm rfl) ty41 rfl rfl) rfl ?_
   refine AWl.mv rfl rfl rfl rfl rfl ?_
   refine AWl.put (by exact R_indexAddr rfl (.no rfl) rfl (.tm rfl) (.tm rfl) Tryz.underlying41 ty46 (fun _ => ⟨by omega, map_get he1⟩)) rfl ?_
   refine AWl.put (by exact R_fieldAddr rfl (.no rfl) rfl (.tm rfl) fl46_2) rfl ?_
   refine AWl.put (by exact R_load rfl (.no rfl) rfl (.tm rfl) ty3 rfl rfl) rfl ?_
   refine AWl.mv rfl rfl rfl rfl rfl ?_
   refine AWl.put (R_eq rfl (.no rfl) rfl (.tm rfl) (.tm rfl)) rfl ?_
   refine AWl.nil ?_
   refine AW.cond (.tm rfl) (fun h40 => ?_) (fun h40 => ?_)
   ·skip
    try simp at h40
    refine AW.le (σ' := ⟨_, [(1, _), (2, _), (4, _), (5, _), (6, _)], [(7, _), (31, _)]⟩) (Le.sub0 rfl ⟨rfl, rfl, rfl, rfl, rfl, trivial⟩ ⟨rfl, rfl, trivial⟩) ?_
    refine AW.region ?_
    refine AWl.mv rfl rfl rfl rfl rfl ?_
    refine AWl.put (by exact R_fieldAddr rfl (.no rfl) rfl (.tm rfl) fl43_1) rfl ?_
    refine AWl.put (by exact R_load rfl (.no rfl) rfl (.tm rfl) ty41 rfl rfl) rfl ?_
    refine AWl.mv rfl rfl rfl rfl rfl ?_
    refine AWl.put (by exact R_indexAddr rfl (.no rfl) rfl (.tm rfl) (.tm rfl) Tryz.underlying41 ty46 (fun _ => ⟨by omega, map_get he1⟩)) rfl ?_
    refine AWl.put (by exact R_fieldAddr rfl (.no rfl) rfl (.tm rfl) fl46_0) rfl ?_
    refine AWl.put (by exact R_load rfl (.no rfl) rfl (.tm rfl) ty3 rfl rfl) rfl ?_
    refine AWl.put (R_build (ps := [(0, .tmp 47), (1, .const (.bool true))]) rfl rfl rfl in147 rfl rfl st147 (.cons (.tm rfl) rfl rfl fp147_0 (.cons (.const rfl) rfl rfl fp147_1 .nil)) rfl) rfl ?_
    refine AWl.absadd (R_list (xs := [.tmp 48]) 49 rfl rfl rfl (.cons (.tm rfl) rfl rfl .nil) Tryz.underlying197 in147 rfl rfl rfl rfl) rfl ?_
    refine AWl.chgput (R_append rfl rfl rfl (.tm rfl) rfl (.tm rfl) (by exact .rf rfl) (by rfl) Tryz.underlying197 in147 rfl (by (simp [chunk]; omega)) (by (unfold maxLen; simp [chunk]; omega))) rfl ?_
    refine AWl.le (σ' := ⟨_, [(1, _), (2, _), (4, _), (5, _), (6, _), (50, _)], [(7, _), (31, _), (49, _)]⟩) (Le.sub0 rfl ⟨rfl, rfl, rfl, rfl, rfl, rfl, trivial⟩ ⟨rfl, rfl, rfl, trivial⟩) ?_
    refine AWl.av rfl rfl rfl rfl rfl ?_
    refine AWl.nil ?_
    refine AW.region ?_
    refine AWl.mv rfl rfl rfl rfl rfl ?_
    refine AWl.put (R_add rfl (.no rfl) rfl (.tm rfl) (.const rfl) (fun _ => by omega)) rfl ?_
    refine AWl.av rfl rfl rfl rfl rfl ?_
    refine AWl.nil ?_
    repeat (with_reducible refine BlockQ.nor ?_)
    refine Round1.next (k + 1) ⟨by omega, trivial⟩ (by omega) (Le.sub0 rfl ⟨rfl, rfl, rfl, rfl, rfl, trivial⟩ ⟨(by refine congrArg (fun r => some (R.row 2 r)) ?_; rw [arcsL_at he1]; simp [arcsOf, h22, h40, chunk, cStep]), trivial⟩)
   ·skip
    try simp at h40
    refine AW.skip ?_
    refine AW.le (σ' := ⟨_, [(1, _), (2, _), (4, _), (5, _), (6, _)], [(7, _), (31, _)]⟩) (Le.sub0 rfl ⟨rfl, rfl, rfl, rfl, rfl, trivial⟩ ⟨rfl, rfl, trivial⟩) ?_
    refine AW.region ?_
    refine AWl.mv rfl rfl rfl rfl rfl ?_
    refine AWl.put (R_add rfl (.no rfl) rfl (.tm rfl) (.const rfl) (fun _ => by omega)) rfl ?_
    refine AWl.av rfl rfl rfl rfl rfl ?_
    refine AWl.nil ?_
    repeat (with_reducible refine BlockQ.nor ?_)
    refine Round1.next (k + 1) ⟨by omega, trivial⟩ (by omega) (Le.sub0 rfl ⟨rfl, rfl, rfl, rfl, rfl, trivial⟩ ⟨(by refine congrArg (fun r => some (R.row 2 r)) ?_; rw [arcsL_at he1]; simp [arcsOf, h22, h40, chunk, cStep]), trivial⟩)
  ·skip
   try simp at h22
   refine AW.skip ?_
   refine AW.seq ?_
   refine AW.le (σ' := ⟨_, [(1, _), (2, _), (4, _), (5, _), (6, _)], [(7, _)]⟩) (Le.sub0 rfl ⟨rfl, rfl, rfl, rfl, rfl, trivial⟩ ⟨rfl, trivial⟩) ?_
   refine AW.region ?_
   refine AWl.put (by exact R_fieldAddr rfl (.no rfl) rfl (.tm rfl) fl43_1) rfl ?_
   refine AWl.put (by exact R_load rfl (.no rfl) rfl (.tm rfl) ty41 rfl rfl) rfl ?_
   refine AWl.mv rfl rfl rfl rfl rfl ?_
   refine AWl.put (by exact R_indexAddr rfl (.no rfl) rfl (.tm rfl) (.tm rfl) Tryz.underlying41 ty46 (fun _ => ⟨by omega, map_get he1⟩)) rfl ?_
   refine AWl.put (by exact R_fieldAddr rfl (.no rfl) rfl (.tm rfl) fl46_2) rfl ?_
   refine AWl.put (by exact R_load rfl (.no rfl) rfl (.tm rfl) ty3 rfl rfl) rfl ?_
   refine AWl.mv rfl rfl rfl rfl rfl ?_
   refine AWl.put (R_eq rfl (.no rfl) rfl (.tm rfl) (.tm rfl)) rfl ?_
   refine AWl.nil ?_
   refine AW.cond (.tm rfl) (fun h40 => ?_) (fun h40 => ?_)
   ·skip
    try simp at h40
    refine AW.le (σ' := ⟨_, [(1, _), (2, _), (4, _), (5, _), (6, _)], [(7, _)]⟩) (Le.sub0 rfl ⟨rfl, rfl, rfl, rfl, rfl, trivial⟩ ⟨rfl, trivial⟩) ?_
    refine AW.region ?_
    refine AWl.mv rfl rfl rfl rfl rfl ?_
    refine AWl.put (by exact R_fieldAddr rfl (.no rfl) rfl (.tm rfl) fl43_1) rfl ?_
    refine AWl.put (by exact R_load rfl (.no rfl) rfl (.tm rfl) ty41 rfl rfl) rfl ?_
    refine AWl.mv rfl rfl rfl rfl rfl ?_
    refine AWl.put (by exact R_indexAddr rfl (.no rfl) rfl (.tm rfl) (.tm rfl) Tryz.underlying41 ty46 (fun _ => ⟨by omega, map_get he1⟩)) rfl ?_
    refine AWl.put (by exact R_fieldAddr rfl (.no rfl) rfl (.tm rfl) fl46_0) rfl ?_
    refine AWl.put (by exact R_load rfl (.no rfl) rfl (.tm rfl) ty3 rfl rfl) rfl ?_
    refine AWl.put (R_build (ps := [(0, .tmp 47), (1, .const (.bool true))]) rfl rfl rfl in147 rfl rfl st147 (.cons (.tm rfl) rfl rfl fp147_0 (.cons (.const rfl) rfl rfl fp147_1 .nil)) rfl) rfl ?_
    refine AWl.absadd (R_list (xs := [.tmp 48]) 49 rfl rfl rfl (.cons (.tm rfl) rfl rfl .nil) Tryz.underlying197 in147 rfl rfl rfl rfl) rfl ?_
    refine AWl.chgput (R_append rfl rfl rfl (.tm rfl) rfl (.tm rfl) (by exact .rf rfl) (by rfl) Tryz.underlying197 in147 rfl (by (simp [chunk]; omega)) (by (unfold maxLen; simp [chunk]; omega))) rfl ?_
    refine AWl.le (σ' := ⟨_, [(1, _), (2, _), (4, _), (5, _), (6, _), (50, _)], [(7, _), (49, _)]⟩) (Le.sub0 rfl ⟨rfl, rfl, rfl, rfl, rfl, rfl, trivial⟩ ⟨rfl, rfl, trivial⟩) ?_
    refine AWl.av rfl rfl rfl rfl rfl ?_
    refine AWl.nil ?_
    refine AW.region ?_
    refine AWl.mv rfl rfl rfl rfl rfl ?_
    refine AWl.put (R_add rfl (.no rfl) rfl (.tm rfl) (.const rfl) (fun _ => by omega)) rfl ?_
    refine AWl.av rfl rfl rfl rfl rfl ?_
    refine AWl.nil ?_
    repeat (with_reducible refine BlockQ.nor ?_)
    refine Round1.next (k + 1) ⟨by omega, trivial⟩ (by omega) (Le.sub0 rfl ⟨rfl, rfl, rfl, rfl, rfl, trivial⟩ ⟨(by refine congrArg (fun r => some (R.row 2 r)) ?_; rw [arcsL_at he1]; simp [arcsOf, h22, h40, chunk, cStep]), trivial⟩)
   ·skip
    try simp at h40
    refine AW.skip ?_
    refine AW.le (σ' := ⟨_, [(1, _), (2, _), (4, _), (5, _), (6, _)], [(7, _)]⟩) (Le.sub0 rfl ⟨rfl, rfl, rfl, rfl, rfl, trivial⟩ ⟨rfl, trivial⟩) ?_
    refine AW.region ?_
    refine AWl.mv rfl rfl rfl rfl rfl ?_
    refine AWl.put (R_add rfl (.no rfl) rfl (.tm rfl) (.const rfl) (fun _ => by omega)) rfl ?_
    refine AWl.av rfl rfl rfl rfl rfl ?_
    refine AWl.nil ?_
    repeat (with_reducible refine BlockQ.nor ?_)
    refine Round1.next (k + 1) ⟨by omega, trivial⟩ (by omega) (Le.sub0 rfl ⟨rfl, rfl, rfl, rfl, rfl, trivial⟩ ⟨(by refine congrArg (fun r => some (R.row 2 r)) ?_; rw [arcsL_at he1]; simp [arcsOf, h22, h40, chunk, cStep]), trivial⟩)
 ·skip
  try simp at h12
  refine AW.exit ?_
  refine AW.sr ?_
  refine AWl.mv rfl rfl rfl rfl rfl ?_
  refine AWl.av rfl rfl rfl rfl rfl ?_
  refine AWl.nil ?_
  refine AW.ret ?_
  refine Res.one rfl (.tmp rfl .nil) rfl ?_
  unfold arcsAt; rw [List.take_of_length_le (by omega)]; rfl
theorem specl14Letter (e : TEdge) (b : Bool) (h : 0 ≤ e.Label ∧ e.Label ≤ 2) : FnT Tryz.prog 156 [.agg (cEdge e), .one (.v (.bool b))] (.a (.one (.v (.int .i64 (reads e b))))) := by
 refine FnT.walk Tryz.func156 rfl (by kernel_rfl) Tryz.ntmps156 rfl fun hlen w0 => ?_
 try simp [cEdge, cGraph, cStep, cChange, cBatch, cAutomaton, cProductStep, cView] at hlen
 refine AW.sr ?_
 refine AWl.put (R_boxz rfl rfl rfl (.tm rfl) (ts := _) (by rfl)) rfl ?_
 refine AWl.ac rfl rfl rfl rfl rfl ?_
 refine AWl.nil ?_
 refine AW.seq ?_
 refine AW.sr ?_
 refine AWl.mv rfl rfl rfl rfl rfl ?_
 refine AWl.nil ?_
 refine AW.cond (.tm rfl) (fun h5 => ?_) (fun h5 => ?_)
 ·skip
  try simp at h5
  refine AW.sr ?_
  refine AWl.put (by exact R_fieldAddr rfl (.no rfl) rfl (.tm rfl) fl46_3) rfl ?_
  refine AWl.put (by exact R_load rfl (.no rfl) rfl (.tm rfl) ty3 rfl rfl) rfl ?_
  refine AWl.put (R_mul rfl (.no rfl) rfl (.const rfl) (.tm rfl) (fun _ => by omega)) rfl ?_
  refine AWl.put (R_add rfl (.no rfl) rfl (.tm rfl) (.const rfl) (fun _ => by omega)) rfl ?_
  refine AWl.av rfl rfl rfl rfl rfl ?_
  refine AWl.nil ?_
  refine AW.ret ?_
  refine Res.v rfl rfl ?_
  simp [reads, h5]
 ·skip
  try simp at h5
  refine AW.skip ?_
  refine AW.sr ?_
  refine AWl.put (by exact R_fieldAddr rfl (.no rfl) rfl (.tm rfl) fl46_3) rfl ?_
  refine AWl.put (by exact R_load rfl (.no rfl) rfl (.tm rfl) ty3 rfl rfl) rfl ?_
  refine AWl.put (R_mul rfl (.no rfl) rfl (.const rfl) (.tm rfl) (fun _ => by omega)) rfl ?_
  refine AWl.av rfl rfl rfl rfl rfl ?_
  refine AWl.nil ?_
  refine AW.ret ?_
  refine Res.v rfl rfl ?_
  simp [reads, h5]
theorem specl14To (e : TEdge) (b : Bool) : FnT Tryz.prog 157 [.agg (cEdge e), .one (.v (.bool b))] (.a (.one (.v (.int .i64 (toOf e b))))) := by
 refine FnT.walk Tryz.func157 rfl (by kernel_rfl) Tryz.ntmps157 rfl fun hlen w0 => ?_
 try simp [cEdge, cGraph, cStep, cChange, cBatch, cAutomaton, cProductStep, cView] at hlen
 refine AW.sr ?_
 refine AWl.put (R_boxz rfl rfl rfl (.tm rfl) (ts := _) (by rfl)) rfl ?_
 refine AWl.ac rfl rfl rfl rfl rfl ?_
 refine AWl.nil ?_
 refine AW.seq ?_
 refine AW.sr ?_
 refine AWl.mv rfl rfl rfl rfl rfl ?_
 refine AWl.nil ?_
 refine AW.cond (.tm rfl) (fun h5 => ?_) (fun h5 => ?_)
 ·skip
  try simp at h5
  refine AW.sr ?_
  refine AWl.put (by exact R_fieldAddr rfl (.no rfl) rfl (.tm rfl) fl46_1) rfl ?_
  refine AWl.put (by exact R_load rfl (.no rfl) rfl (.tm rfl) ty3 rfl rfl) rfl ?_
  refine AWl.av rfl rfl rfl rfl rfl ?_
  refine AWl.nil ?_
  refine AW.ret ?_
  refine Res.v rfl rfl ?_
  simp [toOf, h5]
 ·skip
  try simp at h5
  refine AW.skip ?_
  refine AW.sr ?_
  refine AWl.put (by exact R_fieldAddr rfl (.no rfl) rfl (.tm rfl) fl46_2) rfl ?_
  refine AWl.put (by exact R_load rfl (.no rfl) rfl (.tm rfl) ty3 rfl rfl) rfl ?_
  refine AWl.av rfl rfl rfl rfl rfl ?_
  refine AWl.nil ?_
  refine AW.ret ?_
  refine Res.v rfl rfl ?_
  simp [toOf, h5]
theorem specl14Steps (g : TGraph) (a : TAutomaton) (ha : validA a = true) (hg : validG g = true) (nd s v : Int) (hnd : 0 ≤ nd) (hndv : g.Values[nd.toNat]? = some v) (hst : 0 ≤ s ∧ s < a.Accept.length) : FnT Tryz.prog 102 [.agg (cGraph g), .agg (cAutomaton a), .one (.v (.int .i64 nd)), .one (.v (.int .i64 s))] (.a (.one (.sl 4 ((stepsOf g a nd s).map cProductStep)))) := by
 refine FnT.walk Tryz.func102 rfl (by kernel_rfl) Tryz.ntmps102 rfl fun hlen w0 => ?_
 try simp [cEdge, cGraph, cStep, cChange, cBatch, cAutomaton, cProductStep, cView] at hlen
 have hA := validA_len ha
 have hG := validG_len hg
 have hv := validG_val hg hndv
 have hcl := closure_lt ha hv hst.2
 have hP := pow_le_12 ha
 have hal : (arcsAt g nd).length ≤ 24 := Nat.le_trans (arcsL_len _ _) (by omega)
 refine AW.sr ?_
 refine AWl.put (R_boxz rfl rfl rfl (.tm rfl) (ts := _) (by rfl)) rfl ?_
 refine AWl.put (R_boxz rfl rfl rfl (.tm rfl) (ts := _) (by rfl)) rfl ?_
 refine AWl.ac rfl rfl rfl rfl rfl ?_
 refine AWl.nilS (i := 8) 20001 4 rfl rfl ?_
 refine AWl.nil ?_
 refine AW.sr ?_
 refine AWl.add (R_empty 18 rfl rfl rfl Tryz.underlying144 ty149 rfl) rfl ?_
 refine AWl.av rfl rfl rfl rfl rfl ?_
 refine AWl.nil ?_
 refine AW.seq ?_
 refine AW.drawn 9 (nthB [[], [], [], [2], [], [2, 3, 4], [2, 3, 4, 5], [0, 1, 2, 3, 4, 5, 6], [0, 1, 2, 3, 4, 5, 6, 7]]) (by kernel_rfl) (by kernel_rfl) (by kernel_rfl) ?_
 refine DrawC.step rfl rfl rfl (Loc.of rfl fun σ' hs => (by exact R_load rfl (.no rfl) (hd_sup hs rfl) (.tm (hs.slots _ _ rfl)) ty36 rfl rfl)) ?_
 refine DrawC.step rfl rfl rfl (Loc.of rfl fun σ' hs => R_move rfl (.no rfl) (hd_sup hs rfl) (.tm (hs.slots _ _ rfl))) ?_
 refine DrawC.step rfl rfl rfl (Loc.of rfl fun σ' hs => (by exact R_fieldAddr rfl (.no rfl) (hd_sup hs rfl) (.tm (hs.slots _ _ rfl)) fl43_0)) ?_
 refine DrawC.step rfl rfl rfl (Loc.of rfl fun σ' hs => (by exact R_load rfl (.no rfl) (hd_sup hs rfl) (.tm (hs.slots _ _ rfl)) ty22 rfl rfl)) ?_
 refine DrawC.step rfl rfl rfl (Loc.of rfl fun σ' hs => R_move rfl (.no rfl) (hd_sup hs rfl) (.tm (hs.slots _ _ rfl))) ?_
 refine DrawC.step rfl rfl rfl (Loc.of rfl fun σ' hs => (by exact R_indexAddr rfl (.no rfl) (hd_sup hs rfl) (.tm (hs.slots _ _ rfl)) (.tm (hs.slots _ _ rfl)) Tryz.underlying22 ty3 (fun _ => ⟨by omega, (by exact map_get hndv)⟩))) ?_
 refine DrawC.step rfl rfl rfl (Loc.of rfl fun σ' hs => (by exact R_load rfl (.no rfl) (hd_sup hs rfl) (.tm (hs.slots _ _ rfl)) ty3 rfl rfl)) ?_
 refine DrawC.step rfl rfl rfl (Loc.of rfl fun σ' hs => R_callz (FnT.fr (specl14Closure a ha s v ⟨by omega, hst.2⟩ hv)) rfl (.no rfl) (hd_sup hs rfl) (.cons (.tm (hs.slots _ _ rfl)) (readA_sup hs rfl) (.cons (.tm (hs.slots _ _ rfl)) (readA_sup hs rfl) (.cons (.tm (hs.slots _ _ rfl)) (readA_sup hs rfl) .nil)))) ?_
 refine DrawC.step rfl rfl rfl (Loc.of rfl fun σ' hs => R_assign rfl (.no rfl) (hd_sup hs rfl) (.tm (hs.slots _ _ rfl))) ?_
 refine DrawC.fin rfl rfl ?_
 refine AWl.nil ?_
 refine AW.seq ?_
 refine AW.le (σ' := ⟨_, [(0, _), (1, _), (2, _), (3, _), (4, _), (5, _), (8, _), (9, _), (10, _)], [(20001, _), (18, _)]⟩) (Le.sub0 rfl ⟨rfl, rfl, rfl, rfl, rfl, rfl, rfl, rfl, rfl, trivial⟩ ⟨rfl, rfl, trivial⟩) ?_
 refine AW.region ?_
 refine AWl.put (by exact R_load rfl (.no rfl) rfl (.tm rfl) ty43 rfl rfl) rfl ?_
 refine AWl.mv rfl rfl rfl rfl rfl ?_
 refine AWl.put (R_callz (FnT.fr (specl4From g nd (by omega))) rfl (.no rfl) rfl (.cons (.tm rfl) rfl (.cons (.tm rfl) rfl .nil))) rfl ?_
 refine AWl.av rfl rfl rfl rfl rfl ?_
 refine AWl.nil ?_
 refine AW.seq ?_
 refine AW.sr ?_
 refine AWl.ac rfl rfl rfl rfl rfl ?_
 refine AWl.nil ?_
 refine AW.block ?_
 refine AW.loop1 (fun (i : Nat) => (i ≤ (arcsAt g nd).length) ∧ True) (fun (i : Nat) => ⟨_, [(12, (true, .a (.one (.t (.v (.int .i64 (i : Nat))))))), (9, (true, .a (.one (.rf 18)))), (4, _), (5, _), (8, _), (10, _), (11, _)], [(18, .row 4 ((((arcsAt g nd).take i).flatMap (vertS a s v)).map cProductStep))]⟩) (fun (i : Nat) => (arcsAt g nd).length - i) (0) ⟨Nat.zero_le _, trivial⟩ (Le.sub0 rfl ⟨rfl, rfl, rfl, rfl, rfl, rfl, rfl, trivial⟩ ⟨(by rfl), trivial⟩) ?_
 rintro i ⟨hk, he⟩
 refine AW.seq ?_
 refine AW.sr ?_
 refine AWl.mv rfl rfl rfl rfl rfl ?_
 refine AWl.mv rfl rfl rfl rfl rfl ?_
 refine AWl.put (by exact R_lenm rfl (.no rfl) rfl (.tm rfl) (by exact .t) Tryz.underlying197) rfl ?_
 refine AWl.put (R_lt rfl (.no rfl) rfl (.tm rfl) (.tm rfl)) rfl ?_
 refine AWl.nil ?_
 refine AW.cond (.tm rfl) (fun h33 => ?_) (fun h33 => ?_)
 ·skip
  try simp only [bit_at, bit_zero, shr_zero] at h33
  try simp only [Int.toNat_natCast] at h33
  try simp at h33
  obtain ⟨y, hy⟩ : ∃ ξ, (arcsAt g nd)[i]? = some ξ := ⟨_, List.getElem?_eq_getElem (by omega)⟩
  have hyo := arcsAt_ok hg hy
  obtain ⟨k1, e, hed, hy1, hy2, hy3⟩ := arcsAt_edge hg hy
  have hE := validG_edge hg hed
  have hsy : ((arcsAt g nd).map (·.step))[i]? = some y.step := by (rw [List.getElem?_map, hy]; rfl)
  have hix : edgeIndex g y.step.Edge = (k1 : Int) := by rw [hy1]; exact edgeIndex_at hg hed
  have hlet : FnT Tryz.prog 156 [.agg (cEdge e), .one (.v (.bool y.step.Inverse))] (.a (.one (.v (.int .i64 y.letter)))) := by (rw [hy2]; exact specl14Letter e _ (by omega))
  have hto : FnT Tryz.prog 157 [.agg (cEdge e), .one (.v (.bool y.step.Inverse))] (.a (.one (.v (.int .i64 y.to)))) := by (rw [hy3]; exact specl14To e _)
  have hfl : (((arcsAt g nd).take i).flatMap (vertS a s v)).length ≤ 24 * 64 := Nat.le_trans (flatMap_len (b := 64) (vertS_len a s v) _) (Nat.mul_le_mul_right _ (by simp; omega))
  refine AW.skip ?_
  refine AW.seq ?_
  refine AW.block ?_
  refine AW.seq ?_
  refine AW.drawn 12 (nthB [[], [0], [], [], [], [3, 4], [3, 4, 5], [3, 4, 5, 6], [2, 3, 4, 5, 6, 7], [0, 1, 2, 3, 4, 5, 6, 7, 8], [0, 1, 2, 3, 4, 5, 6, 7, 8, 9], []]) (by kernel_rfl) (by kernel_rfl) (by kernel_rfl) ?_
  refine DrawC.step rfl rfl rfl (Loc.of rfl fun σ' hs => (by exact R_fieldAddr rfl (.no rfl) (hd_sup hs rfl) (.tm (hs.slots _ _ rfl)) fl43_1)) ?_
  refine DrawC.step rfl rfl rfl (Loc.of rfl fun σ' hs => (by exact R_load rfl (.no rfl) (hd_sup hs rfl) (.tm (hs.slots _ _ rfl)) ty41 rfl rfl)) ?_
  refine DrawC.step rfl rfl rfl (Loc.of rfl fun σ' hs => (by exact R_load rfl (.no rfl) (hd_sup hs rfl) (.tm (hs.slots _ _ rfl)) ty43 rfl rfl)) ?_
  refine DrawC.step rfl rfl rfl (Loc.of rfl fun σ' hs => R_move rfl (.no rfl) (hd_sup hs rfl) (.tm (hs.slots _ _ rfl))) ?_
  refine DrawC.step rfl rfl rfl (Loc.of rfl fun σ' hs => R_move rfl (.no rfl) (hd_sup hs rfl) (.tm (hs.slots _ _ rfl))) ?_
  refine DrawC.step rfl rfl rfl (Loc.of rfl fun σ' hs => (by exact R_indexAddr rfl (.no rfl) (hd_sup hs rfl) (.tm (hs.slots _ _ rfl)) (.tm (hs.slots _ _ rfl)) Tryz.underlying197 ty147 (fun _ => ⟨by omega, (by exact map_get hsy)⟩))) ?_
  refine DrawC.step rfl rfl rfl (Loc.of rfl fun σ' hs => (by exact R_fieldAddr rfl (.no rfl) (hd_sup hs rfl) (.tm (hs.slots _ _ rfl)) fl147_0)) ?_
  refine DrawC.step rfl rfl rfl (Loc.of rfl fun σ' hs => (by exact R_load rfl (.no rfl) (hd_sup hs rfl) (.tm (hs.slots _ _ rfl)) ty3 rfl rfl)) ?_
  refine DrawC.step rfl rfl rfl (Loc.of rfl fun σ' hs => R_callz (FnT.fr (specEdgeIndex _ _)) rfl (.no rfl) (hd_sup hs rfl) (.cons (.tm (hs.slots _ _ rfl)) (readA_sup hs rfl) (.cons (.tm (hs.slots _ _ rfl)) (readA_sup hs rfl) .nil))) ?_
  refine DrawC.step rfl rfl rfl (Loc.of rfl fun σ' hs => (by exact R_indexAddr rfl (.no rfl) (hd_sup hs rfl) (.tm (hs.slots _ _ rfl)) (.tm (hs.slots _ _ rfl)) Tryz.underlying41 ty46 (fun _ => ⟨by omega, map_get (l := g.Edges) (x := e) (by rw [hix]; exact hed)⟩))) ?_
  refine DrawC.step rfl rfl rfl (Loc.of rfl fun σ' hs => (by exact R_load rfl (.no rfl) (hd_sup hs rfl) (.tm (hs.slots _ _ rfl)) ty46 rfl rfl)) ?_
  refine DrawC.step rfl rfl rfl (Loc.of1 rfl fun σ' hs hf => R_alloc 13 rfl rfl (hd_sup hs rfl) in46 rfl rfl hf) ?_
  refine DrawC.fin rfl rfl ?_
  refine AWl.chgb (R_store_pb rfl rfl rfl (.tm rfl) (.tm rfl) rfl ty46 rfl rfl rfl (by kernel_rfl) rfl) ?_
  refine AWl.nil ?_
  refine AW.seq ?_
  refine AW.le (σ' := ⟨_, [(4, _), (5, _), (8, _), (9, _), (10, _), (11, _), (12, _), (13, _)], [(18, _), (13, _)]⟩) (Le.sub0 rfl ⟨rfl, rfl, rfl, rfl, rfl, rfl, rfl, rfl, trivial⟩ ⟨rfl, rfl, trivial⟩) ?_
  refine AW.region ?_
  refine AWl.ac rfl rfl rfl rfl rfl ?_
  refine AWl.nil ?_
  refine AW.seq ?_
  refine AW.sr ?_
  refine AWl.ac rfl rfl rfl rfl rfl ?_
  refine AWl.nil ?_
  refine AW.block ?_
  refine AW.loop2 (fun (q : Nat) (m : Nat) => (q ≤ a.Accept.length ∧ m < 2 ^ a.Accept.length) ∧ m = aftF a y.letter ((List.range q).filter (closure a s v).testBit) 0) (fun (q : Nat) (m : Nat) => ⟨_, [(15, (true, .a (.one (.t (.v (.int .i64 (q : Nat))))))), (14, (true, .a (.one (.t (.v (.int .i64 (m : Nat))))))), (4, _), (5, _), (8, _), (9, _), (10, _), (11, _), (12, _), (13, _)], [(18, .row 4 ((((arcsAt g nd).take i).flatMap (vertS a s v)).map cProductStep)), (13, .box [.t (.v (.int .i64 e.ID)), .t (.v (.int .i64 e.From)), .t (.v (.int .i64 e.To)), .t (.v (.int .i64 e.Label))])]⟩) (fun (q : Nat) (m : Nat) => a.Accept.length - q) (0) (0) ⟨⟨Nat.zero_le _, Nat.two_pow_pos _⟩, rfl⟩ (Le.sub0 rfl ⟨rfl, rfl, rfl, rfl, rfl, rfl, rfl, rfl, rfl, rfl, trivial⟩ ⟨(by rfl), rfl, trivial⟩) ?_
  rintro q m ⟨hk1, he1⟩
  refine AW.seq ?_
  refine AW.sr ?_
  refine AWl.mv rfl rfl rfl rfl rfl ?_
  refine AWl.put (by exact R_fieldAddr rfl (.no rfl) rfl (.tm rfl) fl36_1) rfl ?_
  refine AWl.put (by exact R_load rfl (.no rfl) rfl (.tm rfl) ty26 rfl rfl) rfl ?_
  refine AWl.put (by exact R_lenm rfl (.no rfl) rfl (.tm rfl) (by exact .t) Tryz.underlying26) rfl ?_
  refine AWl.put (R_lt rfl (.no rfl) rfl (.tm rfl) (.tm rfl)) rfl ?_
  refine AWl.nil ?_
  refine AW.cond (.tm rfl) (fun h51 => ?_) (fun h51 => ?_)
  ·skip
   try simp only [bit_at, bit_zero, shr_zero] at h51
   try simp only [Int.toNat_natCast] at h51
   try simp at h51
   obtain ⟨row, hr1, hr2, hr3, hn1, hn2⟩ := validA_next ha (s := (q : Int)) (k := y.letter) (by omega) (by omega) (by omega) (by omega)
   refine AW.skip ?_
   refine AW.seq ?_
   refine AW.block ?_
   refine AW.seq ?_
   refine AW.drawn 15 (nthB [[], [0], [], [0, 1, 2], [0, 1, 2, 3], [], [], [], [6, 7], [6, 7, 8], [6, 7, 8, 9], [5, 6, 7, 8, 9, 10], [0, 1, 2, 3, 4, 5, 6, 7, 8, 9, 10, 11], [0, 1, 2, 3, 4, 5, 6, 7, 8, 9, 10, 11, 12], [0, 1, 2, 3, 4, 5, 6, 7, 8, 9, 10, 11, 12, 13]]) (by kernel_rfl) (by kernel_rfl) (by kernel_rfl) ?_
   refine DrawC.step rfl rfl rfl (Loc.of rfl fun σ' hs => (by exact R_fieldAddr rfl (.no rfl) (hd_sup hs rfl) (.tm (hs.slots _ _ rfl)) fl36_2)) ?_
   refine DrawC.step rfl rfl rfl (Loc.of rfl fun σ' hs => (by exact R_load rfl (.no rfl) (hd_sup hs rfl) (.tm (hs.slots _ _ rfl)) ty27 rfl rfl)) ?_
   refine DrawC.step rfl rfl rfl (Loc.of rfl fun σ' hs => R_move rfl (.no rfl) (hd_sup hs rfl) (.tm (hs.slots _ _ rfl))) ?_
   refine DrawC.step rfl rfl rfl (Loc.of rfl fun σ' hs => (by exact R_indexAddr rfl (.no rfl) (hd_sup hs rfl) (.tm (hs.slots _ _ rfl)) (.tm (hs.slots _ _ rfl)) Tryz.underlying27 ty22 (fun _ => ⟨by omega, (by exact map_get hr1)⟩))) ?_
   refine DrawC.step rfl rfl rfl (Loc.of rfl fun σ' hs => (by exact R_load rfl (.no rfl) (hd_sup hs rfl) (.tm (hs.slots _ _ rfl)) ty22 rfl rfl)) ?_
   refine DrawC.step rfl rfl rfl (Loc.of rfl fun σ' hs => (by exact R_load_pp rfl (.no rfl) (hd_sup hs rfl) (.tm (hs.slots _ _ rfl)) (hs.res _ _ rfl) ty46 rfl rfl)) ?_
   refine DrawC.step rfl rfl rfl (Loc.of rfl fun σ' hs => R_move rfl (.no rfl) (hd_sup hs rfl) (.tm (hs.slots _ _ rfl))) ?_
   refine DrawC.step rfl rfl rfl (Loc.of rfl fun σ' hs => R_move rfl (.no rfl) (hd_sup hs rfl) (.tm (hs.slots _ _ rfl))) ?_
   refine DrawC.step rfl rfl rfl (Loc.of rfl fun σ' hs => (by exact R_indexAddr rfl (.no rfl) (hd_sup hs rfl) (.tm (hs.slots _ _ rfl)) (.tm (hs.slots _ _ rfl)) Tryz.underlying197 ty147 (fun _ => ⟨by omega, (by exact map_get hsy)⟩))) ?_
   refine DrawC.step rfl rfl rfl (Loc.of rfl fun σ' hs => (by exact R_fieldAddr rfl (.no rfl) (hd_sup hs rfl) (.tm (hs.slots _ _ rfl)) fl147_1)) ?_
   refine DrawC.step rfl rfl rfl (Loc.of rfl fun σ' hs => (by exact R_load rfl (.no rfl) (hd_sup hs rfl) (.tm (hs.slots _ _ rfl)) ty4 rfl rfl)) ?_
   refine DrawC.step rfl rfl rfl (Loc.of rfl fun σ' hs => R_callz (FnT.fr (hlet)) rfl (.no rfl) (hd_sup hs rfl) (.cons (.tm (hs.slots _ _ rfl)) (readA_sup hs rfl) (.cons (.tm (hs.slots _ _ rfl)) (readA_sup hs rfl) .nil))) ?_
   refine DrawC.step rfl rfl rfl (Loc.of rfl fun σ' hs => (by exact R_indexAddr rfl (.no rfl) (hd_sup hs rfl) (.tm (hs.slots _ _ rfl)) (.tm (hs.slots _ _ rfl)) Tryz.underlying22 ty3 (fun _ => ⟨by omega, (by exact map_get hr3)⟩))) ?_
   refine DrawC.step rfl rfl rfl (Loc.of rfl fun σ' hs => (by exact R_load rfl (.no rfl) (hd_sup hs rfl) (.tm (hs.slots _ _ rfl)) ty3 rfl rfl)) ?_
   refine DrawC.step rfl rfl rfl (Loc.of rfl fun σ' hs => R_assign rfl (.no rfl) (hd_sup hs rfl) (.tm (hs.slots _ _ rfl))) ?_
   refine DrawC.fin rfl rfl ?_
   refine AWl.nil ?_
   refine AW.seq ?_
   refine AW.le (σ' := ⟨_, [(4, _), (5, _), (8, _), (9, _), (10, _), (11, _), (12, _), (13, _), (14, _), (15, _), (16, _)], [(18, _), (13, _)]⟩) (Le.sub0 rfl ⟨rfl, rfl, rfl, rfl, rfl, rfl, rfl, rfl, rfl, rfl, rfl, trivial⟩ ⟨rfl, rfl, trivial⟩) ?_
   refine AW.region ?_
   refine AWl.mv rfl rfl rfl rfl rfl ?_
   refine AWl.mv rfl rfl rfl rfl rfl ?_
   refine AWl.put (R_shr rfl (.no rfl) rfl (.tm rfl) (.tm rfl) (fun _ => by omega)) rfl ?_
   refine AWl.put (R_and1 rfl (.no rfl) rfl (.tm rfl) (.const rfl) (fun _ => by first | exact Int.natCast_nonneg _ | omega)) rfl ?_
   refine AWl.put (R_eq rfl (.no rfl) rfl (.tm rfl) (.const rfl)) rfl ?_
   refine AWl.mv rfl rfl rfl rfl rfl ?_
   refine AWl.put (R_move rfl (by exact .yes1 rfl rfl rfl rfl) rfl (.tmp rfl (by exact fun _ => rfl))) rfl ?_
   refine AWl.put (R_ge rfl (by exact .yes1 rfl rfl rfl rfl) rfl (.tmp rfl (by exact id)) (.const rfl)) rfl ?_
   refine AWl.put (R_and rfl (.no rfl) rfl (.tm rfl) (.tmp rfl (by exact id))) rfl ?_
   refine AWl.nil ?_
   refine AW.cond (.tm rfl) (fun h76 => ?_) (fun h76 => ?_)
   ·skip
    try simp only [bit_at, bit_zero, shr_zero] at h76
    try simp only [Int.toNat_natCast] at h76
    try simp at h76
    have h2x := pow_12 ha (x := (nextOf a q y.letter).toNat) (by omega)
    have h2p := Nat.two_pow_pos (nextOf a q y.letter).toNat
    refine AW.le (σ' := ⟨_, [(4, _), (5, _), (8, _), (9, _), (10, _), (11, _), (12, _), (13, _), (14, _), (15, _), (16, _)], [(18, _), (13, _)]⟩) (Le.sub0 rfl ⟨rfl, rfl, rfl, rfl, rfl, rfl, rfl, rfl, rfl, rfl, rfl, trivial⟩ ⟨rfl, rfl, trivial⟩) ?_
    refine AW.region ?_
    refine AWl.mv rfl rfl rfl rfl rfl ?_
    refine AWl.mv rfl rfl rfl rfl rfl ?_
    refine AWl.put (R_shlN rfl (.no rfl) rfl (.const rfl) (.tm rfl) (fun _ => by omega)) rfl ?_
    refine AWl.put (R_or_int rfl (.no rfl) rfl (.tm rfl) (.tm rfl) (fun _ => by omega)) rfl ?_
    refine AWl.av rfl rfl rfl rfl rfl ?_
    refine AWl.nil ?_
    refine AW.region ?_
    refine AWl.mv rfl rfl rfl rfl rfl ?_
    refine AWl.put (R_add rfl (.no rfl) rfl (.tm rfl) (.const rfl) (fun _ => by omega)) rfl ?_
    refine AWl.av rfl rfl rfl rfl rfl ?_
    refine AWl.nil ?_
    repeat (with_reducible refine BlockQ.nor ?_)
    refine Round2.next (q + 1) (m ||| 2 ^ (nextOf a q y.letter).toNat) ⟨⟨by omega, or_pow_lt hk1.2 (by omega)⟩, by rw [range_filter_succ, h76.1, if_pos rfl, aftF_snoc, if_pos h76.2, he1]⟩ (by omega) (Le.sub0 rfl ⟨rfl, rfl, rfl, rfl, rfl, rfl, rfl, rfl, rfl, rfl, trivial⟩ ⟨(by rfl), (by rfl), trivial⟩)
   ·skip
    try simp only [bit_at, bit_zero, shr_zero] at h76
    try simp only [Int.toNat_natCast] at h76
    try simp at h76
    refine AW.skip ?_
    refine AW.le (σ' := ⟨_, [(4, _), (5, _), (8, _), (9, _), (10, _), (11, _), (12, _), (13, _), (14, _), (15, _), (16, _)], [(18, _), (13, _)]⟩) (Le.sub0 rfl ⟨rfl, rfl, rfl, rfl, rfl, rfl, rfl, rfl, rfl, rfl, rfl, trivial⟩ ⟨rfl, rfl, trivial⟩) ?_
    refine AW.region ?_
    refine AWl.mv rfl rfl rfl rfl rfl ?_
    refine AWl.put (R_add rfl (.no rfl) rfl (.tm rfl) (.const rfl) (fun _ => by omega)) rfl ?_
    refine AWl.av rfl rfl rfl rfl rfl ?_
    refine AWl.nil ?_
    repeat (with_reducible refine BlockQ.nor ?_)
    refine Round2.next (q + 1) (m) ⟨⟨by omega, hk1.2⟩, by rw [range_filter_succ]; cases hb : (closure a s v).testBit q with | false => (rw [if_neg (by simp), List.append_nil]; exact he1) | true => (rw [if_pos rfl, aftF_snoc, if_neg (by have := h76 hb; omega)]; exact he1)⟩ (by omega) (Le.sub0 rfl ⟨rfl, rfl, rfl, rfl, rfl, rfl, rfl, rfl, rfl, rfl, trivial⟩ ⟨(by rfl), (by rfl), trivial⟩)
  ·skip
   try simp only [bit_at, bit_zero, shr_zero] at h51
   try simp only [Int.toNat_natCast] at h51
   try simp at h51
   have hM : m = aft1 a s v y.letter := by (rw [he1, show q = a.Accept.length by omega, aft1_eq ha hv hst.2])
   subst hM
   refine AW.exit ?_
   refine AW.sr ?_
   refine AWl.ac rfl rfl rfl rfl rfl ?_
   refine AWl.nil ?_
   refine AW.block ?_
   refine AW.loop1 (fun (r : Nat) => (r ≤ a.Accept.length) ∧ True) (fun (r : Nat) => ⟨_, [(17, (true, .a (.one (.t (.v (.int .i64 (r : Nat))))))), (9, (true, .a (.one (.rf 18)))), (4, _), (5, _), (8, _), (10, _), (11, _), (12, _), (13, _), (14, _)], [(18, .row 4 ((((arcsAt g nd).take i).flatMap (vertS a s v) ++ ((List.range r).filter (aft1 a s v y.letter).testBit).map fun (t : Nat) => (⟨y.step, y.to, t⟩ : TProductStep)).map cProductStep)), (13, .box [.t (.v (.int .i64 e.ID)), .t (.v (.int .i64 e.From)), .t (.v (.int .i64 e.To)), .t (.v (.int .i64 e.Label))])]⟩) (fun (r : Nat) => a.Accept.length - r) (0) ⟨Nat.zero_le _, trivial⟩ (Le.sub0 rfl ⟨rfl, rfl, rfl, rfl, rfl, rfl, rfl, rfl, rfl, rfl, trivial⟩ ⟨(by (refine congrArg (fun r => some (R.row 4 r)) ?_; simp; done)), rfl, trivial⟩) ?_
   rintro r ⟨hk2, he2⟩
   refine AW.seq ?_
   refine AW.sr ?_
   refine AWl.mv rfl rfl rfl rfl rfl ?_
   refine AWl.put (by exact R_fieldAddr rfl (.no rfl) rfl (.tm rfl) fl36_1) rfl ?_
   refine AWl.put (by exact R_load rfl (.no rfl) rfl (.tm rfl) ty26 rfl rfl) rfl ?_
   refine AWl.put (by exact R_lenm rfl (.no rfl) rfl (.tm rfl) (by exact .t) Tryz.underlying26) rfl ?_
   refine AWl.put (R_lt rfl (.no rfl) rfl (.tm rfl) (.tm rfl)) rfl ?_
   refine AWl.nil ?_
   refine AW.cond (.tm rfl) (fun h85 => ?_) (fun h85 => ?_)
   ·skip
    try simp only [bit_at, bit_zero, shr_zero] at h85
    try simp only [Int.toNat_natCast] at h85
    try simp at h85
    have hfr : ((List.range r).filter (aft1 a s v y.letter).testBit).length ≤ 12 := Nat.le_trans (List.length_filter_le _ _) (by simp; omega)
    refine AW.skip ?_
    refine AW.seq ?_
    refine AW.block ?_
    refine AW.sr ?_
    refine AWl.mv rfl rfl rfl rfl rfl ?_
    refine AWl.mv rfl rfl rfl rfl rfl ?_
    refine AWl.put (R_shr rfl (.no rfl) rfl (.tm rfl) (.tm rfl) (fun _ => by omega)) rfl ?_
    refine AWl.put (R_and1 rfl (.no rfl) rfl (.tm rfl) (.const rfl) (fun _ => by first | exact Int.natCast_nonneg _ | omega)) rfl ?_
    refine AWl.put (R_eq rfl (.no rfl) rfl (.tm rfl) (.const rfl)) rfl ?_
    refine AWl.nil ?_
    refine AW.cond (.tm rfl) (fun h92 => ?_) (fun h92 => ?_)
    ·skip
     try simp only [bit_at, bit_zero, shr_zero] at h92
     try simp only [Int.toNat_natCast] at h92
     try simp at h92
     refine AW.le (σ' := ⟨_, [(4, _), (5, _), (8, _), (9, _), (10, _), (11, _), (12, _), (13, _), (14, _), (17, _)], [(18, _), (13, _)]⟩) (Le.sub0 rfl ⟨rfl, rfl, rfl, rfl, rfl, rfl, rfl, rfl, rfl, rfl, trivial⟩ ⟨rfl, rfl, trivial⟩) ?_
     refine AW.drawn 15 (nthB [[], [], [], [1, 2], [1, 2, 3], [], [], [], [6, 7], [6, 7, 8], [6, 7, 8, 9], [5, 6, 7, 8, 9, 10], [], [1, 2, 3, 4, 5, 6, 7, 8, 9, 10, 11, 12], [1, 2, 3, 4, 5, 6, 7, 8, 9, 10, 11, 12, 13]]) (by kernel_rfl) (by kernel_rfl) (by kernel_rfl) ?_
     refine DrawC.step rfl rfl rfl (Loc.of rfl fun σ' hs => R_move rfl (.no rfl) (hd_sup hs rfl) (.tm (hs.slots _ _ rfl))) ?_
     refine DrawC.step rfl rfl rfl (Loc.of rfl fun σ' hs => R_move rfl (.no rfl) (hd_sup hs rfl) (.tm (hs.slots _ _ rfl))) ?_
     refine DrawC.step rfl rfl rfl (Loc.of rfl fun σ' hs => R_move rfl (.no rfl) (hd_sup hs rfl) (.tm (hs.slots _ _ rfl))) ?_
     refine DrawC.step rfl rfl rfl (Loc.of rfl fun σ' hs => (by exact R_indexAddr rfl (.no rfl) (hd_sup hs rfl) (.tm (hs.slots _ _ rfl)) (.tm (hs.slots _ _ rfl)) Tryz.underlying197 ty147 (fun _ => ⟨by omega, (by exact map_get hsy)⟩))) ?_
     refine DrawC.step rfl rfl rfl (Loc.of rfl fun σ' hs => (by exact R_load rfl (.no rfl) (hd_sup hs rfl) (.tm (hs.slots _ _ rfl)) ty147 rfl rfl)) ?_
     refine DrawC.step rfl rfl rfl (Loc.of rfl fun σ' hs => (by exact R_load_pp rfl (.no rfl) (hd_sup hs rfl) (.tm (hs.slots _ _ rfl)) (hs.res _ _ rfl) ty46 rfl rfl)) ?_
     refine DrawC.step rfl rfl rfl (Loc.of rfl fun σ' hs => R_move rfl (.no rfl) (hd_sup hs rfl) (.tm (hs.slots _ _ rfl))) ?_
     refine DrawC.step rfl rfl rfl (Loc.of rfl fun σ' hs => R_move rfl (.no rfl) (hd_sup hs rfl) (.tm (hs.slots _ _ rfl))) ?_
     refine DrawC.step rfl rfl rfl (Loc.of rfl fun σ' hs => (by exact R_indexAddr rfl (.no rfl) (hd_sup hs rfl) (.tm (hs.slots _ _ rfl)) (.tm (hs.slots _ _ rfl)) Tryz.underlying197 ty147 (fun _ => ⟨by omega, (by exact map_get hsy)⟩))) ?_
     refine DrawC.step rfl rfl rfl (Loc.of rfl fun σ' hs => (by exact R_fieldAddr rfl (.no rfl) (hd_sup hs rfl) (.tm (hs.slots _ _ rfl)) fl147_1)) ?_
     refine DrawC.step rfl rfl rfl (Loc.of rfl fun σ' hs => (by exact R_load rfl (.no rfl) (hd_sup hs rfl) (.tm (hs.slots _ _ rfl)) ty4 rfl rfl)) ?_
     refine DrawC.step rfl rfl rfl (Loc.of rfl fun σ' hs => R_callz (FnT.fr (hto)) rfl (.no rfl) (hd_sup hs rfl) (.cons (.tm (hs.slots _ _ rfl)) (readA_sup hs rfl) (.cons (.tm (hs.slots _ _ rfl)) (readA_sup hs rfl) .nil))) ?_
     refine DrawC.step rfl rfl rfl (Loc.of rfl fun σ' hs => R_move rfl (.no rfl) (hd_sup hs rfl) (.tm (hs.slots _ _ rfl))) ?_
     refine DrawC.step rfl rfl rfl (Loc.of rfl fun σ' hs => R_build (ps := [(0, .tmp 97), (1, .tmp 104), (2, .tmp 105)]) rfl rfl (hd_sup hs rfl) in149 rfl rfl st149 (.cons (.tm (hs.slots _ _ rfl)) rfl rfl fp149_0 (.cons (.tm (hs.slots _ _ rfl)) rfl rfl fp149_1 (.cons (.tm (hs.slots _ _ rfl)) rfl rfl fp149_2 .nil))) rfl) ?_
     refine DrawC.step rfl rfl rfl (Loc.of rfl fun σ' hs => R_listz (xs := [.tmp 106]) (rows := [cProductStep ⟨y.step, y.to, r⟩]) rfl rfl (hd_sup hs rfl) (.cons (.tm (hs.slots _ _ rfl)) rfl rfl .nil) Tryz.underlying144 in149 rfl rfl (rfl)) ?_
     refine DrawC.fin rfl rfl ?_
     refine AWl.chgput (R_append rfl rfl rfl (.tm rfl) rfl (.tm rfl) (by exact .t) (by rfl) Tryz.underlying144 in149 rfl (by (simp only [List.length_map, List.length_append, List.length_cons, List.length_nil, chunk]; omega)) (by (unfold maxLen; simp only [List.length_map, List.length_append, List.length_cons, List.length_nil, chunk]; omega))) rfl ?_
     refine AWl.le (σ' := ⟨_, [(4, _), (5, _), (8, _), (9, _), (10, _), (11, _), (12, _), (13, _), (14, _), (17, _), (108, _)], [(18, _), (13, _)]⟩) (Le.sub0 rfl ⟨rfl, rfl, rfl, rfl, rfl, rfl, rfl, rfl, rfl, rfl, rfl, trivial⟩ ⟨rfl, rfl, trivial⟩) ?_
     refine AWl.av rfl rfl rfl rfl rfl ?_
     refine AWl.nil ?_
     refine AW.region ?_
     refine AWl.mv rfl rfl rfl rfl rfl ?_
     refine AWl.put (R_add rfl (.no rfl) rfl (.tm rfl) (.const rfl) (fun _ => by omega)) rfl ?_
     refine AWl.av rfl rfl rfl rfl rfl ?_
     refine AWl.nil ?_
     repeat (with_reducible refine BlockQ.nor ?_)
     refine Round1.next (r + 1) ⟨by omega, trivial⟩ (by omega) (Le.sub0 rfl ⟨rfl, rfl, rfl, rfl, rfl, rfl, rfl, rfl, rfl, rfl, trivial⟩ ⟨(by (refine congrArg (fun r => some (R.row 4 r)) ?_; first | (rw [range_filter_succ, h92]; simp [chunk]; done) | (rw [flatMap_at _ hy, vertS_eq ha hv hst.2 (by omega), show r = a.Accept.length by omega]; done))), (by rfl), trivial⟩)
    ·skip
     try simp only [bit_at, bit_zero, shr_zero] at h92
     try simp only [Int.toNat_natCast] at h92
     try simp at h92
     refine AW.skip ?_
     refine AW.le (σ' := ⟨_, [(4, _), (5, _), (8, _), (9, _), (10, _), (11, _), (12, _), (13, _), (14, _), (17, _)], [(18, _), (13, _)]⟩) (Le.sub0 rfl ⟨rfl, rfl, rfl, rfl, rfl, rfl, rfl, rfl, rfl, rfl, trivial⟩ ⟨rfl, rfl, trivial⟩) ?_
     refine AW.region ?_
     refine AWl.mv rfl rfl rfl rfl rfl ?_
     refine AWl.put (R_add rfl (.no rfl) rfl (.tm rfl) (.const rfl) (fun _ => by omega)) rfl ?_
     refine AWl.av rfl rfl rfl rfl rfl ?_
     refine AWl.nil ?_
     repeat (with_reducible refine BlockQ.nor ?_)
     refine Round1.next (r + 1) ⟨by omega, trivial⟩ (by omega) (Le.sub0 rfl ⟨rfl, rfl, rfl, rfl, rfl, rfl, rfl, rfl, rfl, rfl, trivial⟩ ⟨(by (refine congrArg (fun r => some (R.row 4 r)) ?_; first | (rw [range_filter_succ, h92]; simp [chunk]; done) | (rw [flatMap_at _ hy, vertS_eq ha hv hst.2 (by omega), show r = a.Accept.length by omega]; done))), (by rfl), trivial⟩)
   ·skip
    try simp only [bit_at, bit_zero, shr_zero] at h85
    try simp only [Int.toNat_natCast] at h85
    try simp at h85
    refine AW.exit ?_
    refine AW.region ?_
    refine AWl.mv rfl rfl rfl rfl rfl ?_
    refine AWl.put (R_add rfl (.no rfl) rfl (.tm rfl) (.const rfl) (fun _ => by omega)) rfl ?_
    refine AWl.av rfl rfl rfl rfl rfl ?_
    refine AWl.nil ?_
    repeat (with_reducible refine BlockQ.nor ?_)
    refine Round1.next (i + 1) ⟨by omega, trivial⟩ (by omega) (Le.sub0 rfl ⟨rfl, rfl, rfl, rfl, rfl, rfl, rfl, trivial⟩ ⟨(by (refine congrArg (fun r => some (R.row 4 r)) ?_; first | (rw [range_filter_succ, h92]; simp [chunk]; done) | (rw [flatMap_at _ hy, vertS_eq ha hv hst.2 (by omega), show r = a.Accept.length by omega]; done))), trivial⟩)
 ·skip
  try simp only [bit_at, bit_zero, shr_zero] at h33
  try simp only [Int.toNat_natCast] at h33
  try simp at h33
  refine AW.exit ?_
  refine AW.sr ?_
  refine AWl.mv rfl rfl rfl rfl rfl ?_
  refine AWl.av rfl rfl rfl rfl rfl ?_
  refine AWl.nil ?_
  refine AW.ret ?_
  refine Res.one rfl (.tmp rfl .nil) rfl ?_
  unfold stepsOf; rw [hndv, List.take_of_length_le (by omega)]; rfl
end Go.Proofs.YtoealglkenhphaaGreat
