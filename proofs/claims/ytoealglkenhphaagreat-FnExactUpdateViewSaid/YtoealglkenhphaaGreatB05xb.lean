import Derived.Test.YtoealglkenhphaaGreatB03xb
set_option linter.unusedVariables false
set_option linter.unusedSimpArgs false
namespace Go.Q
open Go.D
def reads (e : TEdge) (b : Bool) : Int := if b then 2 * e.Label + 1 else 2 * e.Label
end Go.Q
namespace Go.Proofs.YtoealglkenhphaaGreat
open Go.RowKit Go.Q Go.D
set_option maxRecDepth 100000 in
theorem implreads (e : TEdge) (b : Bool) (h : 0 ≤ e.Label ∧ e.Label ≤ 2) : FnT Tryz.prog 212 [.agg (cEdge e), .one (.v (.bool b))] (.a (.one (.v (.int .i64 (reads e b))))) := by
 refine FnT.walk Tryz.func212 rfl (by kernel_rfl) Tryz.ntmps212 rfl fun hlen w0 => ?_
 try simp [cEdge, cGraph, cStep, cChange, cBatch, cAutomaton, cProductStep, cView] at hlen
 refine AW.sr ?_
 refine AWl.put (R_boxz rfl rfl rfl (.tm rfl) (ts := _) (by rfl)) rfl ?_
 refine AWl.ac rfl rfl rfl rfl rfl ?_
 refine AWl.nil ?_
 refine AW.seq ?_
 refine AW.sr ?_
 refine AWl.mv rfl rfl rfl rfl rfl ?_
 refine AWl.nil ?_
 refine AW.cond (.tm rfl) (fun h5 => ?_) (fun h5 => ?_)
 ·skip
  try simp at h5
  refine AW.sr ?_
  refine AWl.put (by exact R_fieldAddr rfl (.no rfl) rfl (.tm rfl) fl46_3) rfl ?_
  refine AWl.put (by exact R_load rfl (.no rfl) rfl (.tm rfl) ty3 rfl rfl) rfl ?_
  refine AWl.put (R_mul rfl (.no rfl) rfl (.const rfl) (.tm rfl) (fun _ => by omega)) rfl ?_
  refine AWl.put (R_add rfl (.no rfl) rfl (.tm rfl) (.const rfl) (fun _ => by omega)) rfl ?_
  refine AWl.av rfl rfl rfl rfl rfl ?_
  refine AWl.nil ?_
  refine AW.ret ?_
  refine Res.v rfl rfl ?_
  simp [reads, h5]
 ·skip
  try simp at h5
  refine AW.skip ?_
  refine AW.sr ?_
  refine AWl.put (by exact R_fieldAddr rfl (.no rfl) rfl (.tm rfl) fl46_3) rfl ?_
  refine AWl.put (by exact R_load rfl (.no rfl) rfl (.tm rfl) ty3 rfl rfl) rfl ?_
  refine AWl.put (R_mul rfl (.no rfl) rfl (.const rfl) (.tm rfl) (fun _ => by omega)) rfl ?_
  refine AWl.av rfl rfl rfl rfl rfl ?_
  refine AWl.nil ?_
  refine AW.ret ?_
  refine Res.v rfl rfl ?_
  simp [reads, h5]
end Go.Proofs.YtoealglkenhphaaGreat
set_option linter.unusedVariables false
set_option linter.unusedSimpArgs false
namespace Go.Q
open Go.D
def cmpL : List Int → List Int → Int
 | [], [] => 0
 | [], _ :: _ => -1
 | _ :: _, [] => 1
 | x :: l, y :: r => if x < y then -1 else if y < x then 1 else cmpL l r
theorem cmpL_drop {l r : List Int} {k : Nat} {x y : Int} (hx : l[k]? = some x) (hy : r[k]? = some y) : cmpL (l.drop k) (r.drop k) = if x < y then -1 else if y < x then 1 else cmpL (l.drop (k + 1)) (r.drop (k + 1)) := by
 rw [drop_at hx, drop_at hy, cmpL]
theorem cmpL_end {l r : List Int} {k : Nat} (h : l.length ≤ k ∨ r.length ≤ k) (h1 : k ≤ l.length) (h2 : k ≤ r.length) : cmpL (l.drop k) (r.drop k) = if l.length < r.length then -1 else if r.length < l.length then 1 else 0 := by
 by_cases e1 : l.length = k
 ·by_cases e2 : r.length = k
  ·rw [List.drop_eq_nil_of_le (by omega), List.drop_eq_nil_of_le (by omega), cmpL, if_neg (by omega), if_neg (by omega)]
  ·rw [List.drop_eq_nil_of_le (by omega), List.drop_eq_getElem_cons (l := r) (by omega), cmpL, if_pos (by omega)]
 ·by_cases e2 : r.length = k
  ·rw [List.drop_eq_nil_of_le (show r.length ≤ k by omega), List.drop_eq_getElem_cons (l := l) (by omega), cmpL, if_neg (by omega), if_pos (by omega)]
  ·omega
theorem cmpL_zero : ∀ (l r : List Int), decide (cmpL l r = 0) = decide (l = r)
 | [], [] => by simp [cmpL]
 | [], _ :: _ => by simp [cmpL]
 | _ :: _, [] => by simp [cmpL]
 | x :: l, y :: r => by
  have ih := cmpL_zero l r
  rw [cmpL]
  by_cases h1 : x < y
  ·rw [if_pos h1]; simp; omega
  ·by_cases h2 : y < x
   ·rw [if_neg h1, if_pos h2]; simp; omega
   ·rw [if_neg h1, if_neg h2, ih]
    have : x = y := by omega
    simp [this]
end Go.Q
namespace Go.Proofs.YtoealglkenhphaaGreat
open Go.RowKit Go.Q Go.D
set_option maxRecDepth 100000 in
theorem specl2Cmp (l r : List Int) : FnT Tryz.prog 153 [.one (.sl 1 (l.map cInt)), .one (.sl 1 (r.map cInt))] (.a (.one (.v (.int .i64 (cmpL l r))))) := by
 refine FnT.walk Tryz.func153 rfl (by kernel_rfl) Tryz.ntmps153 rfl fun hlen w0 => ?_
 try simp [cEdge, cGraph, cStep, cChange, cBatch, cAutomaton, cProductStep, cView] at hlen
 refine AW.sr ?_
 refine AWl.ac rfl rfl rfl rfl rfl ?_
 refine AWl.nil ?_
 refine AW.seq ?_
 refine AW.sr ?_
 refine AWl.ac rfl rfl rfl rfl rfl ?_
 refine AWl.nil ?_
 refine AW.block ?_
 refine AW.loop (β := Nat) (fun x => (x ≤ l.length ∧ x ≤ r.length) ∧ cmpL l r = cmpL (l.drop x) (r.drop x)) (fun x => ⟨_, [(5, (true, .a (.one (.t (.v (.int .i64 x)))))), (0, _), (1, _)], []⟩) (fun x => l.length - x) (0) ⟨⟨Nat.zero_le _, Nat.zero_le _⟩, rfl⟩ (Le.sub0 rfl ⟨rfl, rfl, rfl, trivial⟩ trivial) ?_
 intro k hk
 obtain ⟨hk, he⟩ := hk
 refine AW.seq ?_
 refine AW.sr ?_
 refine AWl.mv rfl rfl rfl rfl rfl ?_
 refine AWl.mv rfl rfl rfl rfl rfl ?_
 refine AWl.put (by exact R_lenm rfl (.no rfl) rfl (.tm rfl) (by exact .t) Tryz.underlying22) rfl ?_
 refine AWl.put (R_lt rfl (.no rfl) rfl (.tm rfl) (.tm rfl)) rfl ?_
 refine AWl.mv rfl rfl rfl rfl rfl ?_
 refine AWl.put (R_move rfl (by exact .yes1 rfl rfl rfl rfl) rfl (.tmp rfl (by exact fun _ => rfl))) rfl ?_
 refine AWl.put (R_move rfl (by exact .yes1 rfl rfl rfl rfl) rfl (.tmp rfl (by exact fun _ => rfl))) rfl ?_
 refine AWl.put (by exact R_lenm rfl (by exact .yes1 rfl rfl rfl rfl) rfl (.tmp rfl (by exact id)) (by exact .t) Tryz.underlying22) rfl ?_
 refine AWl.put (R_lt rfl (by exact .yes1 rfl rfl rfl rfl) rfl (.tmp rfl (by exact id)) (.tmp rfl (by exact id))) rfl ?_
 refine AWl.put (R_and rfl (.no rfl) rfl (.tm rfl) (.tmp rfl (by exact id))) rfl ?_
 refine AWl.nil ?_
 refine AW.cond (.tm rfl) (fun hlt => ?_) (fun hlt => ?_)
 ·skip
  try simp at hlt
  obtain ⟨x, hx⟩ : ∃ x, l[k]? = some x := ⟨_, List.getElem?_eq_getElem (by omega)⟩
  obtain ⟨y, hy⟩ : ∃ y, r[k]? = some y := ⟨_, List.getElem?_eq_getElem (by omega)⟩
  rw [cmpL_drop hx hy] at he
  refine AW.skip ?_
  refine AW.seq ?_
  refine AW.block ?_
  refine AW.seq ?_
  refine AW.seq ?_
  refine AW.le (σ' := ⟨_, [(0, _), (1, _), (5, _)], []⟩) (Le.sub0 rfl ⟨rfl, rfl, rfl, trivial⟩ trivial) ?_
  refine AW.drawn 9 (nthB [[], [], [0, 1], [0, 1, 2], [], [], [4, 5], [4, 5, 6], [0, 1, 2, 3, 4, 5, 6, 7]]) (by kernel_rfl) (by kernel_rfl) (by kernel_rfl) ?_
  refine DrawC.step rfl rfl rfl (Loc.of rfl fun σ' hs => R_move rfl (.no rfl) (hd_sup hs rfl) (.tm (hs.slots _ _ rfl))) ?_
  refine DrawC.step rfl rfl rfl (Loc.of rfl fun σ' hs => R_move rfl (.no rfl) (hd_sup hs rfl) (.tm (hs.slots _ _ rfl))) ?_
  refine DrawC.step rfl rfl rfl (Loc.of rfl fun σ' hs => (by exact R_indexAddr rfl (.no rfl) (hd_sup hs rfl) (.tm (hs.slots _ _ rfl)) (.tm (hs.slots _ _ rfl)) Tryz.underlying22 ty3 (fun _ => ⟨by omega, (by exact map_get (by assumption))⟩))) ?_
  refine DrawC.step rfl rfl rfl (Loc.of rfl fun σ' hs => (by exact R_load rfl (.no rfl) (hd_sup hs rfl) (.tm (hs.slots _ _ rfl)) ty3 rfl rfl)) ?_
  refine DrawC.step rfl rfl rfl (Loc.of rfl fun σ' hs => R_move rfl (.no rfl) (hd_sup hs rfl) (.tm (hs.slots _ _ rfl))) ?_
  refine DrawC.step rfl rfl rfl (Loc.of rfl fun σ' hs => R_move rfl (.no rfl) (hd_sup hs rfl) (.tm (hs.slots _ _ rfl))) ?_
  refine DrawC.step rfl rfl rfl (Loc.of rfl fun σ' hs => (by exact R_indexAddr rfl (.no rfl) (hd_sup hs rfl) (.tm (hs.slots _ _ rfl)) (.tm (hs.slots _ _ rfl)) Tryz.underlying22 ty3 (fun _ => ⟨by omega, (by exact map_get (by assumption))⟩))) ?_
  refine DrawC.step rfl rfl rfl (Loc.of rfl fun σ' hs => (by exact R_load rfl (.no rfl) (hd_sup hs rfl) (.tm (hs.slots _ _ rfl)) ty3 rfl rfl)) ?_
  refine DrawC.step rfl rfl rfl (Loc.of rfl fun σ' hs => R_lt rfl (.no rfl) (hd_sup hs rfl) (.tm (hs.slots _ _ rfl)) (.tm (hs.slots _ _ rfl))) ?_
  refine DrawC.fin rfl rfl ?_
  refine AWl.nil ?_
  refine AW.cond (.tm rfl) (fun h26 => ?_) (fun h26 => ?_)
  ·skip
   try simp at h26
   refine AW.seq ?_
   refine AW.le (σ' := ⟨_, [(0, _), (1, _), (5, _)], []⟩) (Le.sub0 rfl ⟨rfl, rfl, rfl, trivial⟩ trivial) ?_
   refine AW.region ?_
   refine AWl.ac rfl rfl rfl rfl rfl ?_
   refine AWl.nil ?_
   refine AW.ret ?_
   refine Res.v rfl rfl ?_
   rw [he, if_pos h26]
  ·skip
   try simp at h26
   refine AW.skip ?_
   refine AW.seq ?_
   refine AW.le (σ' := ⟨_, [(0, _), (1, _), (5, _)], []⟩) (Le.sub0 rfl ⟨rfl, rfl, rfl, trivial⟩ trivial) ?_
   refine AW.drawn 9 (nthB [[], [], [0, 1], [0, 1, 2], [], [], [4, 5], [4, 5, 6], [0, 1, 2, 3, 4, 5, 6, 7]]) (by kernel_rfl) (by kernel_rfl) (by kernel_rfl) ?_
   refine DrawC.step rfl rfl rfl (Loc.of rfl fun σ' hs => R_move rfl (.no rfl) (hd_sup hs rfl) (.tm (hs.slots _ _ rfl))) ?_
   refine DrawC.step rfl rfl rfl (Loc.of rfl fun σ' hs => R_move rfl (.no rfl) (hd_sup hs rfl) (.tm (hs.slots _ _ rfl))) ?_
   refine DrawC.step rfl rfl rfl (Loc.of rfl fun σ' hs => (by exact R_indexAddr rfl (.no rfl) (hd_sup hs rfl) (.tm (hs.slots _ _ rfl)) (.tm (hs.slots _ _ rfl)) Tryz.underlying22 ty3 (fun _ => ⟨by omega, (by exact map_get (by assumption))⟩))) ?_
   refine DrawC.step rfl rfl rfl (Loc.of rfl fun σ' hs => (by exact R_load rfl (.no rfl) (hd_sup hs rfl) (.tm (hs.slots _ _ rfl)) ty3 rfl rfl)) ?_
   refine DrawC.step rfl rfl rfl (Loc.of rfl fun σ' hs => R_move rfl (.no rfl) (hd_sup hs rfl) (.tm (hs.slots _ _ rfl))) ?_
   refine DrawC.step rfl rfl rfl (Loc.of rfl fun σ' hs => R_move rfl (.no rfl) (hd_sup hs rfl) (.tm (hs.slots _ _ rfl))) ?_
   refine DrawC.step rfl rfl rfl (Loc.of rfl fun σ' hs => (by exact R_indexAddr rfl (.no rfl) (hd_sup hs rfl) (.tm (hs.slots _ _ rfl)) (.tm (hs.slots _ _ rfl)) Tryz.underlying22 ty3 (fun _ => ⟨by omega, (by exact map_get (by assumption))⟩))) ?_
   refine DrawC.step rfl rfl rfl (Loc.of rfl fun σ' hs => (by exact R_load rfl (.no rfl) (hd_sup hs rfl) (.tm (hs.slots _ _ rfl)) ty3 rfl rfl)) ?_
   refine DrawC.step rfl rfl rfl (Loc.of rfl fun σ' hs => R_gt rfl (.no rfl) (hd_sup hs rfl) (.tm (hs.slots _ _ rfl)) (.tm (hs.slots _ _ rfl))) ?_
   refine DrawC.fin rfl rfl ?_
   refine AWl.nil ?_
   refine AW.cond (.tm rfl) (fun h35 => ?_) (fun h35 => ?_)
   ·skip
    try simp at h35
    refine AW.seq ?_
    refine AW.le (σ' := ⟨_, [(0, _), (1, _), (5, _)], []⟩) (Le.sub0 rfl ⟨rfl, rfl, rfl, trivial⟩ trivial) ?_
    refine AW.region ?_
    refine AWl.ac rfl rfl rfl rfl rfl ?_
    refine AWl.nil ?_
    refine AW.ret ?_
    refine Res.v rfl rfl ?_
    rw [he, if_neg (by omega), if_pos h35]
   ·skip
    try simp at h35
    refine AW.skip ?_
    refine AW.le (σ' := ⟨_, [(0, _), (1, _), (5, _)], []⟩) (Le.sub0 rfl ⟨rfl, rfl, rfl, trivial⟩ trivial) ?_
    refine AW.region ?_
    refine AWl.mv rfl rfl rfl rfl rfl ?_
    refine AWl.put (R_add rfl (.no rfl) rfl (.tm rfl) (.const rfl) (fun _ => by omega)) rfl ?_
    refine AWl.av rfl rfl rfl rfl rfl ?_
    refine AWl.nil ?_
    refine Round.next (k + 1) ⟨by omega, by rw [he, if_neg (by omega), if_neg (by omega)]⟩ (by omega) (Le.sub0 rfl ⟨rfl, rfl, rfl, trivial⟩ trivial)
 ·skip
  try simp at hlt
  rw [cmpL_end (by omega) (by omega) (by omega)] at he
  refine AW.exit ?_
  refine AW.seq ?_
  refine AW.seq ?_
  refine AW.le (σ' := ⟨_, [(0, _), (1, _), (5, _)], []⟩) (Le.sub0 rfl ⟨rfl, rfl, rfl, trivial⟩ trivial) ?_
  refine AW.region ?_
  refine AWl.mv rfl rfl rfl rfl rfl ?_
  refine AWl.put (by exact R_lenm rfl (.no rfl) rfl (.tm rfl) (by exact .t) Tryz.underlying22) rfl ?_
  refine AWl.mv rfl rfl rfl rfl rfl ?_
  refine AWl.put (by exact R_lenm rfl (.no rfl) rfl (.tm rfl) (by exact .t) Tryz.underlying22) rfl ?_
  refine AWl.put (R_lt rfl (.no rfl) rfl (.tm rfl) (.tm rfl)) rfl ?_
  refine AWl.nil ?_
  refine AW.cond (.tm rfl) (fun h40 => ?_) (fun h40 => ?_)
  ·skip
   try simp at h40
   refine AW.sr ?_
   refine AWl.ac rfl rfl rfl rfl rfl ?_
   refine AWl.nil ?_
   refine AW.ret ?_
   refine Res.v rfl rfl ?_
   rw [he]; grind
  ·skip
   try simp at h40
   refine AW.skip ?_
   refine AW.seq ?_
   refine AW.sr ?_
   refine AWl.mv rfl rfl rfl rfl rfl ?_
   refine AWl.put (by exact R_lenm rfl (.no rfl) rfl (.tm rfl) (by exact .t) Tryz.underlying22) rfl ?_
   refine AWl.mv rfl rfl rfl rfl rfl ?_
   refine AWl.put (by exact R_lenm rfl (.no rfl) rfl (.tm rfl) (by exact .t) Tryz.underlying22) rfl ?_
   refine AWl.put (R_gt rfl (.no rfl) rfl (.tm rfl) (.tm rfl)) rfl ?_
   refine AWl.nil ?_
   refine AW.cond (.tm rfl) (fun h45 => ?_) (fun h45 => ?_)
   ·skip
    try simp at h45
    refine AW.seq ?_
    refine AW.le (σ' := ⟨_, [(0, _), (1, _), (5, _)], []⟩) (Le.sub0 rfl ⟨rfl, rfl, rfl, trivial⟩ trivial) ?_
    refine AW.region ?_
    refine AWl.ac rfl rfl rfl rfl rfl ?_
    refine AWl.nil ?_
    refine AW.ret ?_
    refine Res.v rfl rfl ?_
    rw [he]; grind
   ·skip
    try simp at h45
    refine AW.skip ?_
    refine AW.seq ?_
    refine AW.le (σ' := ⟨_, [(0, _), (1, _), (5, _)], []⟩) (Le.sub0 rfl ⟨rfl, rfl, rfl, trivial⟩ trivial) ?_
    refine AW.region ?_
    refine AWl.ac rfl rfl rfl rfl rfl ?_
    refine AWl.nil ?_
    refine AW.ret ?_
    refine Res.v rfl rfl ?_
    rw [he]; grind
set_option maxRecDepth 100000 in
theorem specEqualAutomata (a b : TAutomaton) : FnT Tryz.prog 152 [.agg (cAutomaton a), .agg (cAutomaton b)] (.a (.one (.v (.bool (decide (a = b)))))) := by
 refine FnT.walk Tryz.func152 rfl (by kernel_rfl) Tryz.ntmps152 rfl fun hlen w0 => ?_
 try simp [cEdge, cGraph, cStep, cChange, cBatch, cAutomaton, cProductStep, cView] at hlen
 refine AW.sr ?_
 refine AWl.put (R_boxz rfl rfl rfl (.tm rfl) (ts := _) (by rfl)) rfl ?_
 refine AWl.put (R_boxz rfl rfl rfl (.tm rfl) (ts := _) (by rfl)) rfl ?_
 refine AWl.ac rfl rfl rfl rfl rfl ?_
 refine AWl.nil ?_
 refine AW.seq ?_
 refine AW.sr ?_
 refine AWl.put (by exact R_fieldAddr rfl (.no rfl) rfl (.tm rfl) fl36_0) rfl ?_
 refine AWl.put (by exact R_load rfl (.no rfl) rfl (.tm rfl) ty3 rfl rfl) rfl ?_
 refine AWl.put (by exact R_fieldAddr rfl (.no rfl) rfl (.tm rfl) fl36_0) rfl ?_
 refine AWl.put (by exact R_load rfl (.no rfl) rfl (.tm rfl) ty3 rfl rfl) rfl ?_
 refine AWl.put (R_ne rfl (.no rfl) rfl (.tm rfl) (.tm rfl)) rfl ?_
 refine AWl.mv rfl rfl rfl rfl rfl ?_
 refine AWl.put (by exact R_fieldAddr rfl (by exact .not1 rfl rfl rfl rfl) rfl (.tmp rfl (by exact fun _ => rfl)) fl36_1) rfl ?_
 refine AWl.put (by exact R_load rfl (by exact .not1 rfl rfl rfl rfl) rfl (.tmp rfl (by exact id)) ty26 rfl rfl) rfl ?_
 refine AWl.put (by exact R_lenm rfl (by exact .not1 rfl rfl rfl rfl) rfl (.tmp rfl (by exact id)) (by exact .t) Tryz.underlying26) rfl ?_
 refine AWl.put (by exact R_fieldAddr rfl (by exact .not1 rfl rfl rfl rfl) rfl (.tmp rfl (by exact fun _ => rfl)) fl36_1) rfl ?_
 refine AWl.put (by exact R_load rfl (by exact .not1 rfl rfl rfl rfl) rfl (.tmp rfl (by exact id)) ty26 rfl rfl) rfl ?_
 refine AWl.put (by exact R_lenm rfl (by exact .not1 rfl rfl rfl rfl) rfl (.tmp rfl (by exact id)) (by exact .t) Tryz.underlying26) rfl ?_
 refine AWl.put (R_ne rfl (by exact .not1 rfl rfl rfl rfl) rfl (.tmp rfl (by exact id)) (.tmp rfl (by exact id))) rfl ?_
 refine AWl.put (R_or rfl (.no rfl) rfl (.tm rfl) (.tmp rfl (by exact id))) rfl ?_
 refine AWl.mv rfl rfl rfl rfl rfl ?_
 refine AWl.put (by exact R_fieldAddr rfl (by exact .not1 rfl rfl rfl rfl) rfl (.tmp rfl (by exact fun _ => rfl)) fl36_2) rfl ?_
 refine AWl.put (by exact R_load rfl (by exact .not1 rfl rfl rfl rfl) rfl (.tmp rfl (by exact id)) ty27 rfl rfl) rfl ?_
 refine AWl.put (by exact R_lenm rfl (by exact .not1 rfl rfl rfl rfl) rfl (.tmp rfl (by exact id)) (by exact .t) Tryz.underlying27) rfl ?_
 refine AWl.put (by exact R_fieldAddr rfl (by exact .not1 rfl rfl rfl rfl) rfl (.tmp rfl (by exact fun _ => rfl)) fl36_2) rfl ?_
 refine AWl.put (by exact R_load rfl (by exact .not1 rfl rfl rfl rfl) rfl (.tmp rfl (by exact id)) ty27 rfl rfl) rfl ?_
 refine AWl.put (by exact R_lenm rfl (by exact .not1 rfl rfl rfl rfl) rfl (.tmp rfl (by exact id)) (by exact .t) Tryz.underlying27) rfl ?_
 refine AWl.put (R_ne rfl (by exact .not1 rfl rfl rfl rfl) rfl (.tmp rfl (by exact id)) (.tmp rfl (by exact id))) rfl ?_
 refine AWl.put (R_or rfl (.no rfl) rfl (.tm rfl) (.tmp rfl (by exact id))) rfl ?_
 refine AWl.nil ?_
 refine AW.cond (.tm rfl) (fun h29 => ?_) (fun h29 => ?_)
 ·skip
  try simp at h29
  refine AW.seq ?_
  refine AW.le (σ' := ⟨_, [(0, _), (1, _), (2, _), (3, _), (4, _)], []⟩) (Le.sub0 rfl ⟨rfl, rfl, rfl, rfl, rfl, trivial⟩ trivial) ?_
  refine AW.region ?_
  refine AWl.ac rfl rfl rfl rfl rfl ?_
  refine AWl.nil ?_
  refine AW.ret ?_
  refine Res.v rfl rfl ?_
  congr 1; symm; exact decide_eq_false fun e => by subst e; simp at h29
 ·skip
  try simp at h29
  refine AW.skip ?_
  refine AW.seq ?_
  refine AW.seq ?_
  refine AW.le (σ' := ⟨_, [(0, _), (1, _), (2, _), (3, _), (4, _)], []⟩) (Le.sub0 rfl ⟨rfl, rfl, rfl, rfl, rfl, trivial⟩ trivial) ?_
  refine AW.region ?_
  refine AWl.ac rfl rfl rfl rfl rfl ?_
  refine AWl.nil ?_
  refine AW.block ?_
  refine AW.loop (β := Nat) (fun x => x ≤ a.Accept.length ∧ ∀ i, i < x → a.Accept[i]? = b.Accept[i]?) (fun x => ⟨_, [(5, (true, .a (.one (.t (.v (.int .i64 x)))))), (2, _), (3, _)], []⟩) (fun x => a.Accept.length - x) (0) ⟨Nat.zero_le _, by simp⟩ (Le.sub0 rfl ⟨rfl, rfl, rfl, trivial⟩ trivial) ?_
  intro k hk
  obtain ⟨hk, he⟩ := hk
  refine AW.seq ?_
  refine AW.sr ?_
  refine AWl.mv rfl rfl rfl rfl rfl ?_
  refine AWl.put (by exact R_fieldAddr rfl (.no rfl) rfl (.tm rfl) fl36_1) rfl ?_
  refine AWl.put (by exact R_load rfl (.no rfl) rfl (.tm rfl) ty26 rfl rfl) rfl ?_
  refine AWl.put (by exact R_lenm rfl (.no rfl) rfl (.tm rfl) (by exact .t) Tryz.underlying26) rfl ?_
  refine AWl.put (R_lt rfl (.no rfl) rfl (.tm rfl) (.tm rfl)) rfl ?_
  refine AWl.nil ?_
  refine AW.cond (.tm rfl) (fun h34 => ?_) (fun h34 => ?_)
  ·skip
   try simp at h34
   obtain ⟨x, hx⟩ : ∃ x, a.Accept[k]? = some x := ⟨_, List.getElem?_eq_getElem h34⟩
   obtain ⟨y, hy⟩ : ∃ y, b.Accept[k]? = some y := ⟨_, List.getElem?_eq_getElem (by grind)⟩
   refine AW.skip ?_
   refine AW.seq ?_
   refine AW.block ?_
   refine AW.seq ?_
   refine AW.drawn 11 (nthB [[], [0], [], [0, 1, 2], [0, 1, 2, 3], [], [5], [], [5, 6, 7], [5, 6, 7, 8], [0, 1, 2, 3, 4, 5, 6, 7, 8, 9]]) (by kernel_rfl) (by kernel_rfl) (by kernel_rfl) ?_
   refine DrawC.step rfl rfl rfl (Loc.of rfl fun σ' hs => (by exact R_fieldAddr rfl (.no rfl) (hd_sup hs rfl) (.tm (hs.slots _ _ rfl)) fl36_1)) ?_
   refine DrawC.step rfl rfl rfl (Loc.of rfl fun σ' hs => (by exact R_load rfl (.no rfl) (hd_sup hs rfl) (.tm (hs.slots _ _ rfl)) ty26 rfl rfl)) ?_
   refine DrawC.step rfl rfl rfl (Loc.of rfl fun σ' hs => R_move rfl (.no rfl) (hd_sup hs rfl) (.tm (hs.slots _ _ rfl))) ?_
   refine DrawC.step rfl rfl rfl (Loc.of rfl fun σ' hs => (by exact R_indexAddr rfl (.no rfl) (hd_sup hs rfl) (.tm (hs.slots _ _ rfl)) (.tm (hs.slots _ _ rfl)) Tryz.underlying26 ty4 (fun _ => ⟨by omega, (by exact map_get (by assumption))⟩))) ?_
   refine DrawC.step rfl rfl rfl (Loc.of rfl fun σ' hs => (by exact R_load rfl (.no rfl) (hd_sup hs rfl) (.tm (hs.slots _ _ rfl)) ty4 rfl rfl)) ?_
   refine DrawC.step rfl rfl rfl (Loc.of rfl fun σ' hs => (by exact R_fieldAddr rfl (.no rfl) (hd_sup hs rfl) (.tm (hs.slots _ _ rfl)) fl36_1)) ?_
   refine DrawC.step rfl rfl rfl (Loc.of rfl fun σ' hs => (by exact R_load rfl (.no rfl) (hd_sup hs rfl) (.tm (hs.slots _ _ rfl)) ty26 rfl rfl)) ?_
   refine DrawC.step rfl rfl rfl (Loc.of rfl fun σ' hs => R_move rfl (.no rfl) (hd_sup hs rfl) (.tm (hs.slots _ _ rfl))) ?_
   refine DrawC.step rfl rfl rfl (Loc.of rfl fun σ' hs => (by exact R_indexAddr rfl (.no rfl) (hd_sup hs rfl) (.tm (hs.slots _ _ rfl)) (.tm (hs.slots _ _ rfl)) Tryz.underlying26 ty4 (fun _ => ⟨by omega, (by exact map_get (by assumption))⟩))) ?_
   refine DrawC.step rfl rfl rfl (Loc.of rfl fun σ' hs => (by exact R_load rfl (.no rfl) (hd_sup hs rfl) (.tm (hs.slots _ _ rfl)) ty4 rfl rfl)) ?_
   refine DrawC.step rfl rfl rfl (Loc.of rfl fun σ' hs => R_neb rfl (.no rfl) (hd_sup hs rfl) (.tm (hs.slots _ _ rfl)) (.tm (hs.slots _ _ rfl)) Tryz.underlying4) ?_
   refine DrawC.fin rfl rfl ?_
   refine AWl.nil ?_
   refine AW.cond (.tm rfl) (fun h47 => ?_) (fun h47 => ?_)
   ·skip
    try simp at h47
    refine AW.seq ?_
    refine AW.le (σ' := ⟨_, [(2, _), (3, _), (5, _)], []⟩) (Le.sub0 rfl ⟨rfl, rfl, rfl, trivial⟩ trivial) ?_
    refine AW.region ?_
    refine AWl.ac rfl rfl rfl rfl rfl ?_
    refine AWl.nil ?_
    refine AW.ret ?_
    refine Res.v rfl rfl ?_
    congr 1; symm; exact decide_eq_false fun e => by subst e; rw [hx] at hy; cases hy; simp at h47
   ·skip
    try simp at h47
    refine AW.skip ?_
    refine AW.le (σ' := ⟨_, [(2, _), (3, _), (5, _)], []⟩) (Le.sub0 rfl ⟨rfl, rfl, rfl, trivial⟩ trivial) ?_
    refine AW.region ?_
    refine AWl.mv rfl rfl rfl rfl rfl ?_
    refine AWl.put (R_add rfl (.no rfl) rfl (.tm rfl) (.const rfl) (fun _ => by omega)) rfl ?_
    refine AWl.av rfl rfl rfl rfl rfl ?_
    refine AWl.nil ?_
    refine Round.next (k + 1) ⟨by omega, fun i hi => by rcases Nat.lt_or_eq_of_le (Nat.le_of_lt_succ hi) with h | rfl; exact he i h; rw [hx, hy, h47]⟩ (by omega) (Le.sub0 rfl ⟨rfl, rfl, rfl, trivial⟩ trivial)
  ·skip
   try simp at h34
   refine AW.exit ?_
   refine AW.seq ?_
   refine AW.sr ?_
   refine AWl.ac rfl rfl rfl rfl rfl ?_
   refine AWl.nil ?_
   refine AW.block ?_
   refine AW.loop (β := Nat) (fun x => x ≤ a.Next.length ∧ ∀ i, i < x → a.Next[i]? = b.Next[i]?) (fun x => ⟨_, [(6, (true, .a (.one (.t (.v (.int .i64 x)))))), (2, _), (3, _)], []⟩) (fun x => a.Next.length - x) (0) ⟨Nat.zero_le _, by simp⟩ (Le.sub0 rfl ⟨rfl, rfl, rfl, trivial⟩ trivial) ?_
   intro k1 hk1
   obtain ⟨hk1, he1⟩ := hk1
   refine AW.seq ?_
   refine AW.sr ?_
   refine AWl.mv rfl rfl rfl rfl rfl ?_
   refine AWl.put (by exact R_fieldAddr rfl (.no rfl) rfl (.tm rfl) fl36_2) rfl ?_
   refine AWl.put (by exact R_load rfl (.no rfl) rfl (.tm rfl) ty27 rfl rfl) rfl ?_
   refine AWl.put (by exact R_lenm rfl (.no rfl) rfl (.tm rfl) (by exact .t) Tryz.underlying27) rfl ?_
   refine AWl.put (R_lt rfl (.no rfl) rfl (.tm rfl) (.tm rfl)) rfl ?_
   refine AWl.nil ?_
   refine AW.cond (.tm rfl) (fun h52 => ?_) (fun h52 => ?_)
   ·skip
    try simp at h52
    obtain ⟨x1, hx1⟩ : ∃ x, a.Next[k1]? = some x := ⟨_, List.getElem?_eq_getElem h52⟩
    obtain ⟨y1, hy1⟩ : ∃ y, b.Next[k1]? = some y := ⟨_, List.getElem?_eq_getElem (by grind)⟩
    refine AW.skip ?_
    refine AW.seq ?_
    refine AW.block ?_
    refine AW.seq ?_
    refine AW.drawn 12 (nthB [[], [0], [], [0, 1, 2], [0, 1, 2, 3], [], [5], [], [5, 6, 7], [5, 6, 7, 8], [0, 1, 2, 3, 4, 5, 6, 7, 8, 9], [0, 1, 2, 3, 4, 5, 6, 7, 8, 9, 10]]) (by kernel_rfl) (by kernel_rfl) (by kernel_rfl) ?_
    refine DrawC.step rfl rfl rfl (Loc.of rfl fun σ' hs => (by exact R_fieldAddr rfl (.no rfl) (hd_sup hs rfl) (.tm (hs.slots _ _ rfl)) fl36_2)) ?_
    refine DrawC.step rfl rfl rfl (Loc.of rfl fun σ' hs => (by exact R_load rfl (.no rfl) (hd_sup hs rfl) (.tm (hs.slots _ _ rfl)) ty27 rfl rfl)) ?_
    refine DrawC.step rfl rfl rfl (Loc.of rfl fun σ' hs => R_move rfl (.no rfl) (hd_sup hs rfl) (.tm (hs.slots _ _ rfl))) ?_
    refine DrawC.step rfl rfl rfl (Loc.of rfl fun σ' hs => (by exact R_indexAddr rfl (.no rfl) (hd_sup hs rfl) (.tm (hs.slots _ _ rfl)) (.tm (hs.slots _ _ rfl)) Tryz.underlying27 ty22 (fun _ => ⟨by omega, (by exact map_get (by assumption))⟩))) ?_
    refine DrawC.step rfl rfl rfl (Loc.of rfl fun σ' hs => (by exact R_load rfl (.no rfl) (hd_sup hs rfl) (.tm (hs.slots _ _ rfl)) ty22 rfl rfl)) ?_
    refine DrawC.step rfl rfl rfl (Loc.of rfl fun σ' hs => (by exact R_fieldAddr rfl (.no rfl) (hd_sup hs rfl) (.tm (hs.slots _ _ rfl)) fl36_2)) ?_
    refine DrawC.step rfl rfl rfl (Loc.of rfl fun σ' hs => (by exact R_load rfl (.no rfl) (hd_sup hs rfl) (.tm (hs.slots _ _ rfl)) ty27 rfl rfl)) ?_
    refine DrawC.step rfl rfl rfl (Loc.of rfl fun σ' hs => R_move rfl (.no rfl) (hd_sup hs rfl) (.tm (hs.slots _ _ rfl))) ?_
    refine DrawC.step rfl rfl rfl (Loc.of rfl fun σ' hs => (by exact R_indexAddr rfl (.no rfl) (hd_sup hs rfl) (.tm (hs.slots _ _ rfl)) (.tm (hs.slots _ _ rfl)) Tryz.underlying27 ty22 (fun _ => ⟨by omega, (by exact map_get (by assumption))⟩))) ?_
    refine DrawC.step rfl rfl rfl (Loc.of rfl fun σ' hs => (by exact R_load rfl (.no rfl) (hd_sup hs rfl) (.tm (hs.slots _ _ rfl)) ty22 rfl rfl)) ?_
    refine DrawC.step rfl rfl rfl (Loc.of rfl fun σ' hs => R_callz (FnT.fr (specl2Cmp _ _)) rfl (.no rfl) (hd_sup hs rfl) (.cons (.tm (hs.slots _ _ rfl)) (readA_sup hs rfl) (.cons (.tm (hs.slots _ _ rfl)) (readA_sup hs rfl) .nil))) ?_
    refine DrawC.step rfl rfl rfl (Loc.of rfl fun σ' hs => R_ne rfl (.no rfl) (hd_sup hs rfl) (.tm (hs.slots _ _ rfl)) (.const rfl)) ?_
    refine DrawC.fin rfl rfl ?_
    refine AWl.nil ?_
    refine AW.cond (.tm rfl) (fun h66 => ?_) (fun h66 => ?_)
    ·skip
     skip
     refine AW.seq ?_
     refine AW.le (σ' := ⟨_, [(2, _), (3, _), (6, _)], []⟩) (Le.sub0 rfl ⟨rfl, rfl, rfl, trivial⟩ trivial) ?_
     refine AW.region ?_
     refine AWl.ac rfl rfl rfl rfl rfl ?_
     refine AWl.nil ?_
     refine AW.ret ?_
     refine Res.v rfl rfl ?_
     congr 1; symm; exact decide_eq_false fun e => by subst e; rw [hx1] at hy1; cases hy1; rw [cmpL_zero] at h66; simp at h66
    ·skip
     skip
     rw [cmpL_zero] at h66; simp at h66
     refine AW.skip ?_
     refine AW.le (σ' := ⟨_, [(2, _), (3, _), (6, _)], []⟩) (Le.sub0 rfl ⟨rfl, rfl, rfl, trivial⟩ trivial) ?_
     refine AW.region ?_
     refine AWl.mv rfl rfl rfl rfl rfl ?_
     refine AWl.put (R_add rfl (.no rfl) rfl (.tm rfl) (.const rfl) (fun _ => by omega)) rfl ?_
     refine AWl.av rfl rfl rfl rfl rfl ?_
     refine AWl.nil ?_
     refine Round.next (k1 + 1) ⟨by omega, fun i hi => by rcases Nat.lt_or_eq_of_le (Nat.le_of_lt_succ hi) with h | rfl; exact he1 i h; rw [hx1, hy1, h66]⟩ (by omega) (Le.sub0 rfl ⟨rfl, rfl, rfl, trivial⟩ trivial)
   ·skip
    try simp at h52
    refine AW.exit ?_
    refine AW.sr ?_
    refine AWl.ac rfl rfl rfl rfl rfl ?_
    refine AWl.nil ?_
    refine AW.ret ?_
    refine Res.v rfl rfl ?_
    congr 1; symm; exact decide_eq_true (TAutomaton.ext_iff'.2 ⟨by grind, eq_of_getElem? (by grind) fun i hi => he i (by omega), eq_of_getElem? (by grind) fun i hi => he1 i (by omega)⟩)
set_option maxRecDepth 100000 in
theorem implEqualAutomata1 (l r : List Int) : FnT Tryz.prog 209 [.one (.sl 1 (l.map cInt)), .one (.sl 1 (r.map cInt))] (.a (.one (.v (.bool (decide (l = r)))))) := by
 refine FnT.walk Tryz.func209 rfl (by kernel_rfl) Tryz.ntmps209 rfl fun hlen w0 => ?_
 try simp [cEdge, cGraph, cStep, cChange, cBatch, cAutomaton, cProductStep, cView] at hlen
 refine AW.sr ?_
 refine AWl.ac rfl rfl rfl rfl rfl ?_
 refine AWl.nil ?_
 refine AW.sr ?_
 refine AWl.mv rfl rfl rfl rfl rfl ?_
 refine AWl.mv rfl rfl rfl rfl rfl ?_
 refine AWl.put (R_callz (FnT.fr (slicesEqualInt _ _)) rfl (.no rfl) rfl (.cons (.tm rfl) rfl (.cons (.tm rfl) rfl .nil))) rfl ?_
 refine AWl.av rfl rfl rfl rfl rfl ?_
 refine AWl.nil ?_
 refine AW.ret ?_
 refine Res.v rfl rfl ?_
 rfl
set_option maxRecDepth 100000 in
theorem implEqualAutomata (a b : TAutomaton) : FnT Tryz.prog 188 [.agg (cAutomaton a), .agg (cAutomaton b)] (.a (.one (.v (.bool (decide (a = b)))))) := by
 refine FnT.walk Tryz.func188 rfl (by kernel_rfl) Tryz.ntmps188 rfl fun hlen w0 => ?_
 try simp [cEdge, cGraph, cStep, cChange, cBatch, cAutomaton, cProductStep, cView] at hlen
 refine AW.sr ?_
 refine AWl.put (R_boxz rfl rfl rfl (.tm rfl) (ts := _) (by rfl)) rfl ?_
 refine AWl.put (R_boxz rfl rfl rfl (.tm rfl) (ts := _) (by rfl)) rfl ?_
 refine AWl.ac rfl rfl rfl rfl rfl ?_
 refine AWl.nil ?_
 refine AW.sr ?_
 refine AWl.put (by exact R_fieldAddr rfl (.no rfl) rfl (.tm rfl) fl36_0) rfl ?_
 refine AWl.put (by exact R_load rfl (.no rfl) rfl (.tm rfl) ty3 rfl rfl) rfl ?_
 refine AWl.put (by exact R_fieldAddr rfl (.no rfl) rfl (.tm rfl) fl36_0) rfl ?_
 refine AWl.put (by exact R_load rfl (.no rfl) rfl (.tm rfl) ty3 rfl rfl) rfl ?_
 refine AWl.put (R_eq rfl (.no rfl) rfl (.tm rfl) (.tm rfl)) rfl ?_
 refine AWl.mv rfl rfl rfl rfl rfl ?_
 refine AWl.put (by exact R_fieldAddr rfl (by exact .yes1 rfl rfl rfl rfl) rfl (.tmp rfl (by exact fun _ => rfl)) fl36_1) rfl ?_
 refine AWl.put (by exact R_load rfl (by exact .yes1 rfl rfl rfl rfl) rfl (.tmp rfl (by exact id)) ty26 rfl rfl) rfl ?_
 refine AWl.put (by exact R_fieldAddr rfl (by exact .yes1 rfl rfl rfl rfl) rfl (.tmp rfl (by exact fun _ => rfl)) fl36_1) rfl ?_
 refine AWl.put (by exact R_load rfl (by exact .yes1 rfl rfl rfl rfl) rfl (.tmp rfl (by exact id)) ty26 rfl rfl) rfl ?_
 refine AWl.put (R_callz (FnT.fr (slicesEqualBool _ _)) rfl (by exact .yes1 rfl rfl rfl rfl) rfl (.cons (.tmp rfl (by exact id)) rfl (.cons (.tmp rfl (by exact id)) rfl .nil))) rfl ?_
 refine AWl.put (R_and rfl (.no rfl) rfl (.tm rfl) (.tmp rfl (by exact id))) rfl ?_
 refine AWl.mv rfl rfl rfl rfl rfl ?_
 refine AWl.put (by exact R_fieldAddr rfl (by exact .yes1 rfl rfl rfl rfl) rfl (.tmp rfl (by exact fun _ => rfl)) fl36_2) rfl ?_
 refine AWl.put (by exact R_load rfl (by exact .yes1 rfl rfl rfl rfl) rfl (.tmp rfl (by exact id)) ty27 rfl rfl) rfl ?_
 refine AWl.put (by exact R_fieldAddr rfl (by exact .yes1 rfl rfl rfl rfl) rfl (.tmp rfl (by exact fun _ => rfl)) fl36_2) rfl ?_
 refine AWl.put (by exact R_load rfl (by exact .yes1 rfl rfl rfl rfl) rfl (.tmp rfl (by exact id)) ty27 rfl rfl) rfl ?_
 refine AWl.put (R_callz (FnT.fr (EqualFuncIntS _ _ _ _ _ fun x y => (implEqualAutomata1 x y).fr)) rfl (by exact .yes1 rfl rfl rfl rfl) rfl (.cons (.tmp rfl (by exact id)) rfl (.cons (.tmp rfl (by exact id)) rfl (.cons .func rfl .nil)))) rfl ?_
 refine AWl.put (R_and rfl (.no rfl) rfl (.tm rfl) (.tmp rfl (by exact id))) rfl ?_
 refine AWl.av rfl rfl rfl rfl rfl ?_
 refine AWl.nil ?_
 refine AW.ret ?_
 refine Res.v rfl rfl ?_
 rw [eqB_eq]; congr 1; simp [TAutomaton.ext_iff', Bool.and_assoc]
set_option maxRecDepth 100000 in
theorem specEqualViews (a b : TView) : FnT Tryz.prog 99 [.agg (cView a), .agg (cView b)] (.a (.one (.v (.bool (decide (a = b)))))) := by
 refine FnT.walk Tryz.func99 rfl (by kernel_rfl) Tryz.ntmps99 rfl fun hlen w0 => ?_
 try simp [cEdge, cGraph, cStep, cChange, cBatch, cAutomaton, cProductStep, cView] at hlen
 refine AW.sr ?_
 refine AWl.put (R_boxz rfl rfl rfl (.tm rfl) (ts := _) (by rfl)) rfl ?_
 refine AWl.put (R_boxz rfl rfl rfl (.tm rfl) (ts := _) (by rfl)) rfl ?_
 refine AWl.ac rfl rfl rfl rfl rfl ?_
 refine AWl.nil ?_
 refine AW.sr ?_
 refine AWl.put (by exact R_fieldAddr rfl (.no rfl) rfl (.tm rfl) fl38_0) rfl ?_
 refine AWl.put (by exact R_load rfl (.no rfl) rfl (.tm rfl) ty36 rfl rfl) rfl ?_
 refine AWl.put (by exact R_fieldAddr rfl (.no rfl) rfl (.tm rfl) fl38_0) rfl ?_
 refine AWl.put (by exact R_load rfl (.no rfl) rfl (.tm rfl) ty36 rfl rfl) rfl ?_
 refine AWl.put (R_callz (FnT.fr (specEqualAutomata _ _)) rfl (.no rfl) rfl (.cons (.tm rfl) rfl (.cons (.tm rfl) rfl .nil))) rfl ?_
 refine AWl.mv rfl rfl rfl rfl rfl ?_
 refine AWl.put (by exact R_fieldAddr rfl (by exact .yes1 rfl rfl rfl rfl) rfl (.tmp rfl (by exact fun _ => rfl)) fl38_1) rfl ?_
 refine AWl.put (by exact R_load rfl (by exact .yes1 rfl rfl rfl rfl) rfl (.tmp rfl (by exact id)) ty3 rfl rfl) rfl ?_
 refine AWl.put (by exact R_fieldAddr rfl (by exact .yes1 rfl rfl rfl rfl) rfl (.tmp rfl (by exact fun _ => rfl)) fl38_1) rfl ?_
 refine AWl.put (by exact R_load rfl (by exact .yes1 rfl rfl rfl rfl) rfl (.tmp rfl (by exact id)) ty3 rfl rfl) rfl ?_
 refine AWl.put (R_eq rfl (by exact .yes1 rfl rfl rfl rfl) rfl (.tmp rfl (by exact id)) (.tmp rfl (by exact id))) rfl ?_
 refine AWl.put (R_and rfl (.no rfl) rfl (.tm rfl) (.tmp rfl (by exact id))) rfl ?_
 refine AWl.mv rfl rfl rfl rfl rfl ?_
 refine AWl.put (by exact R_fieldAddr rfl (by exact .yes1 rfl rfl rfl rfl) rfl (.tmp rfl (by exact fun _ => rfl)) fl38_2) rfl ?_
 refine AWl.put (by exact R_load rfl (by exact .yes1 rfl rfl rfl rfl) rfl (.tmp rfl (by exact id)) ty22 rfl rfl) rfl ?_
 refine AWl.put (by exact R_fieldAddr rfl (by exact .yes1 rfl rfl rfl rfl) rfl (.tmp rfl (by exact fun _ => rfl)) fl38_2) rfl ?_
 refine AWl.put (by exact R_load rfl (by exact .yes1 rfl rfl rfl rfl) rfl (.tmp rfl (by exact id)) ty22 rfl rfl) rfl ?_
 refine AWl.put (R_callz (FnT.fr (specl2Cmp _ _)) rfl (by exact .yes1 rfl rfl rfl rfl) rfl (.cons (.tmp rfl (by exact id)) rfl (.cons (.tmp rfl (by exact id)) rfl .nil))) rfl ?_
 refine AWl.put (R_eq rfl (by exact .yes1 rfl rfl rfl rfl) rfl (.tmp rfl (by exact id)) (.const rfl)) rfl ?_
 refine AWl.put (R_and rfl (.no rfl) rfl (.tm rfl) (.tmp rfl (by exact id))) rfl ?_
 refine AWl.mv rfl rfl rfl rfl rfl ?_
 refine AWl.put (by exact R_fieldAddr rfl (by exact .yes1 rfl rfl rfl rfl) rfl (.tmp rfl (by exact fun _ => rfl)) fl38_3) rfl ?_
 refine AWl.put (by exact R_load rfl (by exact .yes1 rfl rfl rfl rfl) rfl (.tmp rfl (by exact id)) ty22 rfl rfl) rfl ?_
 refine AWl.put (by exact R_fieldAddr rfl (by exact .yes1 rfl rfl rfl rfl) rfl (.tmp rfl (by exact fun _ => rfl)) fl38_3) rfl ?_
 refine AWl.put (by exact R_load rfl (by exact .yes1 rfl rfl rfl rfl) rfl (.tmp rfl (by exact id)) ty22 rfl rfl) rfl ?_
 refine AWl.put (R_callz (FnT.fr (specl2Cmp _ _)) rfl (by exact .yes1 rfl rfl rfl rfl) rfl (.cons (.tmp rfl (by exact id)) rfl (.cons (.tmp rfl (by exact id)) rfl .nil))) rfl ?_
 refine AWl.put (R_eq rfl (by exact .yes1 rfl rfl rfl rfl) rfl (.tmp rfl (by exact id)) (.const rfl)) rfl ?_
 refine AWl.put (R_and rfl (.no rfl) rfl (.tm rfl) (.tmp rfl (by exact id))) rfl ?_
 refine AWl.av rfl rfl rfl rfl rfl ?_
 refine AWl.nil ?_
 refine AW.ret ?_
 refine Res.v rfl rfl ?_
 rw [cmpL_zero, cmpL_zero]; congr 1; simp [TView.ext_iff', Bool.and_assoc]
set_option maxRecDepth 100000 in
theorem implEqualViews (a b : TView) : FnT Tryz.prog 162 [.agg (cView a), .agg (cView b)] (.a (.one (.v (.bool (decide (a = b)))))) := by
 refine FnT.walk Tryz.func162 rfl (by kernel_rfl) Tryz.ntmps162 rfl fun hlen w0 => ?_
 try simp [cEdge, cGraph, cStep, cChange, cBatch, cAutomaton, cProductStep, cView] at hlen
 refine AW.sr ?_
 refine AWl.put (R_boxz rfl rfl rfl (.tm rfl) (ts := _) (by rfl)) rfl ?_
 refine AWl.put (R_boxz rfl rfl rfl (.tm rfl) (ts := _) (by rfl)) rfl ?_
 refine AWl.ac rfl rfl rfl rfl rfl ?_
 refine AWl.nil ?_
 refine AW.sr ?_
 refine AWl.put (by exact R_fieldAddr rfl (.no rfl) rfl (.tm rfl) fl38_0) rfl ?_
 refine AWl.put (by exact R_load rfl (.no rfl) rfl (.tm rfl) ty36 rfl rfl) rfl ?_
 refine AWl.put (by exact R_fieldAddr rfl (.no rfl) rfl (.tm rfl) fl38_0) rfl ?_
 refine AWl.put (by exact R_load rfl (.no rfl) rfl (.tm rfl) ty36 rfl rfl) rfl ?_
 refine AWl.put (R_callz (FnT.fr (implEqualAutomata _ _)) rfl (.no rfl) rfl (.cons (.tm rfl) rfl (.cons (.tm rfl) rfl .nil))) rfl ?_
 refine AWl.mv rfl rfl rfl rfl rfl ?_
 refine AWl.put (by exact R_fieldAddr rfl (by exact .yes1 rfl rfl rfl rfl) rfl (.tmp rfl (by exact fun _ => rfl)) fl38_1) rfl ?_
 refine AWl.put (by exact R_load rfl (by exact .yes1 rfl rfl rfl rfl) rfl (.tmp rfl (by exact id)) ty3 rfl rfl) rfl ?_
 refine AWl.put (by exact R_fieldAddr rfl (by exact .yes1 rfl rfl rfl rfl) rfl (.tmp rfl (by exact fun _ => rfl)) fl38_1) rfl ?_
 refine AWl.put (by exact R_load rfl (by exact .yes1 rfl rfl rfl rfl) rfl (.tmp rfl (by exact id)) ty3 rfl rfl) rfl ?_
 refine AWl.put (R_eq rfl (by exact .yes1 rfl rfl rfl rfl) rfl (.tmp rfl (by exact id)) (.tmp rfl (by exact id))) rfl ?_
 refine AWl.put (R_and rfl (.no rfl) rfl (.tm rfl) (.tmp rfl (by exact id))) rfl ?_
 refine AWl.mv rfl rfl rfl rfl rfl ?_
 refine AWl.put (by exact R_fieldAddr rfl (by exact .yes1 rfl rfl rfl rfl) rfl (.tmp rfl (by exact fun _ => rfl)) fl38_2) rfl ?_
 refine AWl.put (by exact R_load rfl (by exact .yes1 rfl rfl rfl rfl) rfl (.tmp rfl (by exact id)) ty22 rfl rfl) rfl ?_
 refine AWl.put (by exact R_fieldAddr rfl (by exact .yes1 rfl rfl rfl rfl) rfl (.tmp rfl (by exact fun _ => rfl)) fl38_2) rfl ?_
 refine AWl.put (by exact R_load rfl (by exact .yes1 rfl rfl rfl rfl) rfl (.tmp rfl (by exact id)) ty22 rfl rfl) rfl ?_
 refine AWl.put (R_callz (FnT.fr (slicesEqualInt _ _)) rfl (by exact .yes1 rfl rfl rfl rfl) rfl (.cons (.tmp rfl (by exact id)) rfl (.cons (.tmp rfl (by exact id)) rfl .nil))) rfl ?_
 refine AWl.put (R_and rfl (.no rfl) rfl (.tm rfl) (.tmp rfl (by exact id))) rfl ?_
 refine AWl.mv rfl rfl rfl rfl rfl ?_
 refine AWl.put (by exact R_fieldAddr rfl (by exact .yes1 rfl rfl rfl rfl) rfl (.tmp rfl (by exact fun _ => rfl)) fl38_3) rfl ?_
 refine AWl.put (by exact R_load rfl (by exact .yes1 rfl rfl rfl rfl) rfl (.tmp rfl (by exact id)) ty22 rfl rfl) rfl ?_
 refine AWl.put (by exact R_fieldAddr rfl (by exact .yes1 rfl rfl rfl rfl) rfl (.tmp rfl (by exact fun _ => rfl)) fl38_3) rfl ?_
 refine AWl.put (by exact R_load rfl (by exact .yes1 rfl rfl rfl rfl) rfl (.tmp rfl (by exact id)) ty22 rfl rfl) rfl ?_
 refine AWl.put (R_callz (FnT.fr (slicesEqualInt _ _)) rfl (by exact .yes1 rfl rfl rfl rfl) rfl (.cons (.tmp rfl (by exact id)) rfl (.cons (.tmp rfl (by exact id)) rfl .nil))) rfl ?_
 refine AWl.put (R_and rfl (.no rfl) rfl (.tm rfl) (.tmp rfl (by exact id))) rfl ?_
 refine AWl.av rfl rfl rfl rfl rfl ?_
 refine AWl.nil ?_
 refine AW.ret ?_
 refine Res.v rfl rfl ?_
 congr 1; simp [TView.ext_iff', Bool.and_assoc]
end Go.Proofs.YtoealglkenhphaaGreat
