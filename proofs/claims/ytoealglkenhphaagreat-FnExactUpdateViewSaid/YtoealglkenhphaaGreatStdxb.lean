import Derived.Test.YtoealglkenhphaaGreatAbsTyxb
set_option linter.unusedVariables false
set_option linter.unusedSimpArgs false
namespace Go.Q
def eqB {α β : Type} (p : α → β → Bool) : List α → List β → Bool
 | [], [] => true
 | x :: l, y :: r => p x y && eqB p l r
 | _, _ => false
theorem eqB_len {α β : Type} {p : α → β → Bool} : ∀ {l : List α} {r : List β}, l.length ≠ r.length → eqB p l r = false
 | [], [], h => absurd rfl h
 | [], _ :: _, _ => rfl
 | _ :: _, [], _ => rfl
 | x :: l, y :: r, h => by rw [eqB, eqB_len (fun e => h (by simp [e])), Bool.and_false]
theorem eqB_drop {α β : Type} {p : α → β → Bool} {l : List α} {r : List β} {k : Nat} {x : α} {y : β} (hx : l[k]? = some x) (hy : r[k]? = some y) : eqB p (l.drop k) (r.drop k) = (p x y && eqB p (l.drop (k + 1)) (r.drop (k + 1))) := by
 obtain ⟨h1, rfl⟩ := List.getElem?_eq_some_iff.1 hx
 obtain ⟨h2, rfl⟩ := List.getElem?_eq_some_iff.1 hy
 rw [List.drop_eq_getElem_cons h1, List.drop_eq_getElem_cons h2, eqB]
theorem eqB_end {α β : Type} {p : α → β → Bool} {l : List α} {r : List β} {k : Nat} (h1 : l.length ≤ k) (h2 : r.length ≤ k) : eqB p (l.drop k) (r.drop k) = true := by
 rw [List.drop_eq_nil_of_le h1, List.drop_eq_nil_of_le h2, eqB]
theorem eqB_eq {α : Type} [DecidableEq α] : ∀ (l r : List α), eqB (fun x y => decide (x = y)) l r = decide (l = r)
 | [], [] => by simp [eqB]
 | [], _ :: _ => by simp [eqB]
 | _ :: _, [] => by simp [eqB]
 | x :: l, y :: r => by rw [eqB, eqB_eq l r]; by_cases h : x = y <;> simp [h]
theorem findI_mem {α : Type} [DecidableEq α] (v : α) : ∀ (l : List α) (m : Nat), decide (0 ≤ findI (fun x => decide (v = x)) l m) = decide (v ∈ l)
 | [], m => by simp [findI]
 | x :: l, m => by
  rw [findI]
  by_cases h : v = x
  ·subst h; simp
  ·rw [if_neg (by simpa using h), findI_mem v l (m + 1)]; simp [h]
end Go.Q
namespace Go.Proofs.YtoealglkenhphaaGreat
open Go.RowKit Go.Q Go.D
set_option maxRecDepth 100000 in
theorem slicesEqualInt (l r : List Int) : FnT Tryz.prog 189 [.one (.sl 1 (l.map cInt)), .one (.sl 1 (r.map cInt))] (.a (.one (.v (.bool (decide (l = r)))))) := by
 refine FnT.walk Tryz.func189 rfl (by kernel_rfl) Tryz.ntmps189 rfl fun hlen w0 => ?_
 try simp [cEdge, cGraph, cStep, cChange, cBatch, cAutomaton, cProductStep, cView] at hlen
 refine AW.sr ?_
 refine AWl.ac rfl rfl rfl rfl rfl ?_
 refine AWl.nil ?_
 refine AW.seq ?_
 refine AW.sr ?_
 refine AWl.mv rfl rfl rfl rfl rfl ?_
 refine AWl.put (by exact R_lenm rfl (.no rfl) rfl (.tm rfl) (by exact .t) Tryz.underlying22) rfl ?_
 refine AWl.mv rfl rfl rfl rfl rfl ?_
 refine AWl.put (by exact R_lenm rfl (.no rfl) rfl (.tm rfl) (by exact .t) Tryz.underlying22) rfl ?_
 refine AWl.put (R_ne rfl (.no rfl) rfl (.tm rfl) (.tm rfl)) rfl ?_
 refine AWl.nil ?_
 refine AW.cond (.tm rfl) (fun h10 => ?_) (fun h10 => ?_)
 ·skip
  try simp at h10
  refine AW.sr ?_
  refine AWl.ac rfl rfl rfl rfl rfl ?_
  refine AWl.nil ?_
  refine AW.ret ?_
  refine Res.v rfl rfl ?_
  congr 1; symm; exact decide_eq_false fun e => h10 (by rw [e])
 ·skip
  try simp at h10
  refine AW.skip ?_
  refine AW.seq ?_
  refine AW.sr ?_
  refine AWl.mv rfl rfl rfl rfl rfl ?_
  refine AWl.put (by exact R_lenm rfl (.no rfl) rfl (.tm rfl) (by exact .t) Tryz.underlying22) rfl ?_
  refine AWl.put (R_move rfl (.no rfl) rfl (.const rfl)) rfl ?_
  refine AWl.nil ?_
  refine AW.block ?_
  refine AW.loop (β := Nat) (fun x => x ≤ l.length ∧ ∀ i, i < x → l[i]? = r[i]?) (fun x => ⟨_, [(13, (true, .a (.one (.t (.v (.int .i64 x)))))), (0, _), (1, _), (12, _)], []⟩) (fun x => l.length - x) (0) ⟨Nat.zero_le _, by simp⟩ (Le.sub0 rfl ⟨rfl, rfl, rfl, rfl, trivial⟩ trivial) ?_
  intro k hk
  obtain ⟨hk, he⟩ := hk
  refine AW.sr ?_
  refine AWl.put (R_lt rfl (.no rfl) rfl (.tm rfl) (.tm rfl)) rfl ?_
  refine AWl.nil ?_
  refine AW.seq ?_
  refine AW.cond (.tm rfl) (fun h14 => ?_) (fun h14 => ?_)
  ·skip
   try simp at h14
   obtain ⟨x, hx⟩ : ∃ x, l[k]? = some x := ⟨_, List.getElem?_eq_getElem h14⟩
   obtain ⟨y, hy⟩ : ∃ y, r[k]? = some y := ⟨_, List.getElem?_eq_getElem (by omega)⟩
   refine AW.skip ?_
   refine AW.seq ?_
   refine AW.block ?_
   refine AW.sr ?_
   refine AWl.mv rfl rfl rfl rfl rfl ?_
   refine AWl.av rfl rfl rfl rfl rfl ?_
   refine AWl.nil ?_
   refine AW.seq ?_
   refine AW.drawn 9 (nthB [[], [], [0, 1], [0, 1, 2], [], [], [4, 5], [4, 5, 6], [0, 1, 2, 3, 4, 5, 6, 7]]) (by kernel_rfl) (by kernel_rfl) (by kernel_rfl) ?_
   refine DrawC.step rfl rfl rfl (Loc.of rfl fun σ' hs => R_move rfl (.no rfl) (hd_sup hs rfl) (.tm (hs.slots _ _ rfl))) ?_
   refine DrawC.step rfl rfl rfl (Loc.of rfl fun σ' hs => R_move rfl (.no rfl) (hd_sup hs rfl) (.tm (hs.slots _ _ rfl))) ?_
   refine DrawC.step rfl rfl rfl (Loc.of rfl fun σ' hs => (by exact R_indexAddr rfl (.no rfl) (hd_sup hs rfl) (.tm (hs.slots _ _ rfl)) (.tm (hs.slots _ _ rfl)) Tryz.underlying22 ty3 (fun _ => ⟨by omega, (by exact map_get (by assumption))⟩))) ?_
   refine DrawC.step rfl rfl rfl (Loc.of rfl fun σ' hs => (by exact R_load rfl (.no rfl) (hd_sup hs rfl) (.tm (hs.slots _ _ rfl)) ty3 rfl rfl)) ?_
   refine DrawC.step rfl rfl rfl (Loc.of rfl fun σ' hs => R_move rfl (.no rfl) (hd_sup hs rfl) (.tm (hs.slots _ _ rfl))) ?_
   refine DrawC.step rfl rfl rfl (Loc.of rfl fun σ' hs => R_move rfl (.no rfl) (hd_sup hs rfl) (.tm (hs.slots _ _ rfl))) ?_
   refine DrawC.step rfl rfl rfl (Loc.of rfl fun σ' hs => (by exact R_indexAddr rfl (.no rfl) (hd_sup hs rfl) (.tm (hs.slots _ _ rfl)) (.tm (hs.slots _ _ rfl)) Tryz.underlying22 ty3 (fun _ => ⟨by omega, (by exact map_get (by assumption))⟩))) ?_
   refine DrawC.step rfl rfl rfl (Loc.of rfl fun σ' hs => (by exact R_load rfl (.no rfl) (hd_sup hs rfl) (.tm (hs.slots _ _ rfl)) ty3 rfl rfl)) ?_
   refine DrawC.step rfl rfl rfl (Loc.of rfl fun σ' hs => R_ne rfl (.no rfl) (hd_sup hs rfl) (.tm (hs.slots _ _ rfl)) (.tm (hs.slots _ _ rfl))) ?_
   refine DrawC.fin rfl rfl ?_
   refine AWl.nil ?_
   refine AW.cond (.tm rfl) (fun h24 => ?_) (fun h24 => ?_)
   ·skip
    try simp at h24
    refine AW.seq ?_
    refine AW.le (σ' := ⟨_, [(0, _), (1, _), (5, _), (12, _), (13, _)], []⟩) (Le.sub0 rfl ⟨rfl, rfl, rfl, rfl, rfl, trivial⟩ trivial) ?_
    refine AW.region ?_
    refine AWl.ac rfl rfl rfl rfl rfl ?_
    refine AWl.nil ?_
    refine AW.ret ?_
    refine Res.v rfl rfl ?_
    congr 1; symm; exact decide_eq_false fun e => by rw [e] at hx; rw [hy] at hx; cases hx; simp at h24
   ·skip
    try simp at h24
    have hxy : x = y := by first | exact h24 | exact Tint.ext_iff'.2 (by simpa [and_assoc] using h24)
    refine AW.skip ?_
    refine AW.le (σ' := ⟨_, [(0, _), (1, _), (5, _), (12, _), (13, _)], []⟩) (Le.sub0 rfl ⟨rfl, rfl, rfl, rfl, rfl, trivial⟩ trivial) ?_
    refine AW.region ?_
    refine AWl.put (R_add rfl (.no rfl) rfl (.tm rfl) (.const rfl) (fun _ => by omega)) rfl ?_
    refine AWl.mv rfl rfl rfl rfl rfl ?_
    refine AWl.nil ?_
    refine Round.next (k + 1) ⟨by omega, fun i hi => by rcases Nat.lt_or_eq_of_le (Nat.le_of_lt_succ hi) with h | rfl; exact he i h; rw [hx, hy, hxy]⟩ (by omega) (Le.sub0 rfl ⟨rfl, rfl, rfl, rfl, trivial⟩ trivial)
  ·skip
   try simp at h14
   refine AW.exit ?_
   refine AW.sr ?_
   refine AWl.ac rfl rfl rfl rfl rfl ?_
   refine AWl.nil ?_
   refine AW.ret ?_
   refine Res.v rfl rfl ?_
   congr 1; symm; exact decide_eq_true (eq_of_getElem? (by omega) fun i hi => he i (by omega))
set_option maxRecDepth 100000 in
theorem slicesEqualBool (l r : List Bool) : FnT Tryz.prog 207 [.one (.sl 1 (l.map cBool)), .one (.sl 1 (r.map cBool))] (.a (.one (.v (.bool (decide (l = r)))))) := by
 refine FnT.walk Tryz.func207 rfl (by kernel_rfl) Tryz.ntmps207 rfl fun hlen w0 => ?_
 try simp [cEdge, cGraph, cStep, cChange, cBatch, cAutomaton, cProductStep, cView] at hlen
 refine AW.sr ?_
 refine AWl.ac rfl rfl rfl rfl rfl ?_
 refine AWl.nil ?_
 refine AW.seq ?_
 refine AW.sr ?_
 refine AWl.mv rfl rfl rfl rfl rfl ?_
 refine AWl.put (by exact R_lenm rfl (.no rfl) rfl (.tm rfl) (by exact .t) Tryz.underlying26) rfl ?_
 refine AWl.mv rfl rfl rfl rfl rfl ?_
 refine AWl.put (by exact R_lenm rfl (.no rfl) rfl (.tm rfl) (by exact .t) Tryz.underlying26) rfl ?_
 refine AWl.put (R_ne rfl (.no rfl) rfl (.tm rfl) (.tm rfl)) rfl ?_
 refine AWl.nil ?_
 refine AW.cond (.tm rfl) (fun h10 => ?_) (fun h10 => ?_)
 ·skip
  try simp at h10
  refine AW.sr ?_
  refine AWl.ac rfl rfl rfl rfl rfl ?_
  refine AWl.nil ?_
  refine AW.ret ?_
  refine Res.v rfl rfl ?_
  congr 1; symm; exact decide_eq_false fun e => h10 (by rw [e])
 ·skip
  try simp at h10
  refine AW.skip ?_
  refine AW.seq ?_
  refine AW.sr ?_
  refine AWl.mv rfl rfl rfl rfl rfl ?_
  refine AWl.put (by exact R_lenm rfl (.no rfl) rfl (.tm rfl) (by exact .t) Tryz.underlying26) rfl ?_
  refine AWl.put (R_move rfl (.no rfl) rfl (.const rfl)) rfl ?_
  refine AWl.nil ?_
  refine AW.block ?_
  refine AW.loop (β := Nat) (fun x => x ≤ l.length ∧ ∀ i, i < x → l[i]? = r[i]?) (fun x => ⟨_, [(13, (true, .a (.one (.t (.v (.int .i64 x)))))), (0, _), (1, _), (12, _)], []⟩) (fun x => l.length - x) (0) ⟨Nat.zero_le _, by simp⟩ (Le.sub0 rfl ⟨rfl, rfl, rfl, rfl, trivial⟩ trivial) ?_
  intro k hk
  obtain ⟨hk, he⟩ := hk
  refine AW.sr ?_
  refine AWl.put (R_lt rfl (.no rfl) rfl (.tm rfl) (.tm rfl)) rfl ?_
  refine AWl.nil ?_
  refine AW.seq ?_
  refine AW.cond (.tm rfl) (fun h14 => ?_) (fun h14 => ?_)
  ·skip
   try simp at h14
   obtain ⟨x, hx⟩ : ∃ x, l[k]? = some x := ⟨_, List.getElem?_eq_getElem h14⟩
   obtain ⟨y, hy⟩ : ∃ y, r[k]? = some y := ⟨_, List.getElem?_eq_getElem (by omega)⟩
   refine AW.skip ?_
   refine AW.seq ?_
   refine AW.block ?_
   refine AW.sr ?_
   refine AWl.mv rfl rfl rfl rfl rfl ?_
   refine AWl.av rfl rfl rfl rfl rfl ?_
   refine AWl.nil ?_
   refine AW.seq ?_
   refine AW.drawn 9 (nthB [[], [], [0, 1], [0, 1, 2], [], [], [4, 5], [4, 5, 6], [0, 1, 2, 3, 4, 5, 6, 7]]) (by kernel_rfl) (by kernel_rfl) (by kernel_rfl) ?_
   refine DrawC.step rfl rfl rfl (Loc.of rfl fun σ' hs => R_move rfl (.no rfl) (hd_sup hs rfl) (.tm (hs.slots _ _ rfl))) ?_
   refine DrawC.step rfl rfl rfl (Loc.of rfl fun σ' hs => R_move rfl (.no rfl) (hd_sup hs rfl) (.tm (hs.slots _ _ rfl))) ?_
   refine DrawC.step rfl rfl rfl (Loc.of rfl fun σ' hs => (by exact R_indexAddr rfl (.no rfl) (hd_sup hs rfl) (.tm (hs.slots _ _ rfl)) (.tm (hs.slots _ _ rfl)) Tryz.underlying26 ty4 (fun _ => ⟨by omega, (by exact map_get (by assumption))⟩))) ?_
   refine DrawC.step rfl rfl rfl (Loc.of rfl fun σ' hs => (by exact R_load rfl (.no rfl) (hd_sup hs rfl) (.tm (hs.slots _ _ rfl)) ty4 rfl rfl)) ?_
   refine DrawC.step rfl rfl rfl (Loc.of rfl fun σ' hs => R_move rfl (.no rfl) (hd_sup hs rfl) (.tm (hs.slots _ _ rfl))) ?_
   refine DrawC.step rfl rfl rfl (Loc.of rfl fun σ' hs => R_move rfl (.no rfl) (hd_sup hs rfl) (.tm (hs.slots _ _ rfl))) ?_
   refine DrawC.step rfl rfl rfl (Loc.of rfl fun σ' hs => (by exact R_indexAddr rfl (.no rfl) (hd_sup hs rfl) (.tm (hs.slots _ _ rfl)) (.tm (hs.slots _ _ rfl)) Tryz.underlying26 ty4 (fun _ => ⟨by omega, (by exact map_get (by assumption))⟩))) ?_
   refine DrawC.step rfl rfl rfl (Loc.of rfl fun σ' hs => (by exact R_load rfl (.no rfl) (hd_sup hs rfl) (.tm (hs.slots _ _ rfl)) ty4 rfl rfl)) ?_
   refine DrawC.step rfl rfl rfl (Loc.of rfl fun σ' hs => R_neb rfl (.no rfl) (hd_sup hs rfl) (.tm (hs.slots _ _ rfl)) (.tm (hs.slots _ _ rfl)) Tryz.underlying4) ?_
   refine DrawC.fin rfl rfl ?_
   refine AWl.nil ?_
   refine AW.cond (.tm rfl) (fun h24 => ?_) (fun h24 => ?_)
   ·skip
    try simp at h24
    refine AW.seq ?_
    refine AW.le (σ' := ⟨_, [(0, _), (1, _), (5, _), (12, _), (13, _)], []⟩) (Le.sub0 rfl ⟨rfl, rfl, rfl, rfl, rfl, trivial⟩ trivial) ?_
    refine AW.region ?_
    refine AWl.ac rfl rfl rfl rfl rfl ?_
    refine AWl.nil ?_
    refine AW.ret ?_
    refine Res.v rfl rfl ?_
    congr 1; symm; exact decide_eq_false fun e => by rw [e] at hx; rw [hy] at hx; cases hx; simp at h24
   ·skip
    try simp at h24
    have hxy : x = y := by first | exact h24 | exact Tbool.ext_iff'.2 (by simpa [and_assoc] using h24)
    refine AW.skip ?_
    refine AW.le (σ' := ⟨_, [(0, _), (1, _), (5, _), (12, _), (13, _)], []⟩) (Le.sub0 rfl ⟨rfl, rfl, rfl, rfl, rfl, trivial⟩ trivial) ?_
    refine AW.region ?_
    refine AWl.put (R_add rfl (.no rfl) rfl (.tm rfl) (.const rfl) (fun _ => by omega)) rfl ?_
    refine AWl.mv rfl rfl rfl rfl rfl ?_
    refine AWl.nil ?_
    refine Round.next (k + 1) ⟨by omega, fun i hi => by rcases Nat.lt_or_eq_of_le (Nat.le_of_lt_succ hi) with h | rfl; exact he i h; rw [hx, hy, hxy]⟩ (by omega) (Le.sub0 rfl ⟨rfl, rfl, rfl, rfl, trivial⟩ trivial)
  ·skip
   try simp at h14
   refine AW.exit ?_
   refine AW.sr ?_
   refine AWl.ac rfl rfl rfl rfl rfl ?_
   refine AWl.nil ?_
   refine AW.ret ?_
   refine Res.v rfl rfl ?_
   congr 1; symm; exact decide_eq_true (eq_of_getElem? (by omega) fun i hi => he i (by omega))
set_option maxRecDepth 100000 in
theorem EqualFuncIntS (l r : List (List Int)) (f : FuncId) (caps : List T) (p : (List Int) → (List Int) → Bool) (hp : ∀ x y, FrT Tryz.prog f ([.one (.sl 1 (x.map cInt)), .one (.sl 1 (y.map cInt))] ++ caps.map .one) (.a (.one (.v (.bool (p x y)))))) : FnT Tryz.prog 208 [.one (.sl 1 (l.map cIntS)), .one (.sl 1 (r.map cIntS)), .one (.fn (.func f) [] caps)] (.a (.one (.v (.bool (eqB p l r))))) := by
 refine FnT.walk Tryz.func208 rfl (by kernel_rfl) Tryz.ntmps208 rfl fun hlen w0 => ?_
 try simp [cEdge, cGraph, cStep, cChange, cBatch, cAutomaton, cProductStep, cView] at hlen
 refine AW.sr ?_
 refine AWl.ac rfl rfl rfl rfl rfl ?_
 refine AWl.nil ?_
 refine AW.seq ?_
 refine AW.sr ?_
 refine AWl.mv rfl rfl rfl rfl rfl ?_
 refine AWl.put (by exact R_lenm rfl (.no rfl) rfl (.tm rfl) (by exact .t) Tryz.underlying27) rfl ?_
 refine AWl.mv rfl rfl rfl rfl rfl ?_
 refine AWl.put (by exact R_lenm rfl (.no rfl) rfl (.tm rfl) (by exact .t) Tryz.underlying27) rfl ?_
 refine AWl.put (R_ne rfl (.no rfl) rfl (.tm rfl) (.tm rfl)) rfl ?_
 refine AWl.nil ?_
 refine AW.cond (.tm rfl) (fun h14 => ?_) (fun h14 => ?_)
 ·skip
  try simp at h14
  refine AW.sr ?_
  refine AWl.ac rfl rfl rfl rfl rfl ?_
  refine AWl.nil ?_
  refine AW.ret ?_
  refine Res.v rfl rfl ?_
  rw [eqB_len (by omega)]
 ·skip
  try simp at h14
  refine AW.skip ?_
  refine AW.seq ?_
  refine AW.sr ?_
  refine AWl.mv rfl rfl rfl rfl rfl ?_
  refine AWl.put (by exact R_lenm rfl (.no rfl) rfl (.tm rfl) (by exact .t) Tryz.underlying27) rfl ?_
  refine AWl.put (R_move rfl (.no rfl) rfl (.const rfl)) rfl ?_
  refine AWl.nil ?_
  refine AW.block ?_
  refine AW.loop (β := Nat) (fun x => x ≤ l.length ∧ eqB p l r = eqB p (l.drop x) (r.drop x)) (fun x => ⟨_, [(17, (true, .a (.one (.t (.v (.int .i64 x)))))), (1, _), (2, _), (15, _), (16, _)], []⟩) (fun x => l.length - x) (0) ⟨Nat.zero_le _, rfl⟩ (Le.sub0 rfl ⟨rfl, rfl, rfl, rfl, rfl, trivial⟩ trivial) ?_
  intro k hk
  obtain ⟨hk, he⟩ := hk
  refine AW.sr ?_
  refine AWl.put (R_lt rfl (.no rfl) rfl (.tm rfl) (.tm rfl)) rfl ?_
  refine AWl.nil ?_
  refine AW.seq ?_
  refine AW.cond (.tm rfl) (fun hlt => ?_) (fun hlt => ?_)
  ·skip
   try simp at hlt
   obtain ⟨x, hx⟩ : ∃ x, l[k]? = some x := ⟨_, List.getElem?_eq_getElem hlt⟩
   obtain ⟨y, hy⟩ : ∃ y, r[k]? = some y := ⟨_, List.getElem?_eq_getElem (by omega)⟩
   rw [eqB_drop hx hy] at he
   refine AW.skip ?_
   refine AW.seq ?_
   refine AW.block ?_
   refine AW.sr ?_
   refine AWl.mv rfl rfl rfl rfl rfl ?_
   refine AWl.put ((by exact R_indexAddr rfl (.no rfl) rfl (.tm rfl) (.tm rfl) Tryz.underlying27 ty22 (fun _ => ⟨by omega, (by exact map_get (by assumption))⟩))) rfl ?_
   refine AWl.put (by exact R_load rfl (.no rfl) rfl (.tm rfl) ty22 rfl rfl) rfl ?_
   refine AWl.av rfl rfl rfl rfl rfl ?_
   refine AWl.av rfl rfl rfl rfl rfl ?_
   refine AWl.nil ?_
   refine AW.sr ?_
   refine AWl.mv rfl rfl rfl rfl rfl ?_
   refine AWl.mv rfl rfl rfl rfl rfl ?_
   refine AWl.put ((by exact R_indexAddr rfl (.no rfl) rfl (.tm rfl) (.tm rfl) Tryz.underlying27 ty22 (fun _ => ⟨by omega, (by exact map_get (by assumption))⟩))) rfl ?_
   refine AWl.put (by exact R_load rfl (.no rfl) rfl (.tm rfl) ty22 rfl rfl) rfl ?_
   refine AWl.av rfl rfl rfl rfl rfl ?_
   refine AWl.nil ?_
   refine AW.seq ?_
   refine AW.le (σ' := ⟨_, [(1, _), (2, _), (7, _), (8, _), (9, _), (15, _), (16, _), (17, _)], []⟩) (Le.sub0 rfl ⟨rfl, rfl, rfl, rfl, rfl, rfl, rfl, rfl, trivial⟩ trivial) ?_
   refine AW.region ?_
   refine AWl.mv rfl rfl rfl rfl rfl ?_
   refine AWl.mv rfl rfl rfl rfl rfl ?_
   refine AWl.mv rfl rfl rfl rfl rfl ?_
   refine AWl.put (R_callv rfl (.no rfl) rfl (.tm rfl) (.cons (.tm rfl) rfl (.cons (.tm rfl) rfl .nil)) (hp _ _)) rfl ?_
   refine AWl.put (R_not rfl (.no rfl) rfl (.tm rfl)) rfl ?_
   refine AWl.nil ?_
   refine AW.cond (.tm rfl) (fun h30 => ?_) (fun h30 => ?_)
   ·skip
    try simp at h30
    refine AW.sr ?_
    refine AWl.ac rfl rfl rfl rfl rfl ?_
    refine AWl.nil ?_
    refine AW.ret ?_
    refine Res.v rfl rfl ?_
    rw [he]; simp [h30]
   ·skip
    try simp at h30
    refine AW.skip ?_
    refine AW.region ?_
    refine AWl.put (R_add rfl (.no rfl) rfl (.tm rfl) (.const rfl) (fun _ => by omega)) rfl ?_
    refine AWl.mv rfl rfl rfl rfl rfl ?_
    refine AWl.nil ?_
    refine Round.next (k + 1) ⟨by omega, by rw [he]; simp [h30]⟩ (by omega) (Le.sub0 rfl ⟨rfl, rfl, rfl, rfl, rfl, trivial⟩ trivial)
  ·skip
   try simp at hlt
   refine AW.exit ?_
   refine AW.sr ?_
   refine AWl.ac rfl rfl rfl rfl rfl ?_
   refine AWl.nil ?_
   refine AW.ret ?_
   refine Res.v rfl rfl ?_
   rw [he, eqB_end (by omega) (by omega)]
set_option maxRecDepth 100000 in
theorem slicesIndexEdge (l : List TEdge) (v : TEdge) : FnT Tryz.prog 167 [.one (.sl 4 (l.map cEdge)), .agg (cEdge v)] (.a (.one (.v (.int .i64 (findI (fun x => decide (v = x)) l 0))))) := by
 refine FnT.walk Tryz.func167 rfl (by kernel_rfl) Tryz.ntmps167 rfl fun hlen w0 => ?_
 try simp [cEdge, cGraph, cStep, cChange, cBatch, cAutomaton, cProductStep, cView] at hlen
 refine AW.sr ?_
 refine AWl.put (R_boxz rfl rfl rfl (.tm rfl) (ts := _) (by rfl)) rfl ?_
 refine AWl.ac rfl rfl rfl rfl rfl ?_
 refine AWl.nil ?_
 refine AW.seq ?_
 refine AW.sr ?_
 refine AWl.mv rfl rfl rfl rfl rfl ?_
 refine AWl.put (by exact R_lenm rfl (.no rfl) rfl (.tm rfl) (by exact .t) Tryz.underlying41) rfl ?_
 refine AWl.put (R_move rfl (.no rfl) rfl (.const rfl)) rfl ?_
 refine AWl.nil ?_
 refine AW.block ?_
 refine AW.loop (β := Nat) (fun x => x ≤ (l).length ∧ ∀ j y, j < x → (l)[j]? = some y → (fun x => !decide (v = x)) y = true) (fun x => ⟨_, [(8, (true, .a (.one (.t (.v (.int .i64 (x : Nat))))))), (0, _), (3, _), (7, _)], []⟩) (fun x => (l).length - x) (0) ⟨Nat.zero_le _, fun j y hj => absurd hj (Nat.not_lt_zero j)⟩ (Le.sub0 rfl ⟨rfl, rfl, rfl, rfl, trivial⟩ trivial) ?_
 intro k hk
 refine AW.sr ?_
 refine AWl.put (R_lt rfl (.no rfl) rfl (.tm rfl) (.tm rfl)) rfl ?_
 refine AWl.nil ?_
 refine AW.seq ?_
 refine AW.cond (.tm rfl) (fun hlt => ?_) (fun hlt => ?_)
 ·skip
  try simp at hlt
  obtain ⟨x, hx⟩ : ∃ ξ, (l)[k]? = some ξ := ⟨_, List.getElem?_eq_getElem (by exact hlt)⟩
  refine AW.skip ?_
  refine AW.seq ?_
  refine AW.block ?_
  refine AW.sr ?_
  refine AWl.mv rfl rfl rfl rfl rfl ?_
  refine AWl.av rfl rfl rfl rfl rfl ?_
  refine AWl.nil ?_
  refine AW.seq ?_
  refine AW.drawn 6 (nthB [[], [], [], [1, 2], [1, 2, 3], [0, 1, 2, 3, 4]]) (by kernel_rfl) (by kernel_rfl) (by kernel_rfl) ?_
  refine DrawC.step rfl rfl rfl (Loc.of rfl fun σ' hs => (by exact R_load rfl (.no rfl) (hd_sup hs rfl) (.tm (hs.slots _ _ rfl)) ty46 rfl rfl)) ?_
  refine DrawC.step rfl rfl rfl (Loc.of rfl fun σ' hs => R_move rfl (.no rfl) (hd_sup hs rfl) (.tm (hs.slots _ _ rfl))) ?_
  refine DrawC.step rfl rfl rfl (Loc.of rfl fun σ' hs => R_move rfl (.no rfl) (hd_sup hs rfl) (.tm (hs.slots _ _ rfl))) ?_
  refine DrawC.step rfl rfl rfl (Loc.of rfl fun σ' hs => (by exact R_indexAddr rfl (.no rfl) (hd_sup hs rfl) (.tm (hs.slots _ _ rfl)) (.tm (hs.slots _ _ rfl)) Tryz.underlying41 ty46 (fun _ => ⟨by omega, (by exact map_get (by assumption))⟩))) ?_
  refine DrawC.step rfl rfl rfl (Loc.of rfl fun σ' hs => (by exact R_load rfl (.no rfl) (hd_sup hs rfl) (.tm (hs.slots _ _ rfl)) ty46 rfl rfl)) ?_
  refine DrawC.step rfl rfl rfl (Loc.of rfl fun σ' hs => R_eqs rfl (.no rfl) (hd_sup hs rfl) (.tm (hs.slots _ _ rfl)) (.tm (hs.slots _ _ rfl)) rfl rfl (by kernel_rfl) (eqS46 _ _ _ _ _ _ _ _)) ?_
  refine DrawC.fin rfl rfl ?_
  refine AWl.nil ?_
  refine AW.cond (.tm rfl) (fun h16 => ?_) (fun h16 => ?_)
  ·skip
   try simp at h16
   refine AW.seq ?_
   refine AW.le (σ' := ⟨_, [(0, _), (3, _), (5, _), (7, _), (8, _)], []⟩) (Le.sub0 rfl ⟨rfl, rfl, rfl, rfl, rfl, trivial⟩ trivial) ?_
   refine AW.region ?_
   refine AWl.mv rfl rfl rfl rfl rfl ?_
   refine AWl.av rfl rfl rfl rfl rfl ?_
   refine AWl.nil ?_
   refine AW.ret ?_
   refine Res.v rfl rfl ?_
   rw [findI_at (k := k) hk.2 hx (by grind [TEdge.ext_iff'])]; simp
  ·skip
   try simp at h16
   refine AW.skip ?_
   refine AW.le (σ' := ⟨_, [(0, _), (3, _), (5, _), (7, _), (8, _)], []⟩) (Le.sub0 rfl ⟨rfl, rfl, rfl, rfl, rfl, trivial⟩ trivial) ?_
   refine AW.region ?_
   refine AWl.put (R_add rfl (.no rfl) rfl (.tm rfl) (.const rfl) (fun _ => by omega)) rfl ?_
   refine AWl.mv rfl rfl rfl rfl rfl ?_
   refine AWl.nil ?_
   refine Round.next (k + 1) ⟨by omega, each_succ hk.2 hx (by grind [TEdge.ext_iff'])⟩ (by omega) (Le.sub0 rfl ⟨rfl, rfl, rfl, rfl, trivial⟩ trivial)
 ·skip
  try simp at hlt
  refine AW.exit ?_
  refine AW.sr ?_
  refine AWl.ac rfl rfl rfl rfl rfl ?_
  refine AWl.nil ?_
  refine AW.ret ?_
  refine Res.v rfl rfl ?_
  rw [findI_none hk.2 (by omega)]
set_option maxRecDepth 100000 in
theorem slicesContainsEdge (l : List TEdge) (v : TEdge) : FnT Tryz.prog 118 [.one (.sl 4 (l.map cEdge)), .agg (cEdge v)] (.a (.one (.v (.bool (decide (v ∈ l)))))) := by
 refine FnT.walk Tryz.func118 rfl (by kernel_rfl) Tryz.ntmps118 rfl fun hlen w0 => ?_
 try simp [cEdge, cGraph, cStep, cChange, cBatch, cAutomaton, cProductStep, cView] at hlen
 refine AW.sr ?_
 refine AWl.put (R_boxz rfl rfl rfl (.tm rfl) (ts := _) (by rfl)) rfl ?_
 refine AWl.ac rfl rfl rfl rfl rfl ?_
 refine AWl.nil ?_
 refine AW.sr ?_
 refine AWl.mv rfl rfl rfl rfl rfl ?_
 refine AWl.put (by exact R_load rfl (.no rfl) rfl (.tm rfl) ty46 rfl rfl) rfl ?_
 refine AWl.put (R_callz (FnT.fr (slicesIndexEdge _ _)) rfl (.no rfl) rfl (.cons (.tm rfl) rfl (.cons (.tm rfl) rfl .nil))) rfl ?_
 refine AWl.put (R_ge rfl (.no rfl) rfl (.tm rfl) (.const rfl)) rfl ?_
 refine AWl.av rfl rfl rfl rfl rfl ?_
 refine AWl.nil ?_
 refine AW.ret ?_
 refine Res.v rfl rfl ?_
 rw [findI_mem]
set_option maxRecDepth 100000 in
theorem IndexFuncEdge (l : List TEdge) (f : FuncId) (caps : List T) (p : TEdge → Bool) (hp : ∀ e, FrT Tryz.prog f ([.agg (cEdge e)] ++ caps.map .one) (.a (.one (.v (.bool (p e)))))) : FnT Tryz.prog 158 [.one (.sl 4 (l.map cEdge)), .one (.fn (.func f) [] caps)] (.a (.one (.v (.int .i64 (findI p l 0))))) := by
 refine FnT.walk Tryz.func158 rfl (by kernel_rfl) Tryz.ntmps158 rfl fun hlen w0 => ?_
 try simp [cEdge, cGraph, cStep, cChange, cBatch, cAutomaton, cProductStep, cView] at hlen
 refine AW.sr ?_
 refine AWl.ac rfl rfl rfl rfl rfl ?_
 refine AWl.nil ?_
 refine AW.seq ?_
 refine AW.sr ?_
 refine AWl.mv rfl rfl rfl rfl rfl ?_
 refine AWl.put (by exact R_lenm rfl (.no rfl) rfl (.tm rfl) (by exact .t) Tryz.underlying41) rfl ?_
 refine AWl.put (R_move rfl (.no rfl) rfl (.const rfl)) rfl ?_
 refine AWl.nil ?_
 refine AW.block ?_
 refine AW.loop (β := Nat) (fun x => x ≤ (l).length ∧ ∀ j y, j < x → (l)[j]? = some y → (fun e => !p e) y = true) (fun x => ⟨_, [(8, (true, .a (.one (.t (.v (.int .i64 (x : Nat))))))), (0, _), (1, _), (7, _)], []⟩) (fun x => (l).length - x) (0) ⟨Nat.zero_le _, fun j y hj => absurd hj (Nat.not_lt_zero j)⟩ (Le.sub0 rfl ⟨rfl, rfl, rfl, rfl, trivial⟩ trivial) ?_
 intro k hk
 refine AW.sr ?_
 refine AWl.put (R_lt rfl (.no rfl) rfl (.tm rfl) (.tm rfl)) rfl ?_
 refine AWl.nil ?_
 refine AW.seq ?_
 refine AW.cond (.tm rfl) (fun hlt => ?_) (fun hlt => ?_)
 ·skip
  try simp at hlt
  obtain ⟨x, hx⟩ : ∃ ξ, (l)[k]? = some ξ := ⟨_, List.getElem?_eq_getElem (by exact hlt)⟩
  refine AW.skip ?_
  refine AW.seq ?_
  refine AW.block ?_
  refine AW.sr ?_
  refine AWl.mv rfl rfl rfl rfl rfl ?_
  refine AWl.av rfl rfl rfl rfl rfl ?_
  refine AWl.nil ?_
  refine AW.sr ?_
  refine AWl.mv rfl rfl rfl rfl rfl ?_
  refine AWl.mv rfl rfl rfl rfl rfl ?_
  refine AWl.mv rfl rfl rfl rfl rfl ?_
  refine AWl.put ((by exact R_indexAddr rfl (.no rfl) rfl (.tm rfl) (.tm rfl) Tryz.underlying41 ty46 (fun _ => ⟨by omega, (by exact map_get (by assumption))⟩))) rfl ?_
  refine AWl.put (by exact R_load rfl (.no rfl) rfl (.tm rfl) ty46 rfl rfl) rfl ?_
  refine AWl.put (R_callv rfl (.no rfl) rfl (.tm rfl) (.cons (.tm rfl) rfl .nil) (hp _)) rfl ?_
  refine AWl.nil ?_
  refine AW.cond (.tm rfl) (fun h16 => ?_) (fun h16 => ?_)
  ·skip
   try simp at h16
   refine AW.seq ?_
   refine AW.le (σ' := ⟨_, [(0, _), (1, _), (5, _), (7, _), (8, _)], []⟩) (Le.sub0 rfl ⟨rfl, rfl, rfl, rfl, rfl, trivial⟩ trivial) ?_
   refine AW.region ?_
   refine AWl.mv rfl rfl rfl rfl rfl ?_
   refine AWl.av rfl rfl rfl rfl rfl ?_
   refine AWl.nil ?_
   refine AW.ret ?_
   refine Res.v rfl rfl ?_
   rw [findI_at (k := k) hk.2 hx h16]; simp
  ·skip
   try simp at h16
   refine AW.skip ?_
   refine AW.le (σ' := ⟨_, [(0, _), (1, _), (5, _), (7, _), (8, _)], []⟩) (Le.sub0 rfl ⟨rfl, rfl, rfl, rfl, rfl, trivial⟩ trivial) ?_
   refine AW.region ?_
   refine AWl.put (R_add rfl (.no rfl) rfl (.tm rfl) (.const rfl) (fun _ => by omega)) rfl ?_
   refine AWl.mv rfl rfl rfl rfl rfl ?_
   refine AWl.nil ?_
   refine Round.next (k + 1) ⟨by omega, each_succ hk.2 hx (by simp [h16])⟩ (by omega) (Le.sub0 rfl ⟨rfl, rfl, rfl, rfl, trivial⟩ trivial)
 ·skip
  try simp at hlt
  refine AW.exit ?_
  refine AW.sr ?_
  refine AWl.ac rfl rfl rfl rfl rfl ?_
  refine AWl.nil ?_
  refine AW.ret ?_
  refine Res.v rfl rfl ?_
  rw [findI_none hk.2 (by omega)]
end Go.Proofs.YtoealglkenhphaaGreat
