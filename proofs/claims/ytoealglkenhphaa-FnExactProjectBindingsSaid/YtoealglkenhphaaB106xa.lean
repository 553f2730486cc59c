/- slices.CompactFunc at rows of ints. -/
import Derived.Test.YtoealglkenhphaaB16xa
import Derived.Test.YtoealglkenhphaaAbsZxa
set_option linter.unusedVariables false
set_option linter.unusedSimpArgs false
set_option maxHeartbeats 1000000
set_option maxRecDepth 100000
namespace Go.Q
/-- What is not like the one before it. -/
def compA (p : Nat → Nat → Bool) : Nat → List Nat → List Nat
  | _, [] => []
  | y, x :: l => if p x y = true then compA p x l else x :: compA p x l
def compK (p : Nat → Nat → Bool) : List Nat → List Nat
  | [] => []
  | x :: l => x :: compA p x l
theorem compA_snoc (p : Nat → Nat → Bool) (a b : Nat) : ∀ (l : List Nat) (y : Nat), compA p y (l ++ [a, b]) = compA p y (l ++ [a]) ++ if p b a = true then [] else [b]
  | [], y => by
    simp only [List.nil_append, compA]
    split <;> split <;> simp
  | x :: l, y => by
    simp only [List.cons_append, compA]
    split
    · exact compA_snoc p a b l x
    · rw [compA_snoc p a b l x, List.cons_append]
theorem compK_snoc (p : Nat → Nat → Bool) (a b : Nat) : ∀ (l : List Nat), compK p (l ++ [a, b]) = compK p (l ++ [a]) ++ if p b a = true then [] else [b]
  | [] => by
    simp only [List.nil_append, compK, compA]
    split <;> simp
  | x :: l => by simp only [List.cons_append, compK, compA_snoc]
theorem compK_take (p : Nat → Nat → Bool) {l : List Nat} {m x y : Nat} (hm : 1 ≤ m) (hx : l[m]? = some x) (hy : l[m - 1]? = some y) : compK p (l.take (m + 1)) = compK p (l.take m) ++ if p x y = true then [] else [x] := by
  obtain ⟨m', rfl⟩ : ∃ m', m = m' + 1 := ⟨m - 1, by omega⟩
  rw [take_at hx, take_at (l := l) (i := m') (x := y) (by simpa using hy), List.append_assoc]
  exact compK_snoc p y x _
theorem compK_id (p : Nat → Nat → Bool) {l : List Nat} : ∀ {k : Nat}, k ≤ l.length → (∀ j x y, j + 1 < k → l[j + 1]? = some x → l[j]? = some y → p x y = false) → compK p (l.take k) = l.take k
  | 0, _, _ => by simp [compK]
  | 1, hk, _ => by
    match l, hk with
    | x :: l, _ => simp [compK, compA]
  | k + 2, hk, h => by
    have hx : l[k + 1]? = some (l[k + 1]'(by omega)) := List.getElem?_eq_getElem _
    have hy : l[k]? = some (l[k]'(by omega)) := List.getElem?_eq_getElem _
    rw [compK_take p (m := k + 1) (by omega) hx hy, compK_id p (k := k + 1) (by omega) (fun j x y hj => h j x y (by omega)), h k _ _ (by omega) hx hy, if_neg (by simp), ← take_at hx]
theorem compK_all (p : Nat → Nat → Bool) {l : List Nat} {k : Nat} (hk : l.length ≤ k) (h : ∀ j x y, j + 1 < k → l[j + 1]? = some x → l[j]? = some y → p x y = false) : compK p l = l := by
  have := compK_id p (l := l) (k := l.length) (Nat.le_refl _) fun j x y hj => h j x y (by omega)
  rwa [List.take_of_length_le (Nat.le_refl _)] at this
theorem compA_sub (p : Nat → Nat → Bool) : ∀ (l : List Nat) (y : Nat), (compA p y l).Sublist l
  | [], _ => List.Sublist.refl _
  | x :: l, y => by
    rw [compA]
    split
    · exact (compA_sub p l x).cons x
    · exact (compA_sub p l x).cons_cons x
theorem compK_sub (p : Nat → Nat → Bool) : ∀ (l : List Nat), (compK p l).Sublist l
  | [] => List.Sublist.refl _
  | x :: l => (compA_sub p l x).cons_cons x
theorem compA_map {α : Type} [DecidableEq α] (f : Nat → α) (p : Nat → Nat → Bool) : ∀ (l : List Nat) (x : Nat), (∀ a ∈ x :: l, ∀ b ∈ x :: l, p a b = decide (f a = f b)) → (x :: compA p x l).map f = compactL ((x :: l).map f)
  | [], x, _ => by simp [compA, compactL]
  | y :: l, x, hp => by
    have ih := compA_map f p l y fun a ha b hb => hp a (by simp [List.mem_cons.1 ha]) b (by simp [List.mem_cons.1 hb])
    simp only [List.map_cons, compA, compactL] at ih ⊢
    rw [hp y (by simp) x (by simp)]
    by_cases h : f x = f y
    · rw [if_pos (by simp [h]), if_pos h, ← ih, h]
    · rw [if_neg (by simpa using fun e => h (Eq.symm e)), if_neg h, ← ih, List.map_cons]
theorem compK_map {α : Type} [DecidableEq α] (f : Nat → α) (p : Nat → Nat → Bool) : ∀ (l : List Nat), (∀ a ∈ l, ∀ b ∈ l, p a b = decide (f a = f b)) → (compK p l).map f = compactL (l.map f)
  | [], _ => rfl
  | x :: l, h => compA_map f p l x h
def cH (hd : Nat → Value) (i : Nat) : List T := [.v (hd i)]
end Go.Q
namespace Go.Proofs.Ytoealglkenhphaa
open Go.RowKit Go.Q Go.D
theorem CompactRows (l : List Nat) (hd : Nat → Value) (K : List (Nat × Obj)) (f : FuncId) (caps : List T) (p : Nat → Nat → Bool) (hp : ∀ x y, x ∈ l → y ∈ l → FrTk Try.prog f K ([.one (.v (hd x)), .one (.v (hd y))] ++ caps.map .one) (.a (.one (.v (.bool (p x y)))))) (hz : l.length ≤ 1099511627776) : FnCk Try.prog 35 K ((true, .one (.sl 1 (l.map (cH hd)))) :: rdAll [.one (.fn (.func f) [] caps)]) (.a (.one (.sl 1 ((compK p l).map (cH hd))))) := by
  refine FnCk.walk Try.func35 rfl (by kernel_rfl) Try.ntmps35 rfl (by rfl) fun w0 => ?_
  refine AW.le (σ' := ⟨_, [(0, _), (1, _)], [(1000, _), (999999, _)]⟩) (Le.sub0 rfl ⟨rfl, rfl, trivial⟩ ⟨rfl, rfl, trivial⟩) ?_
  try simp [cPair, cToken, cExpr, cEdge, cGraph, cStep, cWalk, cChange, cBatch, cHistory, cPositions, cAutomaton, cProductStep, cPathAtom, cConjunction, cView, cDelta, cRegistered, cRegistry] at hlen
  have hlen : True := trivial
  refine AW.seq ?_
  refine AW.region ?_
  refine AWl.put (R_assign rfl (.no rfl) rfl (.const rfl)) rfl ?_
  refine AWl.nilS (i := 4) 20001 1 rfl rfl ?_
  refine AWl.nil ?_
  refine AW.seq ?_
  refine AW.seq ?_
  refine AW.region ?_
  refine AWl.put (R_move rfl (.no rfl) rfl (.tmp rfl fun _ => rfl)) rfl ?_
  refine AWl.put ((by first | exact R_lenm rfl (.no rfl) rfl (.tmp rfl fun _ => rfl) (by first | exact .t | exact .rf rfl | exact .vw | exact .nil) Try.underlying22 | exact R_len rfl (.no rfl) rfl (.tmp rfl fun _ => rfl) (by first | exact .t | exact .rf rfl | exact .vw | exact .nil) Try.underlying22 | exact R_len_tl rfl (.no rfl) rfl (.tmp rfl fun _ => rfl) rfl Try.underlying22)) rfl ?_
  refine AWl.put (R_lt rfl (.no rfl) rfl (.tmp rfl fun _ => rfl) (.const rfl)) rfl ?_
  refine AWl.nil ?_
  refine AW.cond (.tmp rfl fun _ => rfl) (fun h10 => ?_) (fun h10 => ?_)
  · skip
    try simp at h10
    refine AW.seq ?_
    refine AW.region ?_
    refine AWl.put (R_move rfl (.no rfl) rfl (.tmp rfl fun _ => rfl)) rfl ?_
    refine AWl.put (R_assign rfl (.no rfl) rfl (.tmp rfl fun _ => rfl)) rfl ?_
    refine AWl.nil ?_
    refine AW.ret ?_
    refine Res.one rfl (.tmp rfl .nil) rfl ?_
    rw [compK_all p (k := 1) (by omega) (fun j x y hj => by omega)]; rfl
  · skip
    try simp at h10
    refine AW.skip ?_
    refine AW.seq ?_
    refine AW.seq ?_
    refine AW.region ?_
    refine AWl.put (R_assign rfl (.no rfl) rfl (.const rfl)) rfl ?_
    refine AWl.nil ?_
    refine AW.block ?_
    refine AW.loop1 (fun (k : Nat) => ((1 ≤ k ∧ k ≤ l.length) ∧ ∀ j x y, j + 1 < k → l[j + 1]? = some x → l[j]? = some y → p x y = false) ∧ True) (fun (k : Nat) => ⟨_, [(5, (true, .a (.one (.t (.v (.int .i64 (k : Nat))))))), (0, _), (1, _)], [(1000, .row 1 (l.map (cH hd))), (999999, .kept K)]⟩) (fun (k : Nat) => l.length - k) (1) ⟨⟨⟨Nat.le_refl _, by omega⟩, fun j x y hj => by omega⟩, trivial⟩ (Le.sub0 rfl ⟨rfl, rfl, rfl, trivial⟩ ⟨rfl, rfl, trivial⟩) ?_
    rintro k ⟨hk, he⟩
    refine AW.seq ?_
    refine AW.seq ?_
    refine AW.region ?_
    refine AWl.put (R_move rfl (.no rfl) rfl (.tmp rfl fun _ => rfl)) rfl ?_
    refine AWl.put (R_move rfl (.no rfl) rfl (.tmp rfl fun _ => rfl)) rfl ?_
    refine AWl.put ((by first | exact R_lenm rfl (.no rfl) rfl (.tmp rfl fun _ => rfl) (by first | exact .t | exact .rf rfl | exact .vw | exact .nil) Try.underlying22 | exact R_len rfl (.no rfl) rfl (.tmp rfl fun _ => rfl) (by first | exact .t | exact .rf rfl | exact .vw | exact .nil) Try.underlying22 | exact R_len_tl rfl (.no rfl) rfl (.tmp rfl fun _ => rfl) rfl Try.underlying22)) rfl ?_
    refine AWl.put (R_lt rfl (.no rfl) rfl (.tmp rfl fun _ => rfl) (.tmp rfl fun _ => rfl)) rfl ?_
    refine AWl.nil ?_
    refine AW.cond (.tmp rfl fun _ => rfl) (fun h15 => ?_) (fun h15 => ?_)
    · skip
      try simp at h15
      obtain ⟨x, hx⟩ : ∃ ξ, l[k]? = some ξ := ⟨_, List.getElem?_eq_getElem (by omega)⟩
      obtain ⟨y, hy⟩ : ∃ ξ, l[k - 1]? = some ξ := ⟨_, List.getElem?_eq_getElem (by omega)⟩
      have hy2 : l[((k : Int) - 1).toNat]? = some y := by (rw [show ((k : Int) - 1).toNat = k - 1 by omega]; exact hy)
      refine AW.skip ?_
      refine AW.seq ?_
      refine AW.block ?_
      refine AW.seq ?_
      refine AW.drawn 11 (nthB [[], [], [], [1, 2], [1, 2, 3], [], [], [6], [5, 6, 7], [5, 6, 7, 8], [0, 1, 2, 3, 4, 5, 6, 7, 8, 9]]) (by kernel_rfl) (by kernel_rfl) (by kernel_rfl) ?_
      refine DrawC.step rfl rfl rfl (Loc.of rfl fun σ' hs => R_move rfl (.no rfl) (hd_sup hs rfl) (.tmp (hs.slots _ _ rfl) fun _ => rfl)) ?_
      refine DrawC.step rfl rfl rfl (Loc.of rfl fun σ' hs => R_move rfl (.no rfl) (hd_sup hs rfl) (.tmp (hs.slots _ _ rfl) fun _ => rfl)) ?_
      refine DrawC.step rfl rfl rfl (Loc.of rfl fun σ' hs => R_move rfl (.no rfl) (hd_sup hs rfl) (.tmp (hs.slots _ _ rfl) fun _ => rfl)) ?_
      refine DrawC.step rfl rfl rfl (Loc.of rfl fun σ' hs => (by first | exact R_indexAddr rfl (.no rfl) (hd_sup hs rfl) (.tmp (hs.slots _ _ rfl) fun _ => rfl) (.tmp (hs.slots _ _ rfl) fun _ => rfl) Try.underlying22 ty23 (fun _ => ⟨by omega, (by first | exact map_get hx | exact map_get hy2 | exact map_get hx2R | exact map_get hy2R)⟩) | exact R_indexAddr_vw rfl (.no rfl) (hd_sup hs rfl) (.tmp (hs.slots _ _ rfl) fun _ => rfl) (.tmp (hs.slots _ _ rfl) fun _ => rfl) Try.underlying22 ty23 (fun _ => ⟨by omega, (by first | exact map_get hx | exact map_get hy2 | exact map_get hx2R | exact map_get hy2R)⟩) | exact R_indexAddr_rf rfl (.no rfl) (hd_sup hs rfl) (.tmp (hs.slots _ _ rfl) fun _ => rfl) (hs.res _ _ rfl) (.tmp (hs.slots _ _ rfl) fun _ => rfl) Try.underlying22 ty23 (fun _ => ⟨by omega, (by first | exact map_get hx | exact map_get hy2 | exact map_get hx2R | exact map_get hy2R)⟩) | exact R_indexAddr_tl rfl (.no rfl) (hd_sup hs rfl) (.tmp (hs.slots _ _ rfl) fun _ => rfl) (hs.res _ _ rfl) (.tmp (hs.slots _ _ rfl) fun _ => rfl) Try.underlying22 ty23 (fun _ => ⟨by omega, (by first | exact map_get hx | exact map_get hy2 | exact map_get hx2R | exact map_get hy2R)⟩))) ?_
      refine DrawC.step rfl rfl rfl (Loc.of rfl fun σ' hs => (by first | exact R_load rfl (.no rfl) (hd_sup hs rfl) (.tmp (hs.slots _ _ rfl) fun _ => rfl) ty23 rfl rfl | exact R_load_pp rfl (.no rfl) (hd_sup hs rfl) (.tmp (hs.slots _ _ rfl) fun _ => rfl) (hs.res _ _ rfl) ty23 rfl rfl | exact R_load_vw rfl (.no rfl) (hd_sup hs rfl) (.tmp (hs.slots _ _ rfl) fun _ => rfl) ty23 rfl rfl | exact R_load_pr rfl (.no rfl) (hd_sup hs rfl) (.tmp (hs.slots _ _ rfl) fun _ => rfl) (hs.res _ _ rfl) (by first | exact map_get hx | exact map_get hy2 | exact map_get hx2R | exact map_get hy2R) ty23 rfl rfl)) ?_
      refine DrawC.step rfl rfl rfl (Loc.of rfl fun σ' hs => R_move rfl (.no rfl) (hd_sup hs rfl) (.tmp (hs.slots _ _ rfl) fun _ => rfl)) ?_
      refine DrawC.step rfl rfl rfl (Loc.of rfl fun σ' hs => R_move rfl (.no rfl) (hd_sup hs rfl) (.tmp (hs.slots _ _ rfl) fun _ => rfl)) ?_
      refine DrawC.step rfl rfl rfl (Loc.of rfl fun σ' hs => R_sub rfl (.no rfl) (hd_sup hs rfl) (.tmp (hs.slots _ _ rfl) fun _ => rfl) (.const rfl) (fun _ => by omega)) ?_
      refine DrawC.step rfl rfl rfl (Loc.of rfl fun σ' hs => (by first | exact R_indexAddr rfl (.no rfl) (hd_sup hs rfl) (.tmp (hs.slots _ _ rfl) fun _ => rfl) (.tmp (hs.slots _ _ rfl) fun _ => rfl) Try.underlying22 ty23 (fun _ => ⟨by omega, (by first | exact map_get hx | exact map_get hy2 | exact map_get hx2R | exact map_get hy2R)⟩) | exact R_indexAddr_vw rfl (.no rfl) (hd_sup hs rfl) (.tmp (hs.slots _ _ rfl) fun _ => rfl) (.tmp (hs.slots _ _ rfl) fun _ => rfl) Try.underlying22 ty23 (fun _ => ⟨by omega, (by first | exact map_get hx | exact map_get hy2 | exact map_get hx2R | exact map_get hy2R)⟩) | exact R_indexAddr_rf rfl (.no rfl) (hd_sup hs rfl) (.tmp (hs.slots _ _ rfl) fun _ => rfl) (hs.res _ _ rfl) (.tmp (hs.slots _ _ rfl) fun _ => rfl) Try.underlying22 ty23 (fun _ => ⟨by omega, (by first | exact map_get hx | exact map_get hy2 | exact map_get hx2R | exact map_get hy2R)⟩) | exact R_indexAddr_tl rfl (.no rfl) (hd_sup hs rfl) (.tmp (hs.slots _ _ rfl) fun _ => rfl) (hs.res _ _ rfl) (.tmp (hs.slots _ _ rfl) fun _ => rfl) Try.underlying22 ty23 (fun _ => ⟨by omega, (by first | exact map_get hx | exact map_get hy2 | exact map_get hx2R | exact map_get hy2R)⟩))) ?_
      refine DrawC.step rfl rfl rfl (Loc.of rfl fun σ' hs => (by first | exact R_load rfl (.no rfl) (hd_sup hs rfl) (.tmp (hs.slots _ _ rfl) fun _ => rfl) ty23 rfl rfl | exact R_load_pp rfl (.no rfl) (hd_sup hs rfl) (.tmp (hs.slots _ _ rfl) fun _ => rfl) (hs.res _ _ rfl) ty23 rfl rfl | exact R_load_vw rfl (.no rfl) (hd_sup hs rfl) (.tmp (hs.slots _ _ rfl) fun _ => rfl) ty23 rfl rfl | exact R_load_pr rfl (.no rfl) (hd_sup hs rfl) (.tmp (hs.slots _ _ rfl) fun _ => rfl) (hs.res _ _ rfl) (by first | exact map_get hx | exact map_get hy2 | exact map_get hx2R | exact map_get hy2R) ty23 rfl rfl)) ?_
      refine DrawC.step rfl rfl rfl (Loc.of rfl fun σ' hs => R_callvk rfl (.no rfl) (hd_sup hs rfl) (.tmp (hs.slots _ _ rfl) fun _ => rfl) (.cons (.tmp (hs.slots _ _ rfl) fun _ => rfl) (readA_sup hs rfl) (.cons (.tmp (hs.slots _ _ rfl) fun _ => rfl) (readA_sup hs rfl) .nil)) (hs.res _ _ rfl) (hp x y (List.mem_of_getElem? hx) (List.mem_of_getElem? hy))) ?_
      refine DrawC.fin rfl rfl ?_
      refine AWl.nil ?_
      refine AW.cond (.tmp rfl fun _ => rfl) (fun h28 => ?_) (fun h28 => ?_)
      · skip
        try simp at h28
        have hst : l.take k = compK p (l.take (k + 1)) := by (rw [compK_take p hk.1.1 hx hy, if_pos h28, List.append_nil, compK_id p hk.1.2 hk.2])
        refine AW.seq ?_
        refine AW.le (σ' := ⟨_, [(0, _), (1, _), (5, _)], [(1000, _), (999999, _)]⟩) (Le.sub0 rfl ⟨rfl, rfl, rfl, trivial⟩ ⟨rfl, rfl, trivial⟩) ?_
        refine AW.region ?_
        refine AWl.put (R_move rfl (.no rfl) rfl (.tmp rfl fun _ => rfl)) rfl ?_
        refine AWl.put (R_move rfl (.no rfl) rfl (.tmp rfl fun _ => rfl)) rfl ?_
        refine AWl.put ((by first | exact R_slice_tl (m := k) rfl (.no rfl) rfl (.tmp rfl fun _ => rfl) rfl (.yes (.tmp rfl fun _ => rfl) (fun _ => by first | rfl | omega | (simp <;> omega))) Try.underlying22 ty23 (fun _ => by simp; omega) | exact R_slice_rf (m := k) rfl (.no rfl) rfl (.tmp rfl fun _ => rfl) rfl (.yes (.tmp rfl fun _ => rfl) (fun _ => by first | rfl | omega | (simp <;> omega))) Try.underlying22 ty23 (fun _ => by simp; omega))) rfl ?_
        refine AWl.put (R_assign rfl (.no rfl) rfl (.tmp rfl fun _ => rfl)) rfl ?_
        refine AWl.nil ?_
        refine AW.seq ?_
        refine AW.seq ?_
        refine AW.region ?_
        refine AWl.put (R_assign rfl (.no rfl) rfl (.const rfl)) rfl ?_
        refine AWl.nil ?_
        refine AW.block ?_
        refine AW.loop3 (fun (k2 : Nat) (k1 : Nat) (Rr : List Nat) => ((1 ≤ k2 ∧ k + k2 ≤ l.length ∧ k1 + 1 ≤ k + k2 ∧ Rr.length = l.length)) ∧ Rr.drop (k + k2 - 1) = l.drop (k + k2 - 1) ∧ Rr.take k1 = compK p (l.take (k + k2))) (fun (k2 : Nat) (k1 : Nat) (Rr : List Nat) => ⟨_, [(7, (true, .a (.one (.t (.v (.int .i64 (k2 : Nat))))))), (5, (true, .a (.one (.t (.v (.int .i64 (k1 : Nat))))))), (6, (true, .a (.one (.tl 1000 1 k)))), (0, _), (1, _)], [(1000, .row 1 (Rr.map (cH hd))), (999999, .kept K)]⟩) (fun (k2 : Nat) (k1 : Nat) (Rr : List Nat) => l.length - k2) (1) (k) (l) ⟨⟨by omega, by omega, by omega, rfl⟩, rfl, hst⟩ (Le.sub0 rfl ⟨rfl, rfl, rfl, rfl, rfl, trivial⟩ ⟨rfl, rfl, trivial⟩) ?_
        rintro k2 k1 Rr ⟨hk1, he1⟩
        refine AW.seq ?_
        refine AW.seq ?_
        refine AW.region ?_
        refine AWl.put (R_move rfl (.no rfl) rfl (.tmp rfl fun _ => rfl)) rfl ?_
        refine AWl.put (R_move rfl (.no rfl) rfl (.tmp rfl fun _ => rfl)) rfl ?_
        refine AWl.put ((by first | exact R_lenm rfl (.no rfl) rfl (.tmp rfl fun _ => rfl) (by first | exact .t | exact .rf rfl | exact .vw | exact .nil) Try.underlying22 | exact R_len rfl (.no rfl) rfl (.tmp rfl fun _ => rfl) (by first | exact .t | exact .rf rfl | exact .vw | exact .nil) Try.underlying22 | exact R_len_tl rfl (.no rfl) rfl (.tmp rfl fun _ => rfl) rfl Try.underlying22)) rfl ?_
        refine AWl.put (R_lt rfl (.no rfl) rfl (.tmp rfl fun _ => rfl) (.tmp rfl fun _ => rfl)) rfl ?_
        refine AWl.nil ?_
        refine AW.cond (.tmp rfl fun _ => rfl) (fun h35 => ?_) (fun h35 => ?_)
        · skip
          try simp at h35
          obtain ⟨x2, hx2⟩ : ∃ ξ, l[k + k2]? = some ξ := ⟨_, List.getElem?_eq_getElem (by omega)⟩
          obtain ⟨y2, hy2'⟩ : ∃ ξ, l[k + k2 - 1]? = some ξ := ⟨_, List.getElem?_eq_getElem (by omega)⟩
          have hx2R : Rr[k + (k2 : Int).toNat]? = some x2 := by (rw [drop_get he1.1 (by omega)]; exact hx2)
          have hy2R : Rr[k + ((k2 : Int) - 1).toNat]? = some y2 := by (rw [show k + ((k2 : Int) - 1).toNat = k + k2 - 1 by omega, drop_get he1.1 (by omega)]; exact hy2')
          obtain ⟨r1, hr1⟩ : ∃ ξ, Rr[k1]? = some ξ := ⟨_, List.getElem?_eq_getElem (by omega)⟩
          refine AW.skip ?_
          refine AW.seq ?_
          refine AW.block ?_
          refine AW.seq ?_
          refine AW.drawn 12 (nthB [[], [], [], [1, 2], [1, 2, 3], [], [], [6], [5, 6, 7], [5, 6, 7, 8], [0, 1, 2, 3, 4, 5, 6, 7, 8, 9], [0, 1, 2, 3, 4, 5, 6, 7, 8, 9, 10]]) (by kernel_rfl) (by kernel_rfl) (by kernel_rfl) ?_
          refine DrawC.step rfl rfl rfl (Loc.of rfl fun σ' hs => R_move rfl (.no rfl) (hd_sup hs rfl) (.tmp (hs.slots _ _ rfl) fun _ => rfl)) ?_
          refine DrawC.step rfl rfl rfl (Loc.of rfl fun σ' hs => R_move rfl (.no rfl) (hd_sup hs rfl) (.tmp (hs.slots _ _ rfl) fun _ => rfl)) ?_
          refine DrawC.step rfl rfl rfl (Loc.of rfl fun σ' hs => R_move rfl (.no rfl) (hd_sup hs rfl) (.tmp (hs.slots _ _ rfl) fun _ => rfl)) ?_
          refine DrawC.step rfl rfl rfl (Loc.of rfl fun σ' hs => (by first | exact R_indexAddr rfl (.no rfl) (hd_sup hs rfl) (.tmp (hs.slots _ _ rfl) fun _ => rfl) (.tmp (hs.slots _ _ rfl) fun _ => rfl) Try.underlying22 ty23 (fun _ => ⟨by omega, (by first | exact map_get hx | exact map_get hy2 | exact map_get hx2R | exact map_get hy2R)⟩) | exact R_indexAddr_vw rfl (.no rfl) (hd_sup hs rfl) (.tmp (hs.slots _ _ rfl) fun _ => rfl) (.tmp (hs.slots _ _ rfl) fun _ => rfl) Try.underlying22 ty23 (fun _ => ⟨by omega, (by first | exact map_get hx | exact map_get hy2 | exact map_get hx2R | exact map_get hy2R)⟩) | exact R_indexAddr_rf rfl (.no rfl) (hd_sup hs rfl) (.tmp (hs.slots _ _ rfl) fun _ => rfl) (hs.res _ _ rfl) (.tmp (hs.slots _ _ rfl) fun _ => rfl) Try.underlying22 ty23 (fun _ => ⟨by omega, (by first | exact map_get hx | exact map_get hy2 | exact map_get hx2R | exact map_get hy2R)⟩) | exact R_indexAddr_tl rfl (.no rfl) (hd_sup hs rfl) (.tmp (hs.slots _ _ rfl) fun _ => rfl) (hs.res _ _ rfl) (.tmp (hs.slots _ _ rfl) fun _ => rfl) Try.underlying22 ty23 (fun _ => ⟨by omega, (by first | exact map_get hx | exact map_get hy2 | exact map_get hx2R | exact map_get hy2R)⟩))) ?_
          refine DrawC.step rfl rfl rfl (Loc.of rfl fun σ' hs => (by first | exact R_load rfl (.no rfl) (hd_sup hs rfl) (.tmp (hs.slots _ _ rfl) fun _ => rfl) ty23 rfl rfl | exact R_load_pp rfl (.no rfl) (hd_sup hs rfl) (.tmp (hs.slots _ _ rfl) fun _ => rfl) (hs.res _ _ rfl) ty23 rfl rfl | exact R_load_vw rfl (.no rfl) (hd_sup hs rfl) (.tmp (hs.slots _ _ rfl) fun _ => rfl) ty23 rfl rfl | exact R_load_pr rfl (.no rfl) (hd_sup hs rfl) (.tmp (hs.slots _ _ rfl) fun _ => rfl) (hs.res _ _ rfl) (by first | exact map_get hx | exact map_get hy2 | exact map_get hx2R | exact map_get hy2R) ty23 rfl rfl)) ?_
          refine DrawC.step rfl rfl rfl (Loc.of rfl fun σ' hs => R_move rfl (.no rfl) (hd_sup hs rfl) (.tmp (hs.slots _ _ rfl) fun _ => rfl)) ?_
          refine DrawC.step rfl rfl rfl (Loc.of rfl fun σ' hs => R_move rfl (.no rfl) (hd_sup hs rfl) (.tmp (hs.slots _ _ rfl) fun _ => rfl)) ?_
          refine DrawC.step rfl rfl rfl (Loc.of rfl fun σ' hs => R_sub rfl (.no rfl) (hd_sup hs rfl) (.tmp (hs.slots _ _ rfl) fun _ => rfl) (.const rfl) (fun _ => by omega)) ?_
          refine DrawC.step rfl rfl rfl (Loc.of rfl fun σ' hs => (by first | exact R_indexAddr rfl (.no rfl) (hd_sup hs rfl) (.tmp (hs.slots _ _ rfl) fun _ => rfl) (.tmp (hs.slots _ _ rfl) fun _ => rfl) Try.underlying22 ty23 (fun _ => ⟨by omega, (by first | exact map_get hx | exact map_get hy2 | exact map_get hx2R | exact map_get hy2R)⟩) | exact R_indexAddr_vw rfl (.no rfl) (hd_sup hs rfl) (.tmp (hs.slots _ _ rfl) fun _ => rfl) (.tmp (hs.slots _ _ rfl) fun _ => rfl) Try.underlying22 ty23 (fun _ => ⟨by omega, (by first | exact map_get hx | exact map_get hy2 | exact map_get hx2R | exact map_get hy2R)⟩) | exact R_indexAddr_rf rfl (.no rfl) (hd_sup hs rfl) (.tmp (hs.slots _ _ rfl) fun _ => rfl) (hs.res _ _ rfl) (.tmp (hs.slots _ _ rfl) fun _ => rfl) Try.underlying22 ty23 (fun _ => ⟨by omega, (by first | exact map_get hx | exact map_get hy2 | exact map_get hx2R | exact map_get hy2R)⟩) | exact R_indexAddr_tl rfl (.no rfl) (hd_sup hs rfl) (.tmp (hs.slots _ _ rfl) fun _ => rfl) (hs.res _ _ rfl) (.tmp (hs.slots _ _ rfl) fun _ => rfl) Try.underlying22 ty23 (fun _ => ⟨by omega, (by first | exact map_get hx | exact map_get hy2 | exact map_get hx2R | exact map_get hy2R)⟩))) ?_
          refine DrawC.step rfl rfl rfl (Loc.of rfl fun σ' hs => (by first | exact R_load rfl (.no rfl) (hd_sup hs rfl) (.tmp (hs.slots _ _ rfl) fun _ => rfl) ty23 rfl rfl | exact R_load_pp rfl (.no rfl) (hd_sup hs rfl) (.tmp (hs.slots _ _ rfl) fun _ => rfl) (hs.res _ _ rfl) ty23 rfl rfl | exact R_load_vw rfl (.no rfl) (hd_sup hs rfl) (.tmp (hs.slots _ _ rfl) fun _ => rfl) ty23 rfl rfl | exact R_load_pr rfl (.no rfl) (hd_sup hs rfl) (.tmp (hs.slots _ _ rfl) fun _ => rfl) (hs.res _ _ rfl) (by first | exact map_get hx | exact map_get hy2 | exact map_get hx2R | exact map_get hy2R) ty23 rfl rfl)) ?_
          refine DrawC.step rfl rfl rfl (Loc.of rfl fun σ' hs => R_callvk rfl (.no rfl) (hd_sup hs rfl) (.tmp (hs.slots _ _ rfl) fun _ => rfl) (.cons (.tmp (hs.slots _ _ rfl) fun _ => rfl) (readA_sup hs rfl) (.cons (.tmp (hs.slots _ _ rfl) fun _ => rfl) (readA_sup hs rfl) .nil)) (hs.res _ _ rfl) (hp x2 y2 (List.mem_of_getElem? hx2) (List.mem_of_getElem? hy2'))) ?_
          refine DrawC.step rfl rfl rfl (Loc.of rfl fun σ' hs => R_not rfl (.no rfl) (hd_sup hs rfl) (.tmp (hs.slots _ _ rfl) fun _ => rfl)) ?_
          refine DrawC.fin rfl rfl ?_
          refine AWl.nil ?_
          refine AW.cond (.tmp rfl fun _ => rfl) (fun h49 => ?_) (fun h49 => ?_)
          · skip
            try simp at h49
            refine AW.seq ?_
            refine AW.le (σ' := ⟨_, [(0, _), (1, _), (5, _), (6, _), (7, _)], [(1000, _), (999999, _)]⟩) (Le.sub0 rfl ⟨rfl, rfl, rfl, rfl, rfl, trivial⟩ ⟨rfl, rfl, trivial⟩) ?_
            refine AW.region ?_
            refine AWl.put (R_move rfl (.no rfl) rfl (.tmp rfl fun _ => rfl)) rfl ?_
            refine AWl.put (R_move rfl (.no rfl) rfl (.tmp rfl fun _ => rfl)) rfl ?_
            refine AWl.put (R_move rfl (.no rfl) rfl (.tmp rfl fun _ => rfl)) rfl ?_
            refine AWl.put (R_move rfl (.no rfl) rfl (.tmp rfl fun _ => rfl)) rfl ?_
            refine AWl.put ((by first | exact R_indexAddr rfl (.no rfl) rfl (.tmp rfl fun _ => rfl) (.tmp rfl fun _ => rfl) Try.underlying22 ty23 (fun _ => ⟨by omega, (by first | exact map_get hx | exact map_get hy2 | exact map_get hx2R | exact map_get hy2R)⟩) | exact R_indexAddr_vw rfl (.no rfl) rfl (.tmp rfl fun _ => rfl) (.tmp rfl fun _ => rfl) Try.underlying22 ty23 (fun _ => ⟨by omega, (by first | exact map_get hx | exact map_get hy2 | exact map_get hx2R | exact map_get hy2R)⟩) | exact R_indexAddr_rf rfl (.no rfl) rfl (.tmp rfl fun _ => rfl) rfl (.tmp rfl fun _ => rfl) Try.underlying22 ty23 (fun _ => ⟨by omega, (by first | exact map_get hx | exact map_get hy2 | exact map_get hx2R | exact map_get hy2R)⟩) | exact R_indexAddr_tl rfl (.no rfl) rfl (.tmp rfl fun _ => rfl) rfl (.tmp rfl fun _ => rfl) Try.underlying22 ty23 (fun _ => ⟨by omega, (by first | exact map_get hx | exact map_get hy2 | exact map_get hx2R | exact map_get hy2R)⟩))) rfl ?_
            refine AWl.put ((by first | exact R_load rfl (.no rfl) rfl (.tmp rfl fun _ => rfl) ty23 rfl rfl | exact R_load_pp rfl (.no rfl) rfl (.tmp rfl fun _ => rfl) rfl ty23 rfl rfl | exact R_load_vw rfl (.no rfl) rfl (.tmp rfl fun _ => rfl) ty23 rfl rfl | exact R_load_pr rfl (.no rfl) rfl (.tmp rfl fun _ => rfl) rfl (by first | exact map_get hx | exact map_get hy2 | exact map_get hx2R | exact map_get hy2R) ty23 rfl rfl)) rfl ?_
            refine AWl.put ((by first | exact R_indexAddr rfl (.no rfl) rfl (.tmp rfl fun _ => rfl) (.tmp rfl fun _ => rfl) Try.underlying22 ty23 (fun _ => ⟨by omega, map_get hr1⟩) | exact R_indexAddr_vw rfl (.no rfl) rfl (.tmp rfl fun _ => rfl) (.tmp rfl fun _ => rfl) Try.underlying22 ty23 (fun _ => ⟨by omega, map_get hr1⟩) | exact R_indexAddr_rf rfl (.no rfl) rfl (.tmp rfl fun _ => rfl) rfl (.tmp rfl fun _ => rfl) Try.underlying22 ty23 (fun _ => ⟨by omega, map_get hr1⟩) | exact R_indexAddr_tl rfl (.no rfl) rfl (.tmp rfl fun _ => rfl) rfl (.tmp rfl fun _ => rfl) Try.underlying22 ty23 (fun _ => ⟨by omega, map_get hr1⟩))) rfl ?_
            refine AWl.absupd (R_store_pr rfl rfl rfl (.tmp rfl fun _ => rfl) rfl (.tmp rfl fun _ => rfl) rfl (map_get hr1) ty23 rfl rfl rfl rfl) ?_
            refine AWl.nil ?_
            refine AW.le (σ' := ⟨_, [(0, _), (1, _), (5, _), (6, _), (7, _)], [(1000, _), (999999, _)]⟩) (Le.sub0 rfl ⟨rfl, rfl, rfl, rfl, rfl, trivial⟩ ⟨rfl, rfl, trivial⟩) ?_
            refine AW.region ?_
            refine AWl.put (R_move rfl (.no rfl) rfl (.tmp rfl fun _ => rfl)) rfl ?_
            refine AWl.put (R_add rfl (.no rfl) rfl (.tmp rfl fun _ => rfl) (.const rfl) (fun _ => by omega)) rfl ?_
            refine AWl.put (R_assign rfl (.no rfl) rfl (.tmp rfl fun _ => rfl)) rfl ?_
            refine AWl.nil ?_
            refine AW.region ?_
            refine AWl.put (R_move rfl (.no rfl) rfl (.tmp rfl fun _ => rfl)) rfl ?_
            refine AWl.put (R_add rfl (.no rfl) rfl (.tmp rfl fun _ => rfl) (.const rfl) (fun _ => by omega)) rfl ?_
            refine AWl.put (R_assign rfl (.no rfl) rfl (.tmp rfl fun _ => rfl)) rfl ?_
            refine AWl.nil ?_
            repeat (with_reducible refine BlockQ.nor ?_)
            refine Round3.next (k2 + 1) (k1 + 1) (Rr.set k1 x2) ⟨⟨by omega, by omega, by omega, by simp; omega⟩, by rw [set_drop (by omega)]; exact drop_more he1.1 (by omega), by rw [set_take (by omega), he1.2, show k + (k2 + 1) = k + k2 + 1 by omega, compK_take p (by omega) hx2 hy2', if_neg (by simp [h49])]⟩ (by omega) (Le.sub0 rfl ⟨rfl, rfl, rfl, rfl, rfl, trivial⟩ ⟨(by first | rfl | (refine congrArg (fun r => some (R.row _ r)) ?_; rw [List.map_set]; rfl)), (by first | rfl | (refine congrArg (fun r => some (R.row _ r)) ?_; simp [chunk, List.map_set, cInt, cBool, cIntS, cPair, cToken, cExpr, cEdge, cGraph, cStep, cWalk, cChange, cBatch, cHistory, cPositions, cAutomaton, cProductStep, cPathAtom, cConjunction, cView, cDelta, cRegistered, cRegistry])), trivial⟩)
          · skip
            try simp at h49
            refine AW.skip ?_
            refine AW.le (σ' := ⟨_, [(0, _), (1, _), (5, _), (6, _), (7, _)], [(1000, _), (999999, _)]⟩) (Le.sub0 rfl ⟨rfl, rfl, rfl, rfl, rfl, trivial⟩ ⟨rfl, rfl, trivial⟩) ?_
            refine AW.region ?_
            refine AWl.put (R_move rfl (.no rfl) rfl (.tmp rfl fun _ => rfl)) rfl ?_
            refine AWl.put (R_add rfl (.no rfl) rfl (.tmp rfl fun _ => rfl) (.const rfl) (fun _ => by omega)) rfl ?_
            refine AWl.put (R_assign rfl (.no rfl) rfl (.tmp rfl fun _ => rfl)) rfl ?_
            refine AWl.nil ?_
            repeat (with_reducible refine BlockQ.nor ?_)
            refine Round3.next (k2 + 1) (k1) (Rr) ⟨⟨by omega, by omega, by omega, hk1.2.2.2⟩, drop_more he1.1 (by omega), by rw [he1.2, show k + (k2 + 1) = k + k2 + 1 by omega, compK_take p (by omega) hx2 hy2', if_pos (by simp [h49]), List.append_nil]⟩ (by omega) (Le.sub0 rfl ⟨rfl, rfl, rfl, rfl, rfl, trivial⟩ ⟨(by first | rfl | (refine congrArg (fun r => some (R.row _ r)) ?_; rw [List.map_set]; rfl)), (by first | rfl | (refine congrArg (fun r => some (R.row _ r)) ?_; simp [chunk, List.map_set, cInt, cBool, cIntS, cPair, cToken, cExpr, cEdge, cGraph, cStep, cWalk, cChange, cBatch, cHistory, cPositions, cAutomaton, cProductStep, cPathAtom, cConjunction, cView, cDelta, cRegistered, cRegistry])), trivial⟩)
        · skip
          try simp at h35
          refine AW.exit ?_
          refine AW.seq ?_
          refine AW.region ?_
          refine AWl.put (R_move rfl (.no rfl) rfl (.tmp rfl fun _ => rfl)) rfl ?_
          refine AWl.put (R_move rfl (.no rfl) rfl (.tmp rfl fun _ => rfl)) rfl ?_
          refine AWl.put ((by first | exact R_slice_tl (m := k1) rfl (.no rfl) rfl (.tmp rfl fun _ => rfl) rfl (.yes (.tmp rfl fun _ => rfl) (fun _ => by first | rfl | omega | (simp <;> omega))) Try.underlying22 ty23 (fun _ => by simp; omega) | exact R_slice_rf (m := k1) rfl (.no rfl) rfl (.tmp rfl fun _ => rfl) rfl (.yes (.tmp rfl fun _ => rfl) (fun _ => by first | rfl | omega | (simp <;> omega))) Try.underlying22 ty23 (fun _ => by simp; omega))) rfl ?_
          refine AWl.absupd (R_clear rfl rfl rfl (.tmp rfl fun _ => rfl) rfl Try.underlying22 in23 rfl rfl) ?_
          refine AWl.nil ?_
          refine AW.seq ?_
          refine AW.le (σ' := ⟨_, [(0, _), (1, _), (5, _), (6, _), (7, _)], [(1000, _), (999999, _)]⟩) (Le.sub0 rfl ⟨rfl, rfl, rfl, rfl, rfl, trivial⟩ ⟨rfl, rfl, trivial⟩) ?_
          refine AW.region ?_
          refine AWl.put (R_move rfl (.no rfl) rfl (.tmp rfl fun _ => rfl)) rfl ?_
          refine AWl.put (R_move rfl (.no rfl) rfl (.tmp rfl fun _ => rfl)) rfl ?_
          refine AWl.chgput (R_cut (m := k1) rfl rfl rfl (.tmp rfl fun _ => rfl) rfl (.yes (.tmp rfl fun _ => rfl) (fun _ => by first | rfl | omega | (simp <;> omega))) Try.underlying22 ty23 (by simp; omega)) rfl ?_
          refine AWl.le (σ' := ⟨_, [(0, _), (1, _), (5, _), (6, _), (7, _), (64, _)], [(1000, _), (999999, _)]⟩) (Le.sub0 rfl ⟨rfl, rfl, rfl, rfl, rfl, rfl, trivial⟩ ⟨rfl, rfl, trivial⟩) ?_
          refine AWl.put (R_assign rfl (.no rfl) rfl (.tmp rfl fun _ => rfl)) rfl ?_
          refine AWl.nil ?_
          refine AW.ret ?_
          refine Res.one rfl (.tmp rfl .nil) rfl ?_
          refine congrArg (fun r => [V0.one (T.sl 1 r)]) ?_; exact cut_rows (by rw [he1.2, List.take_of_length_le (by omega)]) (by omega)
      · skip
        try simp at h28
        refine AW.skip ?_
        refine AW.le (σ' := ⟨_, [(0, _), (1, _), (5, _)], [(1000, _), (999999, _)]⟩) (Le.sub0 rfl ⟨rfl, rfl, rfl, trivial⟩ ⟨rfl, rfl, trivial⟩) ?_
        refine AW.region ?_
        refine AWl.put (R_move rfl (.no rfl) rfl (.tmp rfl fun _ => rfl)) rfl ?_
        refine AWl.put (R_add rfl (.no rfl) rfl (.tmp rfl fun _ => rfl) (.const rfl) (fun _ => by omega)) rfl ?_
        refine AWl.put (R_assign rfl (.no rfl) rfl (.tmp rfl fun _ => rfl)) rfl ?_
        refine AWl.nil ?_
        repeat (with_reducible refine BlockQ.nor ?_)
        refine Round1.next (k + 1) ⟨⟨by omega, fun j x' y' hj hx' hy' => by rcases Nat.lt_or_eq_of_le (Nat.le_of_lt_succ hj) with h | h; exact hk.2 j x' y' h hx' hy'; (subst h; rw [hx] at hx'; rw [show j = j + 1 - 1 by omega] at hy'; rw [hy] at hy'; cases hx'; cases hy'; exact h28)⟩, trivial⟩ (by omega) (Le.sub0 rfl ⟨rfl, rfl, rfl, trivial⟩ ⟨(by first | rfl | (refine congrArg (fun r => some (R.row _ r)) ?_; rw [List.map_set]; rfl)), (by first | rfl | (refine congrArg (fun r => some (R.row _ r)) ?_; simp [chunk, List.map_set, cInt, cBool, cIntS, cPair, cToken, cExpr, cEdge, cGraph, cStep, cWalk, cChange, cBatch, cHistory, cPositions, cAutomaton, cProductStep, cPathAtom, cConjunction, cView, cDelta, cRegistered, cRegistry])), trivial⟩)
    · skip
      try simp at h15
      refine AW.exit ?_
      refine AW.seq ?_
      refine AW.region ?_
      refine AWl.put (R_move rfl (.no rfl) rfl (.tmp rfl fun _ => rfl)) rfl ?_
      refine AWl.put (R_assign rfl (.no rfl) rfl (.tmp rfl fun _ => rfl)) rfl ?_
      refine AWl.nil ?_
      refine AW.ret ?_
      refine Res.one rfl (.tmp rfl .nil) rfl ?_
      rw [compK_all p h15 (fun j x y hj => hk.2 j x y (by omega))]; rfl
end Go.Proofs.Ytoealglkenhphaa
