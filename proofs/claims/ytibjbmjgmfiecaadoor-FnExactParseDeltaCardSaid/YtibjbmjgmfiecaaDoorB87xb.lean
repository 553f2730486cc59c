/- Pairs and deltas read: both texts. -/
import Derived.Test.YtibjbmjgmfiecaaDoorB82xb
import Derived.Test.YtibjbmjgmfiecaaDoorB83xb
set_option linter.unusedVariables false
set_option linter.unusedSimpArgs false
set_option maxHeartbeats 1000000
set_option maxRecDepth 100000
namespace Go.Q
open Go.D
theorem two_bytes {x : List UInt8} (h : x.length = 2) : ∃ a b, x = [a, b] := by
  match x, h with
  | [a, b], _ => exact ⟨a, b, rfl⟩
theorem all2_more {l : List (List UInt8)} {k : Nat} {x : List UInt8} (h : ∀ j y, j < k → l[j]? = some y → y.length = 2) (hx : l[k]? = some x) (h2 : x.length = 2) : ∀ j y, j < k + 1 → l[j]? = some y → y.length = 2 := fun j y hj hy => by
  by_cases e : j = k
  · subst e; rw [hx] at hy; cases hy; exact h2
  · exact h j y (by omega) hy
theorem all2_all {l : List (List UInt8)} {k : Nat} (h : ∀ j y, j < k → l[j]? = some y → y.length = 2) (hk : l.length ≤ k) : (l.all fun x => decide (x.length = 2)) = true := by
  rw [List.all_eq_true]
  intro x hx
  obtain ⟨j, hj⟩ := List.getElem?_of_mem hx
  have := (List.getElem?_eq_some_iff.1 hj).1
  exact decide_eq_true (h j x (by omega) hj)
theorem all2_not {l : List (List UInt8)} {k : Nat} {x : List UInt8} (hx : l[k]? = some x) (h : x.length ≠ 2) : (l.all fun x => decide (x.length = 2)) = false := by
  rw [List.all_eq_false]
  exact ⟨x, List.mem_of_getElem? hx, by simpa using h⟩
theorem parseP_none : parseP noneS = ([], true) := by unfold parseP; rw [if_pos rfl]
theorem parseP_bad {l : List UInt8} (h0 : l ≠ noneS) (h : ((splitL 32 l).all fun x => decide (x.length = 2)) = false) : parseP l = ([], false) := by
  unfold parseP
  rw [if_neg h0, h, if_neg (by simp)]
theorem parseP_nap {l : List UInt8} (h0 : l ≠ noneS) (h : arePairs ((splitL 32 l).map toP) = false) : parseP l = ([], false) := by
  unfold parseP
  rw [if_neg h0, h, if_neg (by simp)]
theorem parseP_yes {l : List UInt8} (h0 : l ≠ noneS) (h : ((splitL 32 l).all fun x => decide (x.length = 2)) = true) (ha : arePairs ((splitL 32 l).map toP) = true) : parseP l = ((splitL 32 l).map toP, true) := by
  unfold parseP
  rw [if_neg h0, h, ha]; rfl
theorem nap_take {l : List (List UInt8)} {k : Nat} (h : arePairs ((l.take k).map toP) = false) : arePairs (l.map toP) = false := by
  cases e : arePairs (l.map toP) with
  | false => rfl
  | true => rw [List.map_take, ap_take e] at h; cases h
theorem ap_stop {l : List (List UInt8)} {k : Nat} (h : arePairs ((l.take k).map toP) = true) (hs : ¬ (k < l.length ∧ k ≤ 30)) (hk : k ≤ l.length) : l.length ≤ k := by
  have := ap_few h
  rw [List.length_map, List.length_take] at this
  omega
end Go.Q
namespace Go.Proofs.YtibjbmjgmfiecaaDoor
open Go.RowKit Go.Q Go.D
theorem specParsePairs (l : List UInt8) (hz : l.length ≤ 2000000) : FnT Tryd.prog 40 [.one (.v (.string (bs l)))] (.tup [.one (.sl 2 ((parseP l).1.map cPair)), .one (.v (.bool (parseP l).2))]) := by
  refine FnT.walk Tryd.func40 rfl (by kernel_rfl) Tryd.ntmps40 rfl fun hlen w0 => ?_
  try simp [cPair, cToken, cExpr, cEdge, cGraph, cStep, cWalk, cChange, cBatch, cHistory, cPositions, cAutomaton, cProductStep, cPathAtom, cConjunction, cView, cDelta, cRegistered, cRegistry] at hlen
  have hsz := bs_size l
  have hn : (ByteArray.mk #[110, 111, 110, 101]) = bs noneS := rfl
  refine AW.seq ?_
  refine AW.region ?_
  refine AWl.put (R_assign rfl (.no rfl) rfl (.const rfl)) rfl ?_
  refine AWl.nilS (i := 2) 20001 2 rfl rfl ?_
  refine AWl.put (R_assign rfl (.no rfl) rfl (.const rfl)) rfl ?_
  refine AWl.nil ?_
  refine AW.seq ?_
  refine AW.region ?_
  refine AWl.add (R_empty 7 rfl rfl rfl Tryd.underlying33 ty90 rfl) rfl ?_
  refine AWl.put (R_assign rfl (.no rfl) rfl (.tmp rfl fun _ => rfl)) rfl ?_
  refine AWl.nil ?_
  refine AW.seq ?_
  refine AW.seq ?_
  refine AW.region ?_
  refine AWl.put (R_move rfl (.no rfl) rfl (.tmp rfl fun _ => rfl)) rfl ?_
  refine AWl.put (R_eqstr rfl (.no rfl) rfl (.tmp rfl fun _ => rfl) (.const rfl)) rfl ?_
  refine AWl.nil ?_
  refine AW.cond (.tmp rfl fun _ => rfl) (fun h9 => ?_) (fun h9 => ?_)
  · skip
    try simp at h9
    refine AW.seq ?_
    refine AW.region ?_
    refine AWl.put (R_move rfl (.no rfl) rfl (.tmp rfl fun _ => rfl)) rfl ?_
    refine AWl.put (R_assign rfl (.no rfl) rfl (.tmp rfl fun _ => rfl)) rfl ?_
    refine AWl.put (R_assign rfl (.no rfl) rfl (.const rfl)) rfl ?_
    refine AWl.nil ?_
    refine AW.ret ?_
    refine Res.many rfl (.tmp rfl (.tmp rfl .nil)) rfl ?_ (by simp)
    have e : l = noneS := bs_inj (m := noneS) h9; rw [e, parseP_none]; rfl
  · skip
    try simp at h9
    have hne : l ≠ noneS := (fun e => h9 (by rw [e, hn]))
    refine AW.skip ?_
    refine AW.seq ?_
    refine AW.region ?_
    refine AWl.put (R_move rfl (.no rfl) rfl (.tmp rfl fun _ => rfl)) rfl ?_
    refine AWl.put (R_callz (FnT.fr (specl2Cut l 32 (by omega))) rfl (.no rfl) rfl (.cons (.tmp rfl fun _ => rfl) rfl (.cons (.const rfl) rfl .nil))) rfl ?_
    refine AWl.put (R_assign rfl (.no rfl) rfl (.tmp rfl fun _ => rfl)) rfl ?_
    refine AWl.nil ?_
    refine AW.seq ?_
    refine AW.seq ?_
    refine AW.region ?_
    refine AWl.put (R_assign rfl (.no rfl) rfl (.const rfl)) rfl ?_
    refine AWl.nil ?_
    refine AW.block ?_
    refine AW.loop1 (fun (k : Nat) => (k ≤ (splitL 32 l).length ∧ (∀ j y, j < k → (splitL 32 l)[j]? = some y → y.length = 2)) ∧ True) (fun (k : Nat) => ⟨_, [(6, (true, .a (.one (.t (.v (.int .i64 (k : Nat))))))), (4, (true, .a (.one (.rf 7)))), (5, _)], [(7, .row 2 ((((splitL 32 l).take k).map toP).map cPair))]⟩) (fun (k : Nat) => (splitL 32 l).length - k) (0) ⟨⟨Nat.zero_le _, fun j c hj => by omega⟩, trivial⟩ (Le.sub0 rfl ⟨rfl, rfl, rfl, trivial⟩ ⟨rfl, trivial⟩) ?_
    rintro k ⟨hk, he⟩
    refine AW.seq ?_
    refine AW.seq ?_
    refine AW.region ?_
    refine AWl.put (R_move rfl (.no rfl) rfl (.tmp rfl fun _ => rfl)) rfl ?_
    refine AWl.put (R_move rfl (.no rfl) rfl (.tmp rfl fun _ => rfl)) rfl ?_
    refine AWl.put ((by first | exact R_lenm rfl (.no rfl) rfl (.tmp rfl fun _ => rfl) (by first | exact .t | exact .rf rfl | exact .vw | exact .nil) Tryd.underlying68 | exact R_len rfl (.no rfl) rfl (.tmp rfl fun _ => rfl) (by first | exact .t | exact .rf rfl | exact .vw | exact .nil) Tryd.underlying68)) rfl ?_
    refine AWl.put (R_lt rfl (.no rfl) rfl (.tmp rfl fun _ => rfl) (.tmp rfl fun _ => rfl)) rfl ?_
    refine AWl.put (R_move rfl (.no rfl) rfl (.tmp rfl fun _ => rfl)) rfl ?_
    refine AWl.put (R_move rfl (by first | exact .yes1 rfl rfl rfl rfl | exact .yes rfl rfl rfl rfl) rfl (.tmp rfl (by first | exact fun _ => rfl | exact id | simp))) rfl ?_
    refine AWl.put (R_le rfl (by first | exact .yes1 rfl rfl rfl rfl | exact .yes rfl rfl rfl rfl) rfl (.tmp rfl (by first | exact fun _ => rfl | exact id | simp)) (.const rfl)) rfl ?_
    refine AWl.put (R_and rfl (.no rfl) rfl (.tmp rfl fun _ => rfl) (.tmp rfl (by first | exact fun _ => rfl | exact id | simp))) rfl ?_
    refine AWl.nil ?_
    refine AW.cond (.tmp rfl fun _ => rfl) (fun h20 => ?_) (fun h20 => ?_)
    · skip
      try simp at h20
      obtain ⟨x, hx⟩ : ∃ ξ, (splitL 32 l)[k]? = some ξ := ⟨_, List.getElem?_eq_getElem (by omega)⟩
      have hxs := bs_size x
      refine AW.skip ?_
      refine AW.seq ?_
      refine AW.block ?_
      refine AW.seq ?_
      refine AW.seq ?_
      refine AW.le (σ' := ⟨_, [(4, _), (5, _), (6, _)], [(7, _)]⟩) (Le.sub0 rfl ⟨rfl, rfl, rfl, trivial⟩ ⟨rfl, trivial⟩) ?_
      refine AW.region ?_
      refine AWl.put (R_move rfl (.no rfl) rfl (.tmp rfl fun _ => rfl)) rfl ?_
      refine AWl.put (R_move rfl (.no rfl) rfl (.tmp rfl fun _ => rfl)) rfl ?_
      refine AWl.put ((by first | exact R_indexAddr rfl (.no rfl) rfl (.tmp rfl fun _ => rfl) (.tmp rfl fun _ => rfl) Tryd.underlying68 ty9 (fun _ => ⟨by omega, (map_get hx)⟩) | exact R_indexAddr_vw rfl (.no rfl) rfl (.tmp rfl fun _ => rfl) (.tmp rfl fun _ => rfl) Tryd.underlying68 ty9 (fun _ => ⟨by omega, (map_get hx)⟩) | exact R_indexAddr_rf rfl (.no rfl) rfl (.tmp rfl fun _ => rfl) rfl (.tmp rfl fun _ => rfl) Tryd.underlying68 ty9 (fun _ => ⟨by omega, (map_get hx)⟩))) rfl ?_
      refine AWl.put ((by first | exact R_load rfl (.no rfl) rfl (.tmp rfl fun _ => rfl) ty9 rfl rfl | exact R_load_pp rfl (.no rfl) rfl (.tmp rfl fun _ => rfl) rfl ty9 rfl rfl | exact R_load_vw rfl (.no rfl) rfl (.tmp rfl fun _ => rfl) ty9 rfl rfl | exact R_load_pr rfl (.no rfl) rfl (.tmp rfl fun _ => rfl) rfl (map_get hx) ty9 rfl rfl)) rfl ?_
      refine AWl.put (R_len_s rfl (.no rfl) rfl (.tmp rfl fun _ => rfl) Tryd.underlying9) rfl ?_
      refine AWl.put (R_ne rfl (.no rfl) rfl (.tmp rfl fun _ => rfl) (.const rfl)) rfl ?_
      refine AWl.nil ?_
      refine AW.cond (.tmp rfl fun _ => rfl) (fun h28 => ?_) (fun h28 => ?_)
      · skip
        try simp at h28
        refine AW.seq ?_
        refine AW.le (σ' := ⟨_, [(4, _), (5, _), (6, _)], [(7, _)]⟩) (Le.sub0 rfl ⟨rfl, rfl, rfl, trivial⟩ ⟨rfl, trivial⟩) ?_
        refine AW.region ?_
        refine AWl.add (R_empty 29 rfl rfl rfl Tryd.underlying33 ty90 rfl) rfl ?_
        refine AWl.put (R_assign rfl (.no rfl) rfl (.tmp rfl fun _ => rfl)) rfl ?_
        refine AWl.put (R_assign rfl (.no rfl) rfl (.const rfl)) rfl ?_
        refine AWl.nil ?_
        refine AW.ret ?_
        refine Res.many rfl (.tmp rfl (.tmp rfl .nil)) rfl ?_ (by simp)
        rw [parseP_bad hne (all2_not hx (by rw [← hxs]; omega))]; rfl
      · skip
        try simp at h28
        have h2 : x.length = 2 := by (first | omega | (simp at h28; omega))
        obtain ⟨a, b, hab⟩ := two_bytes h2
        have ha8 : a.toNat < 256 := a.toNat_lt
        have hb8 : b.toNat < 256 := b.toNat_lt
        refine AW.skip ?_
        refine AW.le (σ' := ⟨_, [(4, _), (5, _), (6, _)], [(7, _)]⟩) (Le.sub0 rfl ⟨rfl, rfl, rfl, trivial⟩ ⟨rfl, trivial⟩) ?_
        refine AW.dagn 19 167 [[], [0], [1], [2], [8], [9], [0, 1], [0, 2], [0, 8], [0, 9], [1, 2], [1, 8], [1, 9], [2, 8], [2, 9], [8, 9], [0, 1, 2], [0, 1, 8], [0, 1, 9], [0, 2, 8], [0, 2, 9], [0, 8, 9], [1, 2, 3], [1, 2, 8], [1, 2, 9], [1, 8, 9], [2, 8, 9], [8, 9, 10], [0, 1, 2, 3], [0, 1, 2, 8], [0, 1, 2, 9], [0, 1, 8, 9], [0, 2, 8, 9], [0, 8, 9, 10], [1, 2, 3, 4], [1, 2, 3, 8], [1, 2, 3, 9], [1, 2, 8, 9], [1, 8, 9, 10], [2, 8, 9, 10], [8, 9, 10, 11], [0, 1, 2, 3, 4], [0, 1, 2, 3, 8], [0, 1, 2, 3, 9], [0, 1, 2, 8, 9], [0, 1, 8, 9, 10], [0, 2, 8, 9, 10], [0, 8, 9, 10, 11], [1, 2, 3, 4, 5], [1, 2, 3, 4, 8], [1, 2, 3, 4, 9], [1, 2, 3, 8, 9], [1, 2, 8, 9, 10], [1, 8, 9, 10, 11], [2, 8, 9, 10, 11], [8, 9, 10, 11, 12], [0, 1, 2, 3, 4, 5], [0, 1, 2, 3, 4, 8], [0, 1, 2, 3, 4, 9], [0, 1, 2, 3, 8, 9], [0, 1, 2, 8, 9, 10], [0, 1, 8, 9, 10, 11], [0, 2, 8, 9, 10, 11], [0, 8, 9, 10, 11, 12], [1, 2, 3, 4, 5, 6], [1, 2, 3, 4, 5, 8], [1, 2, 3, 4, 5, 9], [1, 2, 3, 4, 8, 9], [1, 2, 3, 8, 9, 10], [1, 2, 8, 9, 10, 11], [1, 8, 9, 10, 11, 12], [2, 8, 9, 10, 11, 12], [8, 9, 10, 11, 12, 13], [0, 1, 2, 3, 4, 5, 6], [0, 1, 2, 3, 4, 5, 8], [0, 1, 2, 3, 4, 5, 9], [0, 1, 2, 3, 4, 8, 9], [0, 1, 2, 3, 8, 9, 10], [0, 1, 2, 8, 9, 10, 11], [0, 1, 8, 9, 10, 11, 12], [0, 2, 8, 9, 10, 11, 12], [0, 8, 9, 10, 11, 12, 13], [1, 2, 3, 4, 5, 6, 7], [1, 2, 3, 4, 5, 6, 8], [1, 2, 3, 4, 5, 6, 9], [1, 2, 3, 4, 5, 8, 9], [1, 2, 3, 4, 8, 9, 10], [1, 2, 3, 8, 9, 10, 11], [1, 2, 8, 9, 10, 11, 12], [1, 8, 9, 10, 11, 12, 13], [2, 8, 9, 10, 11, 12, 13], [8, 9, 10, 11, 12, 13, 14], [0, 1, 2, 3, 4, 5, 6, 7], [0, 1, 2, 3, 4, 5, 6, 8], [0, 1, 2, 3, 4, 5, 6, 9], [0, 1, 2, 3, 4, 5, 8, 9], [0, 1, 2, 3, 4, 8, 9, 10], [0, 1, 2, 3, 8, 9, 10, 11], [0, 1, 2, 8, 9, 10, 11, 12], [0, 1, 8, 9, 10, 11, 12, 13], [0, 2, 8, 9, 10, 11, 12, 13], [0, 8, 9, 10, 11, 12, 13, 14], [1, 2, 3, 4, 5, 6, 7, 8], [1, 2, 3, 4, 5, 6, 7, 9], [1, 2, 3, 4, 5, 6, 8, 9], [1, 2, 3, 4, 5, 8, 9, 10], [1, 2, 3, 4, 8, 9, 10, 11], [1, 2, 3, 8, 9, 10, 11, 12], [1, 2, 8, 9, 10, 11, 12, 13], [1, 8, 9, 10, 11, 12, 13, 14], [2, 8, 9, 10, 11, 12, 13, 14], [0, 1, 2, 3, 4, 5, 6, 7, 8], [0, 1, 2, 3, 4, 5, 6, 7, 9], [0, 1, 2, 3, 4, 5, 6, 8, 9], [0, 1, 2, 3, 4, 5, 8, 9, 10], [0, 1, 2, 3, 4, 8, 9, 10, 11], [0, 1, 2, 3, 8, 9, 10, 11, 12], [0, 1, 2, 8, 9, 10, 11, 12, 13], [0, 1, 8, 9, 10, 11, 12, 13, 14], [0, 2, 8, 9, 10, 11, 12, 13, 14], [1, 2, 3, 4, 5, 6, 7, 8, 9], [1, 2, 3, 4, 5, 6, 8, 9, 10], [1, 2, 3, 4, 5, 8, 9, 10, 11], [1, 2, 3, 4, 8, 9, 10, 11, 12], [1, 2, 3, 8, 9, 10, 11, 12, 13], [1, 2, 8, 9, 10, 11, 12, 13, 14], [0, 1, 2, 3, 4, 5, 6, 7, 8, 9], [0, 1, 2, 3, 4, 5, 6, 8, 9, 10], [0, 1, 2, 3, 4, 5, 8, 9, 10, 11], [0, 1, 2, 3, 4, 8, 9, 10, 11, 12], [0, 1, 2, 3, 8, 9, 10, 11, 12, 13], [0, 1, 2, 8, 9, 10, 11, 12, 13, 14], [1, 2, 3, 4, 5, 6, 7, 8, 9, 10], [1, 2, 3, 4, 5, 6, 8, 9, 10, 11], [1, 2, 3, 4, 5, 8, 9, 10, 11, 12], [1, 2, 3, 4, 8, 9, 10, 11, 12, 13], [1, 2, 3, 8, 9, 10, 11, 12, 13, 14], [0, 1, 2, 3, 4, 5, 6, 7, 8, 9, 10], [0, 1, 2, 3, 4, 5, 6, 8, 9, 10, 11], [0, 1, 2, 3, 4, 5, 8, 9, 10, 11, 12], [0, 1, 2, 3, 4, 8, 9, 10, 11, 12, 13], [0, 1, 2, 3, 8, 9, 10, 11, 12, 13, 14], [1, 2, 3, 4, 5, 6, 7, 8, 9, 10, 11], [1, 2, 3, 4, 5, 6, 8, 9, 10, 11, 12], [1, 2, 3, 4, 5, 8, 9, 10, 11, 12, 13], [1, 2, 3, 4, 8, 9, 10, 11, 12, 13, 14], [0, 1, 2, 3, 4, 5, 6, 7, 8, 9, 10, 11], [0, 1, 2, 3, 4, 5, 6, 8, 9, 10, 11, 12], [0, 1, 2, 3, 4, 5, 8, 9, 10, 11, 12, 13], [0, 1, 2, 3, 4, 8, 9, 10, 11, 12, 13, 14], [1, 2, 3, 4, 5, 6, 7, 8, 9, 10, 11, 12], [1, 2, 3, 4, 5, 6, 8, 9, 10, 11, 12, 13], [1, 2, 3, 4, 5, 8, 9, 10, 11, 12, 13, 14], [0, 1, 2, 3, 4, 5, 6, 7, 8, 9, 10, 11, 12], [0, 1, 2, 3, 4, 5, 6, 8, 9, 10, 11, 12, 13], [0, 1, 2, 3, 4, 5, 8, 9, 10, 11, 12, 13, 14], [1, 2, 3, 4, 5, 6, 7, 8, 9, 10, 11, 12, 13], [1, 2, 3, 4, 5, 6, 8, 9, 10, 11, 12, 13, 14], [0, 1, 2, 3, 4, 5, 6, 7, 8, 9, 10, 11, 12, 13], [0, 1, 2, 3, 4, 5, 6, 8, 9, 10, 11, 12, 13, 14], [1, 2, 3, 4, 5, 6, 7, 8, 9, 10, 11, 12, 13, 14], [0, 1, 2, 3, 4, 5, 6, 7, 8, 9, 10, 11, 12, 13, 14], [1, 2, 3, 4, 5, 6, 7, 8, 9, 10, 11, 12, 13, 14, 15], [0, 1, 2, 3, 4, 5, 6, 7, 8, 9, 10, 11, 12, 13, 14, 15], [1, 2, 3, 4, 5, 6, 7, 8, 9, 10, 11, 12, 13, 14, 15, 16], [0, 1, 2, 3, 4, 5, 6, 7, 8, 9, 10, 11, 12, 13, 14, 15, 16], [0, 1, 2, 3, 4, 5, 6, 7, 8, 9, 10, 11, 12, 13, 14, 15, 16, 17], [0, 1, 2, 3, 4, 5, 6, 7, 8, 9, 10, 11, 12, 13, 14, 15, 16, 17, 18]] [(0, 0, 1), (0, 1, 2), (0, 2, 3), (0, 8, 4), (0, 9, 5), (1, 1, 6), (2, 0, 6), (1, 2, 7), (3, 0, 7), (1, 8, 8), (4, 0, 8), (1, 9, 9), (5, 0, 9), (2, 2, 10), (3, 1, 10), (2, 8, 11), (4, 1, 11), (2, 9, 12), (5, 1, 12), (3, 8, 13), (4, 2, 13), (3, 9, 14), (5, 2, 14), (4, 9, 15), (5, 8, 15), (6, 2, 16), (10, 0, 16), (7, 1, 16), (6, 8, 17), (11, 0, 17), (8, 1, 17), (6, 9, 18), (12, 0, 18), (9, 1, 18), (7, 8, 19), (13, 0, 19), (8, 2, 19), (7, 9, 20), (14, 0, 20), (9, 2, 20), (8, 9, 21), (15, 0, 21), (9, 8, 21), (10, 3, 22), (10, 8, 23), (13, 1, 23), (11, 2, 23), (10, 9, 24), (14, 1, 24), (12, 2, 24), (11, 9, 25), (15, 1, 25), (12, 8, 25), (13, 9, 26), (15, 2, 26), (14, 8, 26), (15, 10, 27), (16, 3, 28), (22, 0, 28), (16, 8, 29), (23, 0, 29), (19, 1, 29), (17, 2, 29), (16, 9, 30), (24, 0, 30), (20, 1, 30), (18, 2, 30), (17, 9, 31), (25, 0, 31), (21, 1, 31), (18, 8, 31), (19, 9, 32), (26, 0, 32), (21, 2, 32), (20, 8, 32), (21, 10, 33), (27, 0, 33), (22, 4, 34), (22, 8, 35), (23, 3, 35), (22, 9, 36), (24, 3, 36), (23, 9, 37), (26, 1, 37), (25, 2, 37), (24, 8, 37), (25, 10, 38), (27, 1, 38), (26, 10, 39), (27, 2, 39), (27, 11, 40), (28, 4, 41), (34, 0, 41), (28, 8, 42), (35, 0, 42), (29, 3, 42), (28, 9, 43), (36, 0, 43), (30, 3, 43), (29, 9, 44), (37, 0, 44), (32, 1, 44), (31, 2, 44), (30, 8, 44), (31, 10, 45), (38, 0, 45), (33, 1, 45), (32, 10, 46), (39, 0, 46), (33, 2, 46), (33, 11, 47), (40, 0, 47), (34, 5, 48), (34, 8, 49), (35, 4, 49), (34, 9, 50), (36, 4, 50), (35, 9, 51), (37, 3, 51), (36, 8, 51), (37, 10, 52), (39, 1, 52), (38, 2, 52), (38, 11, 53), (40, 1, 53), (39, 11, 54), (40, 2, 54), (40, 12, 55), (41, 5, 56), (48, 0, 56), (41, 8, 57), (49, 0, 57), (42, 4, 57), (41, 9, 58), (50, 0, 58), (43, 4, 58), (42, 9, 59), (51, 0, 59), (44, 3, 59), (43, 8, 59), (44, 10, 60), (52, 0, 60), (46, 1, 60), (45, 2, 60), (45, 11, 61), (53, 0, 61), (47, 1, 61), (46, 11, 62), (54, 0, 62), (47, 2, 62), (47, 12, 63), (55, 0, 63), (48, 6, 64), (48, 8, 65), (49, 5, 65), (48, 9, 66), (50, 5, 66), (49, 9, 67), (51, 4, 67), (50, 8, 67), (51, 10, 68), (52, 3, 68), (52, 11, 69), (54, 1, 69), (53, 2, 69), (53, 12, 70), (55, 1, 70), (54, 12, 71), (55, 2, 71), (55, 13, 72), (56, 6, 73), (64, 0, 73), (56, 8, 74), (65, 0, 74), (57, 5, 74), (56, 9, 75), (66, 0, 75), (58, 5, 75), (57, 9, 76), (67, 0, 76), (59, 4, 76), (58, 8, 76), (59, 10, 77), (68, 0, 77), (60, 3, 77), (60, 11, 78), (69, 0, 78), (62, 1, 78), (61, 2, 78), (61, 12, 79), (70, 0, 79), (63, 1, 79), (62, 12, 80), (71, 0, 80), (63, 2, 80), (63, 13, 81), (72, 0, 81), (64, 7, 82), (64, 8, 83), (65, 6, 83), (64, 9, 84), (66, 6, 84), (65, 9, 85), (67, 5, 85), (66, 8, 85), (67, 10, 86), (68, 4, 86), (68, 11, 87), (69, 3, 87), (69, 12, 88), (71, 1, 88), (70, 2, 88), (70, 13, 89), (72, 1, 89), (71, 13, 90), (72, 2, 90), (72, 14, 91), (73, 7, 92), (82, 0, 92), (73, 8, 93), (83, 0, 93), (74, 6, 93), (73, 9, 94), (84, 0, 94), (75, 6, 94), (74, 9, 95), (85, 0, 95), (76, 5, 95), (75, 8, 95), (76, 10, 96), (86, 0, 96), (77, 4, 96), (77, 11, 97), (87, 0, 97), (78, 3, 97), (78, 12, 98), (88, 0, 98), (80, 1, 98), (79, 2, 98), (79, 13, 99), (89, 0, 99), (81, 1, 99), (80, 13, 100), (90, 0, 100), (81, 2, 100), (81, 14, 101), (91, 0, 101), (82, 8, 102), (83, 7, 102), (82, 9, 103), (84, 7, 103), (83, 9, 104), (85, 6, 104), (84, 8, 104), (85, 10, 105), (86, 5, 105), (86, 11, 106), (87, 4, 106), (87, 12, 107), (88, 3, 107), (88, 13, 108), (90, 1, 108), (89, 2, 108), (89, 14, 109), (91, 1, 109), (90, 14, 110), (91, 2, 110), (92, 8, 111), (102, 0, 111), (93, 7, 111), (92, 9, 112), (103, 0, 112), (94, 7, 112), (93, 9, 113), (104, 0, 113), (95, 6, 113), (94, 8, 113), (95, 10, 114), (105, 0, 114), (96, 5, 114), (96, 11, 115), (106, 0, 115), (97, 4, 115), (97, 12, 116), (107, 0, 116), (98, 3, 116), (98, 13, 117), (108, 0, 117), (100, 1, 117), (99, 2, 117), (99, 14, 118), (109, 0, 118), (101, 1, 118), (100, 14, 119), (110, 0, 119), (101, 2, 119), (102, 9, 120), (104, 7, 120), (103, 8, 120), (104, 10, 121), (105, 6, 121), (105, 11, 122), (106, 5, 122), (106, 12, 123), (107, 4, 123), (107, 13, 124), (108, 3, 124), (108, 14, 125), (110, 1, 125), (109, 2, 125), (111, 9, 126), (120, 0, 126), (113, 7, 126), (112, 8, 126), (113, 10, 127), (121, 0, 127), (114, 6, 127), (114, 11, 128), (122, 0, 128), (115, 5, 128), (115, 12, 129), (123, 0, 129), (116, 4, 129), (116, 13, 130), (124, 0, 130), (117, 3, 130), (117, 14, 131), (125, 0, 131), (119, 1, 131), (118, 2, 131), (120, 10, 132), (121, 7, 132), (121, 11, 133), (122, 6, 133), (122, 12, 134), (123, 5, 134), (123, 13, 135), (124, 4, 135), (124, 14, 136), (125, 3, 136), (126, 10, 137), (132, 0, 137), (127, 7, 137), (127, 11, 138), (133, 0, 138), (128, 6, 138), (128, 12, 139), (134, 0, 139), (129, 5, 139), (129, 13, 140), (135, 0, 140), (130, 4, 140), (130, 14, 141), (136, 0, 141), (131, 3, 141), (132, 11, 142), (133, 7, 142), (133, 12, 143), (134, 6, 143), (134, 13, 144), (135, 5, 144), (135, 14, 145), (136, 4, 145), (137, 11, 146), (142, 0, 146), (138, 7, 146), (138, 12, 147), (143, 0, 147), (139, 6, 147), (139, 13, 148), (144, 0, 148), (140, 5, 148), (140, 14, 149), (145, 0, 149), (141, 4, 149), (142, 12, 150), (143, 7, 150), (143, 13, 151), (144, 6, 151), (144, 14, 152), (145, 5, 152), (146, 12, 153), (150, 0, 153), (147, 7, 153), (147, 13, 154), (151, 0, 154), (148, 6, 154), (148, 14, 155), (152, 0, 155), (149, 5, 155), (150, 13, 156), (151, 7, 156), (151, 14, 157), (152, 6, 157), (153, 13, 158), (156, 0, 158), (154, 7, 158), (154, 14, 159), (157, 0, 159), (155, 6, 159), (156, 14, 160), (157, 7, 160), (158, 14, 161), (160, 0, 161), (159, 7, 161), (160, 15, 162), (161, 15, 163), (162, 0, 163), (162, 16, 164), (163, 16, 165), (164, 0, 165), (165, 17, 166), (166, 18, 167)] (by kernel_rfl) (by kernel_rfl) (by kernel_rfl) ?_
        apply Dag.new (i := 0)
        case ha => rfl
        case ho => rfl
        case hb => rfl
        case hE =>
          intro w9
          refine AWl.put (R_move rfl (.no rfl) rfl (.tmp rfl fun _ => rfl)) rfl ?_
          refine AWl.nil ?_
          exact Le.sub0 (σ' := ⟨_, [(4, _), (5, _), (6, _), (30, _)], [(7, _)]⟩) rfl ⟨rfl, rfl, rfl, rfl, trivial⟩ ⟨rfl, trivial⟩
        apply Dag.new (i := 1)
        case ha => rfl
        case ho => rfl
        case hb => rfl
        case hE =>
          intro w9
          refine AWl.put (R_move rfl (.no rfl) rfl (.tmp rfl fun _ => rfl)) rfl ?_
          refine AWl.nil ?_
          exact Le.sub0 (σ' := ⟨_, [(4, _), (5, _), (6, _), (31, _)], [(7, _)]⟩) rfl ⟨rfl, rfl, rfl, rfl, trivial⟩ ⟨rfl, trivial⟩
        apply Dag.new (i := 2)
        case ha => rfl
        case ho => rfl
        case hb => rfl
        case hE =>
          intro w9
          refine AWl.put (R_move rfl (.no rfl) rfl (.tmp rfl fun _ => rfl)) rfl ?_
          refine AWl.nil ?_
          exact Le.sub0 (σ' := ⟨_, [(4, _), (5, _), (6, _), (32, _)], [(7, _)]⟩) rfl ⟨rfl, rfl, rfl, rfl, trivial⟩ ⟨rfl, trivial⟩
        apply Dag.new (i := 8)
        case ha => rfl
        case ho => rfl
        case hb => rfl
        case hE =>
          intro w9
          refine AWl.put (R_move rfl (.no rfl) rfl (.tmp rfl fun _ => rfl)) rfl ?_
          refine AWl.nil ?_
          exact Le.sub0 (σ' := ⟨_, [(4, _), (5, _), (6, _), (38, _)], [(7, _)]⟩) rfl ⟨rfl, rfl, rfl, rfl, trivial⟩ ⟨rfl, trivial⟩
        apply Dag.new (i := 9)
        case ha => rfl
        case ho => rfl
        case hb => rfl
        case hE =>
          intro w9
          refine AWl.put (R_move rfl (.no rfl) rfl (.tmp rfl fun _ => rfl)) rfl ?_
          refine AWl.nil ?_
          exact Le.sub0 (σ' := ⟨_, [(4, _), (5, _), (6, _), (39, _)], [(7, _)]⟩) rfl ⟨rfl, rfl, rfl, rfl, trivial⟩ ⟨rfl, trivial⟩
        apply Dag.new (i := 1)
        case ha => rfl
        case ho => rfl
        case hb => rfl
        case hE =>
          intro w9
          refine AWl.put (R_move rfl (.no rfl) rfl (.tmp rfl fun _ => rfl)) rfl ?_
          refine AWl.nil ?_
          exact Le.sub0 (σ' := ⟨_, [(4, _), (5, _), (6, _), (30, _), (31, _)], [(7, _)]⟩) rfl ⟨rfl, rfl, rfl, rfl, rfl, trivial⟩ ⟨rfl, trivial⟩
        apply Dag.old (i := 0)
        case ha => rfl
        case ho => rfl
        case hb => rfl
        case hE =>
          intro w9
          refine AWl.put (R_move rfl (.no rfl) rfl (.tmp rfl fun _ => rfl)) rfl ?_
          refine AWl.nil ?_
          exact Le.sub0 rfl ⟨rfl, rfl, rfl, rfl, rfl, trivial⟩ ⟨rfl, trivial⟩
        apply Dag.new (i := 2)
        case ha => rfl
        case ho => rfl
        case hb => rfl
        case hE =>
          intro w9
          refine AWl.put (R_move rfl (.no rfl) rfl (.tmp rfl fun _ => rfl)) rfl ?_
          refine AWl.nil ?_
          exact Le.sub0 (σ' := ⟨_, [(4, _), (5, _), (6, _), (30, _), (32, _)], [(7, _)]⟩) rfl ⟨rfl, rfl, rfl, rfl, rfl, trivial⟩ ⟨rfl, trivial⟩
        apply Dag.old (i := 0)
        case ha => rfl
        case ho => rfl
        case hb => rfl
        case hE =>
          intro w9
          refine AWl.put (R_move rfl (.no rfl) rfl (.tmp rfl fun _ => rfl)) rfl ?_
          refine AWl.nil ?_
          exact Le.sub0 rfl ⟨rfl, rfl, rfl, rfl, rfl, trivial⟩ ⟨rfl, trivial⟩
        apply Dag.new (i := 8)
        case ha => rfl
        case ho => rfl
        case hb => rfl
        case hE =>
          intro w9
          refine AWl.put (R_move rfl (.no rfl) rfl (.tmp rfl fun _ => rfl)) rfl ?_
          refine AWl.nil ?_
          exact Le.sub0 (σ' := ⟨_, [(4, _), (5, _), (6, _), (30, _), (38, _)], [(7, _)]⟩) rfl ⟨rfl, rfl, rfl, rfl, rfl, trivial⟩ ⟨rfl, trivial⟩
        apply Dag.old (i := 0)
        case ha => rfl
        case ho => rfl
        case hb => rfl
        case hE =>
          intro w9
          refine AWl.put (R_move rfl (.no rfl) rfl (.tmp rfl fun _ => rfl)) rfl ?_
          refine AWl.nil ?_
          exact Le.sub0 rfl ⟨rfl, rfl, rfl, rfl, rfl, trivial⟩ ⟨rfl, trivial⟩
        apply Dag.new (i := 9)
        case ha => rfl
        case ho => rfl
        case hb => rfl
        case hE =>
          intro w9
          refine AWl.put (R_move rfl (.no rfl) rfl (.tmp rfl fun _ => rfl)) rfl ?_
          refine AWl.nil ?_
          exact Le.sub0 (σ' := ⟨_, [(4, _), (5, _), (6, _), (30, _), (39, _)], [(7, _)]⟩) rfl ⟨rfl, rfl, rfl, rfl, rfl, trivial⟩ ⟨rfl, trivial⟩
        apply Dag.old (i := 0)
        case ha => rfl
        case ho => rfl
        case hb => rfl
        case hE =>
          intro w9
          refine AWl.put (R_move rfl (.no rfl) rfl (.tmp rfl fun _ => rfl)) rfl ?_
          refine AWl.nil ?_
          exact Le.sub0 rfl ⟨rfl, rfl, rfl, rfl, rfl, trivial⟩ ⟨rfl, trivial⟩
        apply Dag.new (i := 2)
        case ha => rfl
        case ho => rfl
        case hb => rfl
        case hE =>
          intro w9
          refine AWl.put (R_move rfl (.no rfl) rfl (.tmp rfl fun _ => rfl)) rfl ?_
          refine AWl.nil ?_
          exact Le.sub0 (σ' := ⟨_, [(4, _), (5, _), (6, _), (31, _), (32, _)], [(7, _)]⟩) rfl ⟨rfl, rfl, rfl, rfl, rfl, trivial⟩ ⟨rfl, trivial⟩
        apply Dag.old (i := 1)
        case ha => rfl
        case ho => rfl
        case hb => rfl
        case hE =>
          intro w9
          refine AWl.put (R_move rfl (.no rfl) rfl (.tmp rfl fun _ => rfl)) rfl ?_
          refine AWl.nil ?_
          exact Le.sub0 rfl ⟨rfl, rfl, rfl, rfl, rfl, trivial⟩ ⟨rfl, trivial⟩
        apply Dag.new (i := 8)
        case ha => rfl
        case ho => rfl
        case hb => rfl
        case hE =>
          intro w9
          refine AWl.put (R_move rfl (.no rfl) rfl (.tmp rfl fun _ => rfl)) rfl ?_
          refine AWl.nil ?_
          exact Le.sub0 (σ' := ⟨_, [(4, _), (5, _), (6, _), (31, _), (38, _)], [(7, _)]⟩) rfl ⟨rfl, rfl, rfl, rfl, rfl, trivial⟩ ⟨rfl, trivial⟩
        apply Dag.old (i := 1)
        case ha => rfl
        case ho => rfl
        case hb => rfl
        case hE =>
          intro w9
          refine AWl.put (R_move rfl (.no rfl) rfl (.tmp rfl fun _ => rfl)) rfl ?_
          refine AWl.nil ?_
          exact Le.sub0 rfl ⟨rfl, rfl, rfl, rfl, rfl, trivial⟩ ⟨rfl, trivial⟩
        apply Dag.new (i := 9)
        case ha => rfl
        case ho => rfl
        case hb => rfl
        case hE =>
          intro w9
          refine AWl.put (R_move rfl (.no rfl) rfl (.tmp rfl fun _ => rfl)) rfl ?_
          refine AWl.nil ?_
          exact Le.sub0 (σ' := ⟨_, [(4, _), (5, _), (6, _), (31, _), (39, _)], [(7, _)]⟩) rfl ⟨rfl, rfl, rfl, rfl, rfl, trivial⟩ ⟨rfl, trivial⟩
        apply Dag.old (i := 1)
        case ha => rfl
        case ho => rfl
        case hb => rfl
        case hE =>
          intro w9
          refine AWl.put (R_move rfl (.no rfl) rfl (.tmp rfl fun _ => rfl)) rfl ?_
          refine AWl.nil ?_
          exact Le.sub0 rfl ⟨rfl, rfl, rfl, rfl, rfl, trivial⟩ ⟨rfl, trivial⟩
        apply Dag.new (i := 8)
        case ha => rfl
        case ho => rfl
        case hb => rfl
        case hE =>
          intro w9
          refine AWl.put (R_move rfl (.no rfl) rfl (.tmp rfl fun _ => rfl)) rfl ?_
          refine AWl.nil ?_
          exact Le.sub0 (σ' := ⟨_, [(4, _), (5, _), (6, _), (32, _), (38, _)], [(7, _)]⟩) rfl ⟨rfl, rfl, rfl, rfl, rfl, trivial⟩ ⟨rfl, trivial⟩
        apply Dag.old (i := 2)
        case ha => rfl
        case ho => rfl
        case hb => rfl
        case hE =>
          intro w9
          refine AWl.put (R_move rfl (.no rfl) rfl (.tmp rfl fun _ => rfl)) rfl ?_
          refine AWl.nil ?_
          exact Le.sub0 rfl ⟨rfl, rfl, rfl, rfl, rfl, trivial⟩ ⟨rfl, trivial⟩
        apply Dag.new (i := 9)
        case ha => rfl
        case ho => rfl
        case hb => rfl
        case hE =>
          intro w9
          refine AWl.put (R_move rfl (.no rfl) rfl (.tmp rfl fun _ => rfl)) rfl ?_
          refine AWl.nil ?_
          exact Le.sub0 (σ' := ⟨_, [(4, _), (5, _), (6, _), (32, _), (39, _)], [(7, _)]⟩) rfl ⟨rfl, rfl, rfl, rfl, rfl, trivial⟩ ⟨rfl, trivial⟩
        apply Dag.old (i := 2)
        case ha => rfl
        case ho => rfl
        case hb => rfl
        case hE =>
          intro w9
          refine AWl.put (R_move rfl (.no rfl) rfl (.tmp rfl fun _ => rfl)) rfl ?_
          refine AWl.nil ?_
          exact Le.sub0 rfl ⟨rfl, rfl, rfl, rfl, rfl, trivial⟩ ⟨rfl, trivial⟩
        apply Dag.new (i := 9)
        case ha => rfl
        case ho => rfl
        case hb => rfl
        case hE =>
          intro w9
          refine AWl.put (R_move rfl (.no rfl) rfl (.tmp rfl fun _ => rfl)) rfl ?_
          refine AWl.nil ?_
          exact Le.sub0 (σ' := ⟨_, [(4, _), (5, _), (6, _), (38, _), (39, _)], [(7, _)]⟩) rfl ⟨rfl, rfl, rfl, rfl, rfl, trivial⟩ ⟨rfl, trivial⟩
        apply Dag.old (i := 8)
        case ha => rfl
        case ho => rfl
        case hb => rfl
        case hE =>
          intro w9
          refine AWl.put (R_move rfl (.no rfl) rfl (.tmp rfl fun _ => rfl)) rfl ?_
          refine AWl.nil ?_
          exact Le.sub0 rfl ⟨rfl, rfl, rfl, rfl, rfl, trivial⟩ ⟨rfl, trivial⟩
        apply Dag.new (i := 2)
        case ha => rfl
        case ho => rfl
        case hb => rfl
        case hE =>
          intro w9
          refine AWl.put (R_move rfl (.no rfl) rfl (.tmp rfl fun _ => rfl)) rfl ?_
          refine AWl.nil ?_
          exact Le.sub0 (σ' := ⟨_, [(4, _), (5, _), (6, _), (30, _), (31, _), (32, _)], [(7, _)]⟩) rfl ⟨rfl, rfl, rfl, rfl, rfl, rfl, trivial⟩ ⟨rfl, trivial⟩
        apply Dag.old (i := 0)
        case ha => rfl
        case ho => rfl
        case hb => rfl
        case hE =>
          intro w9
          refine AWl.put (R_move rfl (.no rfl) rfl (.tmp rfl fun _ => rfl)) rfl ?_
          refine AWl.nil ?_
          exact Le.sub0 rfl ⟨rfl, rfl, rfl, rfl, rfl, rfl, trivial⟩ ⟨rfl, trivial⟩
        apply Dag.old (i := 1)
        case ha => rfl
        case ho => rfl
        case hb => rfl
        case hE =>
          intro w9
          refine AWl.put (R_move rfl (.no rfl) rfl (.tmp rfl fun _ => rfl)) rfl ?_
          refine AWl.nil ?_
          exact Le.sub0 rfl ⟨rfl, rfl, rfl, rfl, rfl, rfl, trivial⟩ ⟨rfl, trivial⟩
        apply Dag.new (i := 8)
        case ha => rfl
        case ho => rfl
        case hb => rfl
        case hE =>
          intro w9
          refine AWl.put (R_move rfl (.no rfl) rfl (.tmp rfl fun _ => rfl)) rfl ?_
          refine AWl.nil ?_
          exact Le.sub0 (σ' := ⟨_, [(4, _), (5, _), (6, _), (30, _), (31, _), (38, _)], [(7, _)]⟩) rfl ⟨rfl, rfl, rfl, rfl, rfl, rfl, trivial⟩ ⟨rfl, trivial⟩
        apply Dag.old (i := 0)
        case ha => rfl
        case ho => rfl
        case hb => rfl
        case hE =>
          intro w9
          refine AWl.put (R_move rfl (.no rfl) rfl (.tmp rfl fun _ => rfl)) rfl ?_
          refine AWl.nil ?_
          exact Le.sub0 rfl ⟨rfl, rfl, rfl, rfl, rfl, rfl, trivial⟩ ⟨rfl, trivial⟩
        apply Dag.old (i := 1)
        case ha => rfl
        case ho => rfl
        case hb => rfl
        case hE =>
          intro w9
          refine AWl.put (R_move rfl (.no rfl) rfl (.tmp rfl fun _ => rfl)) rfl ?_
          refine AWl.nil ?_
          exact Le.sub0 rfl ⟨rfl, rfl, rfl, rfl, rfl, rfl, trivial⟩ ⟨rfl, trivial⟩
        apply Dag.new (i := 9)
        case ha => rfl
        case ho => rfl
        case hb => rfl
        case hE =>
          intro w9
          refine AWl.put (R_move rfl (.no rfl) rfl (.tmp rfl fun _ => rfl)) rfl ?_
          refine AWl.nil ?_
          exact Le.sub0 (σ' := ⟨_, [(4, _), (5, _), (6, _), (30, _), (31, _), (39, _)], [(7, _)]⟩) rfl ⟨rfl, rfl, rfl, rfl, rfl, rfl, trivial⟩ ⟨rfl, trivial⟩
        apply Dag.old (i := 0)
        case ha => rfl
        case ho => rfl
        case hb => rfl
        case hE =>
          intro w9
          refine AWl.put (R_move rfl (.no rfl) rfl (.tmp rfl fun _ => rfl)) rfl ?_
          refine AWl.nil ?_
          exact Le.sub0 rfl ⟨rfl, rfl, rfl, rfl, rfl, rfl, trivial⟩ ⟨rfl, trivial⟩
        apply Dag.old (i := 1)
        case ha => rfl
        case ho => rfl
        case hb => rfl
        case hE =>
          intro w9
          refine AWl.put (R_move rfl (.no rfl) rfl (.tmp rfl fun _ => rfl)) rfl ?_
          refine AWl.nil ?_
          exact Le.sub0 rfl ⟨rfl, rfl, rfl, rfl, rfl, rfl, trivial⟩ ⟨rfl, trivial⟩
        apply Dag.new (i := 8)
        case ha => rfl
        case ho => rfl
        case hb => rfl
        case hE =>
          intro w9
          refine AWl.put (R_move rfl (.no rfl) rfl (.tmp rfl fun _ => rfl)) rfl ?_
          refine AWl.nil ?_
          exact Le.sub0 (σ' := ⟨_, [(4, _), (5, _), (6, _), (30, _), (32, _), (38, _)], [(7, _)]⟩) rfl ⟨rfl, rfl, rfl, rfl, rfl, rfl, trivial⟩ ⟨rfl, trivial⟩
        apply Dag.old (i := 0)
        case ha => rfl
        case ho => rfl
        case hb => rfl
        case hE =>
          intro w9
          refine AWl.put (R_move rfl (.no rfl) rfl (.tmp rfl fun _ => rfl)) rfl ?_
          refine AWl.nil ?_
          exact Le.sub0 rfl ⟨rfl, rfl, rfl, rfl, rfl, rfl, trivial⟩ ⟨rfl, trivial⟩
        apply Dag.old (i := 2)
        case ha => rfl
        case ho => rfl
        case hb => rfl
        case hE =>
          intro w9
          refine AWl.put (R_move rfl (.no rfl) rfl (.tmp rfl fun _ => rfl)) rfl ?_
          refine AWl.nil ?_
          exact Le.sub0 rfl ⟨rfl, rfl, rfl, rfl, rfl, rfl, trivial⟩ ⟨rfl, trivial⟩
        apply Dag.new (i := 9)
        case ha => rfl
        case ho => rfl
        case hb => rfl
        case hE =>
          intro w9
          refine AWl.put (R_move rfl (.no rfl) rfl (.tmp rfl fun _ => rfl)) rfl ?_
          refine AWl.nil ?_
          exact Le.sub0 (σ' := ⟨_, [(4, _), (5, _), (6, _), (30, _), (32, _), (39, _)], [(7, _)]⟩) rfl ⟨rfl, rfl, rfl, rfl, rfl, rfl, trivial⟩ ⟨rfl, trivial⟩
        apply Dag.old (i := 0)
        case ha => rfl
        case ho => rfl
        case hb => rfl
        case hE =>
          intro w9
          refine AWl.put (R_move rfl (.no rfl) rfl (.tmp rfl fun _ => rfl)) rfl ?_
          refine AWl.nil ?_
          exact Le.sub0 rfl ⟨rfl, rfl, rfl, rfl, rfl, rfl, trivial⟩ ⟨rfl, trivial⟩
        apply Dag.old (i := 2)
        case ha => rfl
        case ho => rfl
        case hb => rfl
        case hE =>
          intro w9
          refine AWl.put (R_move rfl (.no rfl) rfl (.tmp rfl fun _ => rfl)) rfl ?_
          refine AWl.nil ?_
          exact Le.sub0 rfl ⟨rfl, rfl, rfl, rfl, rfl, rfl, trivial⟩ ⟨rfl, trivial⟩
        apply Dag.new (i := 9)
        case ha => rfl
        case ho => rfl
        case hb => rfl
        case hE =>
          intro w9
          refine AWl.put (R_move rfl (.no rfl) rfl (.tmp rfl fun _ => rfl)) rfl ?_
          refine AWl.nil ?_
          exact Le.sub0 (σ' := ⟨_, [(4, _), (5, _), (6, _), (30, _), (38, _), (39, _)], [(7, _)]⟩) rfl ⟨rfl, rfl, rfl, rfl, rfl, rfl, trivial⟩ ⟨rfl, trivial⟩
        apply Dag.old (i := 0)
        case ha => rfl
        case ho => rfl
        case hb => rfl
        case hE =>
          intro w9
          refine AWl.put (R_move rfl (.no rfl) rfl (.tmp rfl fun _ => rfl)) rfl ?_
          refine AWl.nil ?_
          exact Le.sub0 rfl ⟨rfl, rfl, rfl, rfl, rfl, rfl, trivial⟩ ⟨rfl, trivial⟩
        apply Dag.old (i := 8)
        case ha => rfl
        case ho => rfl
        case hb => rfl
        case hE =>
          intro w9
          refine AWl.put (R_move rfl (.no rfl) rfl (.tmp rfl fun _ => rfl)) rfl ?_
          refine AWl.nil ?_
          exact Le.sub0 rfl ⟨rfl, rfl, rfl, rfl, rfl, rfl, trivial⟩ ⟨rfl, trivial⟩
        apply Dag.new (i := 3)
        case ha => rfl
        case ho => rfl
        case hb => rfl
        case hE =>
          intro w9
          refine AWl.put ((by first | exact R_indexAddr rfl (.no rfl) rfl (.tmp rfl fun _ => rfl) (.tmp rfl fun _ => rfl) Tryd.underlying68 ty9 (fun _ => ⟨by omega, (map_get hx)⟩) | exact R_indexAddr_vw rfl (.no rfl) rfl (.tmp rfl fun _ => rfl) (.tmp rfl fun _ => rfl) Tryd.underlying68 ty9 (fun _ => ⟨by omega, (map_get hx)⟩) | exact R_indexAddr_rf rfl (.no rfl) rfl (.tmp rfl fun _ => rfl) rfl (.tmp rfl fun _ => rfl) Tryd.underlying68 ty9 (fun _ => ⟨by omega, (map_get hx)⟩))) rfl ?_
          refine AWl.nil ?_
          exact Le.sub0 (σ' := ⟨_, [(4, _), (5, _), (6, _), (33, _)], [(7, _)]⟩) rfl ⟨rfl, rfl, rfl, rfl, trivial⟩ ⟨rfl, trivial⟩
        apply Dag.new (i := 8)
        case ha => rfl
        case ho => rfl
        case hb => rfl
        case hE =>
          intro w9
          refine AWl.put (R_move rfl (.no rfl) rfl (.tmp rfl fun _ => rfl)) rfl ?_
          refine AWl.nil ?_
          exact Le.sub0 (σ' := ⟨_, [(4, _), (5, _), (6, _), (31, _), (32, _), (38, _)], [(7, _)]⟩) rfl ⟨rfl, rfl, rfl, rfl, rfl, rfl, trivial⟩ ⟨rfl, trivial⟩
        apply Dag.old (i := 1)
        case ha => rfl
        case ho => rfl
        case hb => rfl
        case hE =>
          intro w9
          refine AWl.put (R_move rfl (.no rfl) rfl (.tmp rfl fun _ => rfl)) rfl ?_
          refine AWl.nil ?_
          exact Le.sub0 rfl ⟨rfl, rfl, rfl, rfl, rfl, rfl, trivial⟩ ⟨rfl, trivial⟩
        apply Dag.old (i := 2)
        case ha => rfl
        case ho => rfl
        case hb => rfl
        case hE =>
          intro w9
          refine AWl.put (R_move rfl (.no rfl) rfl (.tmp rfl fun _ => rfl)) rfl ?_
          refine AWl.nil ?_
          exact Le.sub0 rfl ⟨rfl, rfl, rfl, rfl, rfl, rfl, trivial⟩ ⟨rfl, trivial⟩
        apply Dag.new (i := 9)
        case ha => rfl
        case ho => rfl
        case hb => rfl
        case hE =>
          intro w9
          refine AWl.put (R_move rfl (.no rfl) rfl (.tmp rfl fun _ => rfl)) rfl ?_
          refine AWl.nil ?_
          exact Le.sub0 (σ' := ⟨_, [(4, _), (5, _), (6, _), (31, _), (32, _), (39, _)], [(7, _)]⟩) rfl ⟨rfl, rfl, rfl, rfl, rfl, rfl, trivial⟩ ⟨rfl, trivial⟩
        apply Dag.old (i := 1)
        case ha => rfl
        case ho => rfl
        case hb => rfl
        case hE =>
          intro w9
          refine AWl.put (R_move rfl (.no rfl) rfl (.tmp rfl fun _ => rfl)) rfl ?_
          refine AWl.nil ?_
          exact Le.sub0 rfl ⟨rfl, rfl, rfl, rfl, rfl, rfl, trivial⟩ ⟨rfl, trivial⟩
        apply Dag.old (i := 2)
        case ha => rfl
        case ho => rfl
        case hb => rfl
        case hE =>
          intro w9
          refine AWl.put (R_move rfl (.no rfl) rfl (.tmp rfl fun _ => rfl)) rfl ?_
          refine AWl.nil ?_
          exact Le.sub0 rfl ⟨rfl, rfl, rfl, rfl, rfl, rfl, trivial⟩ ⟨rfl, trivial⟩
        apply Dag.new (i := 9)
        case ha => rfl
        case ho => rfl
        case hb => rfl
        case hE =>
          intro w9
          refine AWl.put (R_move rfl (.no rfl) rfl (.tmp rfl fun _ => rfl)) rfl ?_
          refine AWl.nil ?_
          exact Le.sub0 (σ' := ⟨_, [(4, _), (5, _), (6, _), (31, _), (38, _), (39, _)], [(7, _)]⟩) rfl ⟨rfl, rfl, rfl, rfl, rfl, rfl, trivial⟩ ⟨rfl, trivial⟩
        apply Dag.old (i := 1)
        case ha => rfl
        case ho => rfl
        case hb => rfl
        case hE =>
          intro w9
          refine AWl.put (R_move rfl (.no rfl) rfl (.tmp rfl fun _ => rfl)) rfl ?_
          refine AWl.nil ?_
          exact Le.sub0 rfl ⟨rfl, rfl, rfl, rfl, rfl, rfl, trivial⟩ ⟨rfl, trivial⟩
        apply Dag.old (i := 8)
        case ha => rfl
        case ho => rfl
        case hb => rfl
        case hE =>
          intro w9
          refine AWl.put (R_move rfl (.no rfl) rfl (.tmp rfl fun _ => rfl)) rfl ?_
          refine AWl.nil ?_
          exact Le.sub0 rfl ⟨rfl, rfl, rfl, rfl, rfl, rfl, trivial⟩ ⟨rfl, trivial⟩
        apply Dag.new (i := 9)
        case ha => rfl
        case ho => rfl
        case hb => rfl
        case hE =>
          intro w9
          refine AWl.put (R_move rfl (.no rfl) rfl (.tmp rfl fun _ => rfl)) rfl ?_
          refine AWl.nil ?_
          exact Le.sub0 (σ' := ⟨_, [(4, _), (5, _), (6, _), (32, _), (38, _), (39, _)], [(7, _)]⟩) rfl ⟨rfl, rfl, rfl, rfl, rfl, rfl, trivial⟩ ⟨rfl, trivial⟩
        apply Dag.old (i := 2)
        case ha => rfl
        case ho => rfl
        case hb => rfl
        case hE =>
          intro w9
          refine AWl.put (R_move rfl (.no rfl) rfl (.tmp rfl fun _ => rfl)) rfl ?_
          refine AWl.nil ?_
          exact Le.sub0 rfl ⟨rfl, rfl, rfl, rfl, rfl, rfl, trivial⟩ ⟨rfl, trivial⟩
        apply Dag.old (i := 8)
        case ha => rfl
        case ho => rfl
        case hb => rfl
        case hE =>
          intro w9
          refine AWl.put (R_move rfl (.no rfl) rfl (.tmp rfl fun _ => rfl)) rfl ?_
          refine AWl.nil ?_
          exact Le.sub0 rfl ⟨rfl, rfl, rfl, rfl, rfl, rfl, trivial⟩ ⟨rfl, trivial⟩
        apply Dag.new (i := 10)
        case ha => rfl
        case ho => rfl
        case hb => rfl
        case hE =>
          intro w9
          refine AWl.put ((by first | exact R_indexAddr rfl (.no rfl) rfl (.tmp rfl fun _ => rfl) (.tmp rfl fun _ => rfl) Tryd.underlying68 ty9 (fun _ => ⟨by omega, (map_get hx)⟩) | exact R_indexAddr_vw rfl (.no rfl) rfl (.tmp rfl fun _ => rfl) (.tmp rfl fun _ => rfl) Tryd.underlying68 ty9 (fun _ => ⟨by omega, (map_get hx)⟩) | exact R_indexAddr_rf rfl (.no rfl) rfl (.tmp rfl fun _ => rfl) rfl (.tmp rfl fun _ => rfl) Tryd.underlying68 ty9 (fun _ => ⟨by omega, (map_get hx)⟩))) rfl ?_
          refine AWl.nil ?_
          exact Le.sub0 (σ' := ⟨_, [(4, _), (5, _), (6, _), (40, _)], [(7, _)]⟩) rfl ⟨rfl, rfl, rfl, rfl, trivial⟩ ⟨rfl, trivial⟩
        apply Dag.new (i := 3)
        case ha => rfl
        case ho => rfl
        case hb => rfl
        case hE =>
          intro w9
          refine AWl.put ((by first | exact R_indexAddr rfl (.no rfl) rfl (.tmp rfl fun _ => rfl) (.tmp rfl fun _ => rfl) Tryd.underlying68 ty9 (fun _ => ⟨by omega, (map_get hx)⟩) | exact R_indexAddr_vw rfl (.no rfl) rfl (.tmp rfl fun _ => rfl) (.tmp rfl fun _ => rfl) Tryd.underlying68 ty9 (fun _ => ⟨by omega, (map_get hx)⟩) | exact R_indexAddr_rf rfl (.no rfl) rfl (.tmp rfl fun _ => rfl) rfl (.tmp rfl fun _ => rfl) Tryd.underlying68 ty9 (fun _ => ⟨by omega, (map_get hx)⟩))) rfl ?_
          refine AWl.nil ?_
          exact Le.sub0 (σ' := ⟨_, [(4, _), (5, _), (6, _), (30, _), (33, _)], [(7, _)]⟩) rfl ⟨rfl, rfl, rfl, rfl, rfl, trivial⟩ ⟨rfl, trivial⟩
        apply Dag.old (i := 0)
        case ha => rfl
        case ho => rfl
        case hb => rfl
        case hE =>
          intro w9
          refine AWl.put (R_move rfl (.no rfl) rfl (.tmp rfl fun _ => rfl)) rfl ?_
          refine AWl.nil ?_
          exact Le.sub0 rfl ⟨rfl, rfl, rfl, rfl, rfl, trivial⟩ ⟨rfl, trivial⟩
        apply Dag.new (i := 8)
        case ha => rfl
        case ho => rfl
        case hb => rfl
        case hE =>
          intro w9
          refine AWl.put (R_move rfl (.no rfl) rfl (.tmp rfl fun _ => rfl)) rfl ?_
          refine AWl.nil ?_
          exact Le.sub0 (σ' := ⟨_, [(4, _), (5, _), (6, _), (30, _), (31, _), (32, _), (38, _)], [(7, _)]⟩) rfl ⟨rfl, rfl, rfl, rfl, rfl, rfl, rfl, trivial⟩ ⟨rfl, trivial⟩
        apply Dag.old (i := 0)
        case ha => rfl
        case ho => rfl
        case hb => rfl
        case hE =>
          intro w9
          refine AWl.put (R_move rfl (.no rfl) rfl (.tmp rfl fun _ => rfl)) rfl ?_
          refine AWl.nil ?_
          exact Le.sub0 rfl ⟨rfl, rfl, rfl, rfl, rfl, rfl, rfl, trivial⟩ ⟨rfl, trivial⟩
        apply Dag.old (i := 1)
        case ha => rfl
        case ho => rfl
        case hb => rfl
        case hE =>
          intro w9
          refine AWl.put (R_move rfl (.no rfl) rfl (.tmp rfl fun _ => rfl)) rfl ?_
          refine AWl.nil ?_
          exact Le.sub0 rfl ⟨rfl, rfl, rfl, rfl, rfl, rfl, rfl, trivial⟩ ⟨rfl, trivial⟩
        apply Dag.old (i := 2)
        case ha => rfl
        case ho => rfl
        case hb => rfl
        case hE =>
          intro w9
          refine AWl.put (R_move rfl (.no rfl) rfl (.tmp rfl fun _ => rfl)) rfl ?_
          refine AWl.nil ?_
          exact Le.sub0 rfl ⟨rfl, rfl, rfl, rfl, rfl, rfl, rfl, trivial⟩ ⟨rfl, trivial⟩
        apply Dag.new (i := 9)
        case ha => rfl
        case ho => rfl
        case hb => rfl
        case hE =>
          intro w9
          refine AWl.put (R_move rfl (.no rfl) rfl (.tmp rfl fun _ => rfl)) rfl ?_
          refine AWl.nil ?_
          exact Le.sub0 (σ' := ⟨_, [(4, _), (5, _), (6, _), (30, _), (31, _), (32, _), (39, _)], [(7, _)]⟩) rfl ⟨rfl, rfl, rfl, rfl, rfl, rfl, rfl, trivial⟩ ⟨rfl, trivial⟩
        apply Dag.old (i := 0)
        case ha => rfl
        case ho => rfl
        case hb => rfl
        case hE =>
          intro w9
          refine AWl.put (R_move rfl (.no rfl) rfl (.tmp rfl fun _ => rfl)) rfl ?_
          refine AWl.nil ?_
          exact Le.sub0 rfl ⟨rfl, rfl, rfl, rfl, rfl, rfl, rfl, trivial⟩ ⟨rfl, trivial⟩
        apply Dag.old (i := 1)
        case ha => rfl
        case ho => rfl
        case hb => rfl
        case hE =>
          intro w9
          refine AWl.put (R_move rfl (.no rfl) rfl (.tmp rfl fun _ => rfl)) rfl ?_
          refine AWl.nil ?_
          exact Le.sub0 rfl ⟨rfl, rfl, rfl, rfl, rfl, rfl, rfl, trivial⟩ ⟨rfl, trivial⟩
        apply Dag.old (i := 2)
        case ha => rfl
        case ho => rfl
        case hb => rfl
        case hE =>
          intro w9
          refine AWl.put (R_move rfl (.no rfl) rfl (.tmp rfl fun _ => rfl)) rfl ?_
          refine AWl.nil ?_
          exact Le.sub0 rfl ⟨rfl, rfl, rfl, rfl, rfl, rfl, rfl, trivial⟩ ⟨rfl, trivial⟩
        apply Dag.new (i := 9)
        case ha => rfl
        case ho => rfl
        case hb => rfl
        case hE =>
          intro w9
          refine AWl.put (R_move rfl (.no rfl) rfl (.tmp rfl fun _ => rfl)) rfl ?_
          refine AWl.nil ?_
          exact Le.sub0 (σ' := ⟨_, [(4, _), (5, _), (6, _), (30, _), (31, _), (38, _), (39, _)], [(7, _)]⟩) rfl ⟨rfl, rfl, rfl, rfl, rfl, rfl, rfl, trivial⟩ ⟨rfl, trivial⟩
        apply Dag.old (i := 0)
        case ha => rfl
        case ho => rfl
        case hb => rfl
        case hE =>
          intro w9
          refine AWl.put (R_move rfl (.no rfl) rfl (.tmp rfl fun _ => rfl)) rfl ?_
          refine AWl.nil ?_
          exact Le.sub0 rfl ⟨rfl, rfl, rfl, rfl, rfl, rfl, rfl, trivial⟩ ⟨rfl, trivial⟩
        apply Dag.old (i := 1)
        case ha => rfl
        case ho => rfl
        case hb => rfl
        case hE =>
          intro w9
          refine AWl.put (R_move rfl (.no rfl) rfl (.tmp rfl fun _ => rfl)) rfl ?_
          refine AWl.nil ?_
          exact Le.sub0 rfl ⟨rfl, rfl, rfl, rfl, rfl, rfl, rfl, trivial⟩ ⟨rfl, trivial⟩
        apply Dag.old (i := 8)
        case ha => rfl
        case ho => rfl
        case hb => rfl
        case hE =>
          intro w9
          refine AWl.put (R_move rfl (.no rfl) rfl (.tmp rfl fun _ => rfl)) rfl ?_
          refine AWl.nil ?_
          exact Le.sub0 rfl ⟨rfl, rfl, rfl, rfl, rfl, rfl, rfl, trivial⟩ ⟨rfl, trivial⟩
        apply Dag.new (i := 9)
        case ha => rfl
        case ho => rfl
        case hb => rfl
        case hE =>
          intro w9
          refine AWl.put (R_move rfl (.no rfl) rfl (.tmp rfl fun _ => rfl)) rfl ?_
          refine AWl.nil ?_
          exact Le.sub0 (σ' := ⟨_, [(4, _), (5, _), (6, _), (30, _), (32, _), (38, _), (39, _)], [(7, _)]⟩) rfl ⟨rfl, rfl, rfl, rfl, rfl, rfl, rfl, trivial⟩ ⟨rfl, trivial⟩
        apply Dag.old (i := 0)
        case ha => rfl
        case ho => rfl
        case hb => rfl
        case hE =>
          intro w9
          refine AWl.put (R_move rfl (.no rfl) rfl (.tmp rfl fun _ => rfl)) rfl ?_
          refine AWl.nil ?_
          exact Le.sub0 rfl ⟨rfl, rfl, rfl, rfl, rfl, rfl, rfl, trivial⟩ ⟨rfl, trivial⟩
        apply Dag.old (i := 2)
        case ha => rfl
        case ho => rfl
        case hb => rfl
        case hE =>
          intro w9
          refine AWl.put (R_move rfl (.no rfl) rfl (.tmp rfl fun _ => rfl)) rfl ?_
          refine AWl.nil ?_
          exact Le.sub0 rfl ⟨rfl, rfl, rfl, rfl, rfl, rfl, rfl, trivial⟩ ⟨rfl, trivial⟩
        apply Dag.old (i := 8)
        case ha => rfl
        case ho => rfl
        case hb => rfl
        case hE =>
          intro w9
          refine AWl.put (R_move rfl (.no rfl) rfl (.tmp rfl fun _ => rfl)) rfl ?_
          refine AWl.nil ?_
          exact Le.sub0 rfl ⟨rfl, rfl, rfl, rfl, rfl, rfl, rfl, trivial⟩ ⟨rfl, trivial⟩
        apply Dag.new (i := 10)
        case ha => rfl
        case ho => rfl
        case hb => rfl
        case hE =>
          intro w9
          refine AWl.put ((by first | exact R_indexAddr rfl (.no rfl) rfl (.tmp rfl fun _ => rfl) (.tmp rfl fun _ => rfl) Tryd.underlying68 ty9 (fun _ => ⟨by omega, (map_get hx)⟩) | exact R_indexAddr_vw rfl (.no rfl) rfl (.tmp rfl fun _ => rfl) (.tmp rfl fun _ => rfl) Tryd.underlying68 ty9 (fun _ => ⟨by omega, (map_get hx)⟩) | exact R_indexAddr_rf rfl (.no rfl) rfl (.tmp rfl fun _ => rfl) rfl (.tmp rfl fun _ => rfl) Tryd.underlying68 ty9 (fun _ => ⟨by omega, (map_get hx)⟩))) rfl ?_
          refine AWl.nil ?_
          exact Le.sub0 (σ' := ⟨_, [(4, _), (5, _), (6, _), (30, _), (40, _)], [(7, _)]⟩) rfl ⟨rfl, rfl, rfl, rfl, rfl, trivial⟩ ⟨rfl, trivial⟩
        apply Dag.old (i := 0)
        case ha => rfl
        case ho => rfl
        case hb => rfl
        case hE =>
          intro w9
          refine AWl.put (R_move rfl (.no rfl) rfl (.tmp rfl fun _ => rfl)) rfl ?_
          refine AWl.nil ?_
          exact Le.sub0 rfl ⟨rfl, rfl, rfl, rfl, rfl, trivial⟩ ⟨rfl, trivial⟩
        apply Dag.new (i := 4)
        case ha => rfl
        case ho => rfl
        case hb => rfl
        case hE =>
          intro w9
          refine AWl.put ((by first | exact R_load rfl (.no rfl) rfl (.tmp rfl fun _ => rfl) ty9 rfl rfl | exact R_load_pp rfl (.no rfl) rfl (.tmp rfl fun _ => rfl) rfl ty9 rfl rfl | exact R_load_vw rfl (.no rfl) rfl (.tmp rfl fun _ => rfl) ty9 rfl rfl | exact R_load_pr rfl (.no rfl) rfl (.tmp rfl fun _ => rfl) rfl (map_get hx) ty9 rfl rfl)) rfl ?_
          refine AWl.nil ?_
          exact Le.sub0 (σ' := ⟨_, [(4, _), (5, _), (6, _), (34, _)], [(7, _)]⟩) rfl ⟨rfl, rfl, rfl, rfl, trivial⟩ ⟨rfl, trivial⟩
        apply Dag.new (i := 8)
        case ha => rfl
        case ho => rfl
        case hb => rfl
        case hE =>
          intro w9
          refine AWl.put (R_move rfl (.no rfl) rfl (.tmp rfl fun _ => rfl)) rfl ?_
          refine AWl.nil ?_
          exact Le.sub0 (σ' := ⟨_, [(4, _), (5, _), (6, _), (33, _), (38, _)], [(7, _)]⟩) rfl ⟨rfl, rfl, rfl, rfl, rfl, trivial⟩ ⟨rfl, trivial⟩
        apply Dag.old (i := 3)
        case ha => rfl
        case ho => rfl
        case hb => rfl
        case hE =>
          intro w9
          refine AWl.put ((by first | exact R_indexAddr rfl (.no rfl) rfl (.tmp rfl fun _ => rfl) (.tmp rfl fun _ => rfl) Tryd.underlying68 ty9 (fun _ => ⟨by omega, (map_get hx)⟩) | exact R_indexAddr_vw rfl (.no rfl) rfl (.tmp rfl fun _ => rfl) (.tmp rfl fun _ => rfl) Tryd.underlying68 ty9 (fun _ => ⟨by omega, (map_get hx)⟩) | exact R_indexAddr_rf rfl (.no rfl) rfl (.tmp rfl fun _ => rfl) rfl (.tmp rfl fun _ => rfl) Tryd.underlying68 ty9 (fun _ => ⟨by omega, (map_get hx)⟩))) rfl ?_
          refine AWl.nil ?_
          exact Le.sub0 rfl ⟨rfl, rfl, rfl, rfl, rfl, trivial⟩ ⟨rfl, trivial⟩
        apply Dag.new (i := 9)
        case ha => rfl
        case ho => rfl
        case hb => rfl
        case hE =>
          intro w9
          refine AWl.put (R_move rfl (.no rfl) rfl (.tmp rfl fun _ => rfl)) rfl ?_
          refine AWl.nil ?_
          exact Le.sub0 (σ' := ⟨_, [(4, _), (5, _), (6, _), (33, _), (39, _)], [(7, _)]⟩) rfl ⟨rfl, rfl, rfl, rfl, rfl, trivial⟩ ⟨rfl, trivial⟩
        apply Dag.old (i := 3)
        case ha => rfl
        case ho => rfl
        case hb => rfl
        case hE =>
          intro w9
          refine AWl.put ((by first | exact R_indexAddr rfl (.no rfl) rfl (.tmp rfl fun _ => rfl) (.tmp rfl fun _ => rfl) Tryd.underlying68 ty9 (fun _ => ⟨by omega, (map_get hx)⟩) | exact R_indexAddr_vw rfl (.no rfl) rfl (.tmp rfl fun _ => rfl) (.tmp rfl fun _ => rfl) Tryd.underlying68 ty9 (fun _ => ⟨by omega, (map_get hx)⟩) | exact R_indexAddr_rf rfl (.no rfl) rfl (.tmp rfl fun _ => rfl) rfl (.tmp rfl fun _ => rfl) Tryd.underlying68 ty9 (fun _ => ⟨by omega, (map_get hx)⟩))) rfl ?_
          refine AWl.nil ?_
          exact Le.sub0 rfl ⟨rfl, rfl, rfl, rfl, rfl, trivial⟩ ⟨rfl, trivial⟩
        apply Dag.new (i := 9)
        case ha => rfl
        case ho => rfl
        case hb => rfl
        case hE =>
          intro w9
          refine AWl.put (R_move rfl (.no rfl) rfl (.tmp rfl fun _ => rfl)) rfl ?_
          refine AWl.nil ?_
          exact Le.sub0 (σ' := ⟨_, [(4, _), (5, _), (6, _), (31, _), (32, _), (38, _), (39, _)], [(7, _)]⟩) rfl ⟨rfl, rfl, rfl, rfl, rfl, rfl, rfl, trivial⟩ ⟨rfl, trivial⟩
        apply Dag.old (i := 1)
        case ha => rfl
        case ho => rfl
        case hb => rfl
        case hE =>
          intro w9
          refine AWl.put (R_move rfl (.no rfl) rfl (.tmp rfl fun _ => rfl)) rfl ?_
          refine AWl.nil ?_
          exact Le.sub0 rfl ⟨rfl, rfl, rfl, rfl, rfl, rfl, rfl, trivial⟩ ⟨rfl, trivial⟩
        apply Dag.old (i := 2)
        case ha => rfl
        case ho => rfl
        case hb => rfl
        case hE =>
          intro w9
          refine AWl.put (R_move rfl (.no rfl) rfl (.tmp rfl fun _ => rfl)) rfl ?_
          refine AWl.nil ?_
          exact Le.sub0 rfl ⟨rfl, rfl, rfl, rfl, rfl, rfl, rfl, trivial⟩ ⟨rfl, trivial⟩
        apply Dag.old (i := 8)
        case ha => rfl
        case ho => rfl
        case hb => rfl
        case hE =>
          intro w9
          refine AWl.put (R_move rfl (.no rfl) rfl (.tmp rfl fun _ => rfl)) rfl ?_
          refine AWl.nil ?_
          exact Le.sub0 rfl ⟨rfl, rfl, rfl, rfl, rfl, rfl, rfl, trivial⟩ ⟨rfl, trivial⟩
        apply Dag.new (i := 10)
        case ha => rfl
        case ho => rfl
        case hb => rfl
        case hE =>
          intro w9
          refine AWl.put ((by first | exact R_indexAddr rfl (.no rfl) rfl (.tmp rfl fun _ => rfl) (.tmp rfl fun _ => rfl) Tryd.underlying68 ty9 (fun _ => ⟨by omega, (map_get hx)⟩) | exact R_indexAddr_vw rfl (.no rfl) rfl (.tmp rfl fun _ => rfl) (.tmp rfl fun _ => rfl) Tryd.underlying68 ty9 (fun _ => ⟨by omega, (map_get hx)⟩) | exact R_indexAddr_rf rfl (.no rfl) rfl (.tmp rfl fun _ => rfl) rfl (.tmp rfl fun _ => rfl) Tryd.underlying68 ty9 (fun _ => ⟨by omega, (map_get hx)⟩))) rfl ?_
          refine AWl.nil ?_
          exact Le.sub0 (σ' := ⟨_, [(4, _), (5, _), (6, _), (31, _), (40, _)], [(7, _)]⟩) rfl ⟨rfl, rfl, rfl, rfl, rfl, trivial⟩ ⟨rfl, trivial⟩
        apply Dag.old (i := 1)
        case ha => rfl
        case ho => rfl
        case hb => rfl
        case hE =>
          intro w9
          refine AWl.put (R_move rfl (.no rfl) rfl (.tmp rfl fun _ => rfl)) rfl ?_
          refine AWl.nil ?_
          exact Le.sub0 rfl ⟨rfl, rfl, rfl, rfl, rfl, trivial⟩ ⟨rfl, trivial⟩
        apply Dag.new (i := 10)
        case ha => rfl
        case ho => rfl
        case hb => rfl
        case hE =>
          intro w9
          refine AWl.put ((by first | exact R_indexAddr rfl (.no rfl) rfl (.tmp rfl fun _ => rfl) (.tmp rfl fun _ => rfl) Tryd.underlying68 ty9 (fun _ => ⟨by omega, (map_get hx)⟩) | exact R_indexAddr_vw rfl (.no rfl) rfl (.tmp rfl fun _ => rfl) (.tmp rfl fun _ => rfl) Tryd.underlying68 ty9 (fun _ => ⟨by omega, (map_get hx)⟩) | exact R_indexAddr_rf rfl (.no rfl) rfl (.tmp rfl fun _ => rfl) rfl (.tmp rfl fun _ => rfl) Tryd.underlying68 ty9 (fun _ => ⟨by omega, (map_get hx)⟩))) rfl ?_
          refine AWl.nil ?_
          exact Le.sub0 (σ' := ⟨_, [(4, _), (5, _), (6, _), (32, _), (40, _)], [(7, _)]⟩) rfl ⟨rfl, rfl, rfl, rfl, rfl, trivial⟩ ⟨rfl, trivial⟩
        apply Dag.old (i := 2)
        case ha => rfl
        case ho => rfl
        case hb => rfl
        case hE =>
          intro w9
          refine AWl.put (R_move rfl (.no rfl) rfl (.tmp rfl fun _ => rfl)) rfl ?_
          refine AWl.nil ?_
          exact Le.sub0 rfl ⟨rfl, rfl, rfl, rfl, rfl, trivial⟩ ⟨rfl, trivial⟩
        apply Dag.new (i := 11)
        case ha => rfl
        case ho => rfl
        case hb => rfl
        case hE =>
          intro w9
          refine AWl.put ((by first | exact R_load rfl (.no rfl) rfl (.tmp rfl fun _ => rfl) ty9 rfl rfl | exact R_load_pp rfl (.no rfl) rfl (.tmp rfl fun _ => rfl) rfl ty9 rfl rfl | exact R_load_vw rfl (.no rfl) rfl (.tmp rfl fun _ => rfl) ty9 rfl rfl | exact R_load_pr rfl (.no rfl) rfl (.tmp rfl fun _ => rfl) rfl (map_get hx) ty9 rfl rfl)) rfl ?_
          refine AWl.nil ?_
          exact Le.sub0 (σ' := ⟨_, [(4, _), (5, _), (6, _), (41, _)], [(7, _)]⟩) rfl ⟨rfl, rfl, rfl, rfl, trivial⟩ ⟨rfl, trivial⟩
        apply Dag.new (i := 4)
        case ha => rfl
        case ho => rfl
        case hb => rfl
        case hE =>
          intro w9
          refine AWl.put ((by first | exact R_load rfl (.no rfl) rfl (.tmp rfl fun _ => rfl) ty9 rfl rfl | exact R_load_pp rfl (.no rfl) rfl (.tmp rfl fun _ => rfl) rfl ty9 rfl rfl | exact R_load_vw rfl (.no rfl) rfl (.tmp rfl fun _ => rfl) ty9 rfl rfl | exact R_load_pr rfl (.no rfl) rfl (.tmp rfl fun _ => rfl) rfl (map_get hx) ty9 rfl rfl)) rfl ?_
          refine AWl.nil ?_
          exact Le.sub0 (σ' := ⟨_, [(4, _), (5, _), (6, _), (30, _), (34, _)], [(7, _)]⟩) rfl ⟨rfl, rfl, rfl, rfl, rfl, trivial⟩ ⟨rfl, trivial⟩
        apply Dag.old (i := 0)
        case ha => rfl
        case ho => rfl
        case hb => rfl
        case hE =>
          intro w9
          refine AWl.put (R_move rfl (.no rfl) rfl (.tmp rfl fun _ => rfl)) rfl ?_
          refine AWl.nil ?_
          exact Le.sub0 rfl ⟨rfl, rfl, rfl, rfl, rfl, trivial⟩ ⟨rfl, trivial⟩
        apply Dag.new (i := 8)
        case ha => rfl
        case ho => rfl
        case hb => rfl
        case hE =>
          intro w9
          refine AWl.put (R_move rfl (.no rfl) rfl (.tmp rfl fun _ => rfl)) rfl ?_
          refine AWl.nil ?_
          exact Le.sub0 (σ' := ⟨_, [(4, _), (5, _), (6, _), (30, _), (33, _), (38, _)], [(7, _)]⟩) rfl ⟨rfl, rfl, rfl, rfl, rfl, rfl, trivial⟩ ⟨rfl, trivial⟩
        apply Dag.old (i := 0)
        case ha => rfl
        case ho => rfl
        case hb => rfl
        case hE =>
          intro w9
          refine AWl.put (R_move rfl (.no rfl) rfl (.tmp rfl fun _ => rfl)) rfl ?_
          refine AWl.nil ?_
          exact Le.sub0 rfl ⟨rfl, rfl, rfl, rfl, rfl, rfl, trivial⟩ ⟨rfl, trivial⟩
        apply Dag.old (i := 3)
        case ha => rfl
        case ho => rfl
        case hb => rfl
        case hE =>
          intro w9
          refine AWl.put ((by first | exact R_indexAddr rfl (.no rfl) rfl (.tmp rfl fun _ => rfl) (.tmp rfl fun _ => rfl) Tryd.underlying68 ty9 (fun _ => ⟨by omega, (map_get hx)⟩) | exact R_indexAddr_vw rfl (.no rfl) rfl (.tmp rfl fun _ => rfl) (.tmp rfl fun _ => rfl) Tryd.underlying68 ty9 (fun _ => ⟨by omega, (map_get hx)⟩) | exact R_indexAddr_rf rfl (.no rfl) rfl (.tmp rfl fun _ => rfl) rfl (.tmp rfl fun _ => rfl) Tryd.underlying68 ty9 (fun _ => ⟨by omega, (map_get hx)⟩))) rfl ?_
          refine AWl.nil ?_
          exact Le.sub0 rfl ⟨rfl, rfl, rfl, rfl, rfl, rfl, trivial⟩ ⟨rfl, trivial⟩
        apply Dag.new (i := 9)
        case ha => rfl
        case ho => rfl
        case hb => rfl
        case hE =>
          intro w9
          refine AWl.put (R_move rfl (.no rfl) rfl (.tmp rfl fun _ => rfl)) rfl ?_
          refine AWl.nil ?_
          exact Le.sub0 (σ' := ⟨_, [(4, _), (5, _), (6, _), (30, _), (33, _), (39, _)], [(7, _)]⟩) rfl ⟨rfl, rfl, rfl, rfl, rfl, rfl, trivial⟩ ⟨rfl, trivial⟩
        apply Dag.old (i := 0)
        case ha => rfl
        case ho => rfl
        case hb => rfl
        case hE =>
          intro w9
          refine AWl.put (R_move rfl (.no rfl) rfl (.tmp rfl fun _ => rfl)) rfl ?_
          refine AWl.nil ?_
          exact Le.sub0 rfl ⟨rfl, rfl, rfl, rfl, rfl, rfl, trivial⟩ ⟨rfl, trivial⟩
        apply Dag.old (i := 3)
        case ha => rfl
        case ho => rfl
        case hb => rfl
        case hE =>
          intro w9
          refine AWl.put ((by first | exact R_indexAddr rfl (.no rfl) rfl (.tmp rfl fun _ => rfl) (.tmp rfl fun _ => rfl) Tryd.underlying68 ty9 (fun _ => ⟨by omega, (map_get hx)⟩) | exact R_indexAddr_vw rfl (.no rfl) rfl (.tmp rfl fun _ => rfl) (.tmp rfl fun _ => rfl) Tryd.underlying68 ty9 (fun _ => ⟨by omega, (map_get hx)⟩) | exact R_indexAddr_rf rfl (.no rfl) rfl (.tmp rfl fun _ => rfl) rfl (.tmp rfl fun _ => rfl) Tryd.underlying68 ty9 (fun _ => ⟨by omega, (map_get hx)⟩))) rfl ?_
          refine AWl.nil ?_
          exact Le.sub0 rfl ⟨rfl, rfl, rfl, rfl, rfl, rfl, trivial⟩ ⟨rfl, trivial⟩
        apply Dag.new (i := 9)
        case ha => rfl
        case ho => rfl
        case hb => rfl
        case hE =>
          intro w9
          refine AWl.put (R_move rfl (.no rfl) rfl (.tmp rfl fun _ => rfl)) rfl ?_
          refine AWl.nil ?_
          exact Le.sub0 (σ' := ⟨_, [(4, _), (5, _), (6, _), (30, _), (31, _), (32, _), (38, _), (39, _)], [(7, _)]⟩) rfl ⟨rfl, rfl, rfl, rfl, rfl, rfl, rfl, rfl, trivial⟩ ⟨rfl, trivial⟩
        apply Dag.old (i := 0)
        case ha => rfl
        case ho => rfl
        case hb => rfl
        case hE =>
          intro w9
          refine AWl.put (R_move rfl (.no rfl) rfl (.tmp rfl fun _ => rfl)) rfl ?_
          refine AWl.nil ?_
          exact Le.sub0 rfl ⟨rfl, rfl, rfl, rfl, rfl, rfl, rfl, rfl, trivial⟩ ⟨rfl, trivial⟩
        apply Dag.old (i := 1)
        case ha => rfl
        case ho => rfl
        case hb => rfl
        case hE =>
          intro w9
          refine AWl.put (R_move rfl (.no rfl) rfl (.tmp rfl fun _ => rfl)) rfl ?_
          refine AWl.nil ?_
          exact Le.sub0 rfl ⟨rfl, rfl, rfl, rfl, rfl, rfl, rfl, rfl, trivial⟩ ⟨rfl, trivial⟩
        apply Dag.old (i := 2)
        case ha => rfl
        case ho => rfl
        case hb => rfl
        case hE =>
          intro w9
          refine AWl.put (R_move rfl (.no rfl) rfl (.tmp rfl fun _ => rfl)) rfl ?_
          refine AWl.nil ?_
          exact Le.sub0 rfl ⟨rfl, rfl, rfl, rfl, rfl, rfl, rfl, rfl, trivial⟩ ⟨rfl, trivial⟩
        apply Dag.old (i := 8)
        case ha => rfl
        case ho => rfl
        case hb => rfl
        case hE =>
          intro w9
          refine AWl.put (R_move rfl (.no rfl) rfl (.tmp rfl fun _ => rfl)) rfl ?_
          refine AWl.nil ?_
          exact Le.sub0 rfl ⟨rfl, rfl, rfl, rfl, rfl, rfl, rfl, rfl, trivial⟩ ⟨rfl, trivial⟩
        apply Dag.new (i := 10)
        case ha => rfl
        case ho => rfl
        case hb => rfl
        case hE =>
          intro w9
          refine AWl.put ((by first | exact R_indexAddr rfl (.no rfl) rfl (.tmp rfl fun _ => rfl) (.tmp rfl fun _ => rfl) Tryd.underlying68 ty9 (fun _ => ⟨by omega, (map_get hx)⟩) | exact R_indexAddr_vw rfl (.no rfl) rfl (.tmp rfl fun _ => rfl) (.tmp rfl fun _ => rfl) Tryd.underlying68 ty9 (fun _ => ⟨by omega, (map_get hx)⟩) | exact R_indexAddr_rf rfl (.no rfl) rfl (.tmp rfl fun _ => rfl) rfl (.tmp rfl fun _ => rfl) Tryd.underlying68 ty9 (fun _ => ⟨by omega, (map_get hx)⟩))) rfl ?_
          refine AWl.nil ?_
          exact Le.sub0 (σ' := ⟨_, [(4, _), (5, _), (6, _), (30, _), (31, _), (40, _)], [(7, _)]⟩) rfl ⟨rfl, rfl, rfl, rfl, rfl, rfl, trivial⟩ ⟨rfl, trivial⟩
        apply Dag.old (i := 0)
        case ha => rfl
        case ho => rfl
        case hb => rfl
        case hE =>
          intro w9
          refine AWl.put (R_move rfl (.no rfl) rfl (.tmp rfl fun _ => rfl)) rfl ?_
          refine AWl.nil ?_
          exact Le.sub0 rfl ⟨rfl, rfl, rfl, rfl, rfl, rfl, trivial⟩ ⟨rfl, trivial⟩
        apply Dag.old (i := 1)
        case ha => rfl
        case ho => rfl
        case hb => rfl
        case hE =>
          intro w9
          refine AWl.put (R_move rfl (.no rfl) rfl (.tmp rfl fun _ => rfl)) rfl ?_
          refine AWl.nil ?_
          exact Le.sub0 rfl ⟨rfl, rfl, rfl, rfl, rfl, rfl, trivial⟩ ⟨rfl, trivial⟩
        apply Dag.new (i := 10)
        case ha => rfl
        case ho => rfl
        case hb => rfl
        case hE =>
          intro w9
          refine AWl.put ((by first | exact R_indexAddr rfl (.no rfl) rfl (.tmp rfl fun _ => rfl) (.tmp rfl fun _ => rfl) Tryd.underlying68 ty9 (fun _ => ⟨by omega, (map_get hx)⟩) | exact R_indexAddr_vw rfl (.no rfl) rfl (.tmp rfl fun _ => rfl) (.tmp rfl fun _ => rfl) Tryd.underlying68 ty9 (fun _ => ⟨by omega, (map_get hx)⟩) | exact R_indexAddr_rf rfl (.no rfl) rfl (.tmp rfl fun _ => rfl) rfl (.tmp rfl fun _ => rfl) Tryd.underlying68 ty9 (fun _ => ⟨by omega, (map_get hx)⟩))) rfl ?_
          refine AWl.nil ?_
          exact Le.sub0 (σ' := ⟨_, [(4, _), (5, _), (6, _), (30, _), (32, _), (40, _)], [(7, _)]⟩) rfl ⟨rfl, rfl, rfl, rfl, rfl, rfl, trivial⟩ ⟨rfl, trivial⟩
        apply Dag.old (i := 0)
        case ha => rfl
        case ho => rfl
        case hb => rfl
        case hE =>
          intro w9
          refine AWl.put (R_move rfl (.no rfl) rfl (.tmp rfl fun _ => rfl)) rfl ?_
          refine AWl.nil ?_
          exact Le.sub0 rfl ⟨rfl, rfl, rfl, rfl, rfl, rfl, trivial⟩ ⟨rfl, trivial⟩
        apply Dag.old (i := 2)
        case ha => rfl
        case ho => rfl
        case hb => rfl
        case hE =>
          intro w9
          refine AWl.put (R_move rfl (.no rfl) rfl (.tmp rfl fun _ => rfl)) rfl ?_
          refine AWl.nil ?_
          exact Le.sub0 rfl ⟨rfl, rfl, rfl, rfl, rfl, rfl, trivial⟩ ⟨rfl, trivial⟩
        apply Dag.new (i := 11)
        case ha => rfl
        case ho => rfl
        case hb => rfl
        case hE =>
          intro w9
          refine AWl.put ((by first | exact R_load rfl (.no rfl) rfl (.tmp rfl fun _ => rfl) ty9 rfl rfl | exact R_load_pp rfl (.no rfl) rfl (.tmp rfl fun _ => rfl) rfl ty9 rfl rfl | exact R_load_vw rfl (.no rfl) rfl (.tmp rfl fun _ => rfl) ty9 rfl rfl | exact R_load_pr rfl (.no rfl) rfl (.tmp rfl fun _ => rfl) rfl (map_get hx) ty9 rfl rfl)) rfl ?_
          refine AWl.nil ?_
          exact Le.sub0 (σ' := ⟨_, [(4, _), (5, _), (6, _), (30, _), (41, _)], [(7, _)]⟩) rfl ⟨rfl, rfl, rfl, rfl, rfl, trivial⟩ ⟨rfl, trivial⟩
        apply Dag.old (i := 0)
        case ha => rfl
        case ho => rfl
        case hb => rfl
        case hE =>
          intro w9
          refine AWl.put (R_move rfl (.no rfl) rfl (.tmp rfl fun _ => rfl)) rfl ?_
          refine AWl.nil ?_
          exact Le.sub0 rfl ⟨rfl, rfl, rfl, rfl, rfl, trivial⟩ ⟨rfl, trivial⟩
        apply Dag.new (i := 5)
        case ha => rfl
        case ho => rfl
        case hb => rfl
        case hE =>
          intro w9
          refine AWl.put (R_strIndex rfl (.no rfl) rfl (.tmp rfl fun _ => rfl) (.const rfl) Tryd.underlying9 (fun _ => ⟨by omega, (by rw [bs_get, hab]; rfl)⟩)) rfl ?_
          refine AWl.nil ?_
          exact Le.sub0 (σ' := ⟨_, [(4, _), (5, _), (6, _), (35, _)], [(7, _)]⟩) rfl ⟨rfl, rfl, rfl, rfl, trivial⟩ ⟨rfl, trivial⟩
        apply Dag.new (i := 8)
        case ha => rfl
        case ho => rfl
        case hb => rfl
        case hE =>
          intro w9
          refine AWl.put (R_move rfl (.no rfl) rfl (.tmp rfl fun _ => rfl)) rfl ?_
          refine AWl.nil ?_
          exact Le.sub0 (σ' := ⟨_, [(4, _), (5, _), (6, _), (34, _), (38, _)], [(7, _)]⟩) rfl ⟨rfl, rfl, rfl, rfl, rfl, trivial⟩ ⟨rfl, trivial⟩
        apply Dag.old (i := 4)
        case ha => rfl
        case ho => rfl
        case hb => rfl
        case hE =>
          intro w9
          refine AWl.put ((by first | exact R_load rfl (.no rfl) rfl (.tmp rfl fun _ => rfl) ty9 rfl rfl | exact R_load_pp rfl (.no rfl) rfl (.tmp rfl fun _ => rfl) rfl ty9 rfl rfl | exact R_load_vw rfl (.no rfl) rfl (.tmp rfl fun _ => rfl) ty9 rfl rfl | exact R_load_pr rfl (.no rfl) rfl (.tmp rfl fun _ => rfl) rfl (map_get hx) ty9 rfl rfl)) rfl ?_
          refine AWl.nil ?_
          exact Le.sub0 rfl ⟨rfl, rfl, rfl, rfl, rfl, trivial⟩ ⟨rfl, trivial⟩
        apply Dag.new (i := 9)
        case ha => rfl
        case ho => rfl
        case hb => rfl
        case hE =>
          intro w9
          refine AWl.put (R_move rfl (.no rfl) rfl (.tmp rfl fun _ => rfl)) rfl ?_
          refine AWl.nil ?_
          exact Le.sub0 (σ' := ⟨_, [(4, _), (5, _), (6, _), (34, _), (39, _)], [(7, _)]⟩) rfl ⟨rfl, rfl, rfl, rfl, rfl, trivial⟩ ⟨rfl, trivial⟩
        apply Dag.old (i := 4)
        case ha => rfl
        case ho => rfl
        case hb => rfl
        case hE =>
          intro w9
          refine AWl.put ((by first | exact R_load rfl (.no rfl) rfl (.tmp rfl fun _ => rfl) ty9 rfl rfl | exact R_load_pp rfl (.no rfl) rfl (.tmp rfl fun _ => rfl) rfl ty9 rfl rfl | exact R_load_vw rfl (.no rfl) rfl (.tmp rfl fun _ => rfl) ty9 rfl rfl | exact R_load_pr rfl (.no rfl) rfl (.tmp rfl fun _ => rfl) rfl (map_get hx) ty9 rfl rfl)) rfl ?_
          refine AWl.nil ?_
          exact Le.sub0 rfl ⟨rfl, rfl, rfl, rfl, rfl, trivial⟩ ⟨rfl, trivial⟩
        apply Dag.new (i := 9)
        case ha => rfl
        case ho => rfl
        case hb => rfl
        case hE =>
          intro w9
          refine AWl.put (R_move rfl (.no rfl) rfl (.tmp rfl fun _ => rfl)) rfl ?_
          refine AWl.nil ?_
          exact Le.sub0 (σ' := ⟨_, [(4, _), (5, _), (6, _), (33, _), (38, _), (39, _)], [(7, _)]⟩) rfl ⟨rfl, rfl, rfl, rfl, rfl, rfl, trivial⟩ ⟨rfl, trivial⟩
        apply Dag.old (i := 3)
        case ha => rfl
        case ho => rfl
        case hb => rfl
        case hE =>
          intro w9
          refine AWl.put ((by first | exact R_indexAddr rfl (.no rfl) rfl (.tmp rfl fun _ => rfl) (.tmp rfl fun _ => rfl) Tryd.underlying68 ty9 (fun _ => ⟨by omega, (map_get hx)⟩) | exact R_indexAddr_vw rfl (.no rfl) rfl (.tmp rfl fun _ => rfl) (.tmp rfl fun _ => rfl) Tryd.underlying68 ty9 (fun _ => ⟨by omega, (map_get hx)⟩) | exact R_indexAddr_rf rfl (.no rfl) rfl (.tmp rfl fun _ => rfl) rfl (.tmp rfl fun _ => rfl) Tryd.underlying68 ty9 (fun _ => ⟨by omega, (map_get hx)⟩))) rfl ?_
          refine AWl.nil ?_
          exact Le.sub0 rfl ⟨rfl, rfl, rfl, rfl, rfl, rfl, trivial⟩ ⟨rfl, trivial⟩
        apply Dag.old (i := 8)
        case ha => rfl
        case ho => rfl
        case hb => rfl
        case hE =>
          intro w9
          refine AWl.put (R_move rfl (.no rfl) rfl (.tmp rfl fun _ => rfl)) rfl ?_
          refine AWl.nil ?_
          exact Le.sub0 rfl ⟨rfl, rfl, rfl, rfl, rfl, rfl, trivial⟩ ⟨rfl, trivial⟩
        apply Dag.new (i := 10)
        case ha => rfl
        case ho => rfl
        case hb => rfl
        case hE =>
          intro w9
          refine AWl.put ((by first | exact R_indexAddr rfl (.no rfl) rfl (.tmp rfl fun _ => rfl) (.tmp rfl fun _ => rfl) Tryd.underlying68 ty9 (fun _ => ⟨by omega, (map_get hx)⟩) | exact R_indexAddr_vw rfl (.no rfl) rfl (.tmp rfl fun _ => rfl) (.tmp rfl fun _ => rfl) Tryd.underlying68 ty9 (fun _ => ⟨by omega, (map_get hx)⟩) | exact R_indexAddr_rf rfl (.no rfl) rfl (.tmp rfl fun _ => rfl) rfl (.tmp rfl fun _ => rfl) Tryd.underlying68 ty9 (fun _ => ⟨by omega, (map_get hx)⟩))) rfl ?_
          refine AWl.nil ?_
          exact Le.sub0 (σ' := ⟨_, [(4, _), (5, _), (6, _), (31, _), (32, _), (40, _)], [(7, _)]⟩) rfl ⟨rfl, rfl, rfl, rfl, rfl, rfl, trivial⟩ ⟨rfl, trivial⟩
        apply Dag.old (i := 1)
        case ha => rfl
        case ho => rfl
        case hb => rfl
        case hE =>
          intro w9
          refine AWl.put (R_move rfl (.no rfl) rfl (.tmp rfl fun _ => rfl)) rfl ?_
          refine AWl.nil ?_
          exact Le.sub0 rfl ⟨rfl, rfl, rfl, rfl, rfl, rfl, trivial⟩ ⟨rfl, trivial⟩
        apply Dag.old (i := 2)
        case ha => rfl
        case ho => rfl
        case hb => rfl
        case hE =>
          intro w9
          refine AWl.put (R_move rfl (.no rfl) rfl (.tmp rfl fun _ => rfl)) rfl ?_
          refine AWl.nil ?_
          exact Le.sub0 rfl ⟨rfl, rfl, rfl, rfl, rfl, rfl, trivial⟩ ⟨rfl, trivial⟩
        apply Dag.new (i := 11)
        case ha => rfl
        case ho => rfl
        case hb => rfl
        case hE =>
          intro w9
          refine AWl.put ((by first | exact R_load rfl (.no rfl) rfl (.tmp rfl fun _ => rfl) ty9 rfl rfl | exact R_load_pp rfl (.no rfl) rfl (.tmp rfl fun _ => rfl) rfl ty9 rfl rfl | exact R_load_vw rfl (.no rfl) rfl (.tmp rfl fun _ => rfl) ty9 rfl rfl | exact R_load_pr rfl (.no rfl) rfl (.tmp rfl fun _ => rfl) rfl (map_get hx) ty9 rfl rfl)) rfl ?_
          refine AWl.nil ?_
          exact Le.sub0 (σ' := ⟨_, [(4, _), (5, _), (6, _), (31, _), (41, _)], [(7, _)]⟩) rfl ⟨rfl, rfl, rfl, rfl, rfl, trivial⟩ ⟨rfl, trivial⟩
        apply Dag.old (i := 1)
        case ha => rfl
        case ho => rfl
        case hb => rfl
        case hE =>
          intro w9
          refine AWl.put (R_move rfl (.no rfl) rfl (.tmp rfl fun _ => rfl)) rfl ?_
          refine AWl.nil ?_
          exact Le.sub0 rfl ⟨rfl, rfl, rfl, rfl, rfl, trivial⟩ ⟨rfl, trivial⟩
        apply Dag.new (i := 11)
        case ha => rfl
        case ho => rfl
        case hb => rfl
        case hE =>
          intro w9
          refine AWl.put ((by first | exact R_load rfl (.no rfl) rfl (.tmp rfl fun _ => rfl) ty9 rfl rfl | exact R_load_pp rfl (.no rfl) rfl (.tmp rfl fun _ => rfl) rfl ty9 rfl rfl | exact R_load_vw rfl (.no rfl) rfl (.tmp rfl fun _ => rfl) ty9 rfl rfl | exact R_load_pr rfl (.no rfl) rfl (.tmp rfl fun _ => rfl) rfl (map_get hx) ty9 rfl rfl)) rfl ?_
          refine AWl.nil ?_
          exact Le.sub0 (σ' := ⟨_, [(4, _), (5, _), (6, _), (32, _), (41, _)], [(7, _)]⟩) rfl ⟨rfl, rfl, rfl, rfl, rfl, trivial⟩ ⟨rfl, trivial⟩
        apply Dag.old (i := 2)
        case ha => rfl
        case ho => rfl
        case hb => rfl
        case hE =>
          intro w9
          refine AWl.put (R_move rfl (.no rfl) rfl (.tmp rfl fun _ => rfl)) rfl ?_
          refine AWl.nil ?_
          exact Le.sub0 rfl ⟨rfl, rfl, rfl, rfl, rfl, trivial⟩ ⟨rfl, trivial⟩
        apply Dag.new (i := 12)
        case ha => rfl
        case ho => rfl
        case hb => rfl
        case hE =>
          intro w9
          refine AWl.put (R_strIndex rfl (.no rfl) rfl (.tmp rfl fun _ => rfl) (.const rfl) Tryd.underlying9 (fun _ => ⟨by omega, (by rw [bs_get, hab]; rfl)⟩)) rfl ?_
          refine AWl.nil ?_
          exact Le.sub0 (σ' := ⟨_, [(4, _), (5, _), (6, _), (42, _)], [(7, _)]⟩) rfl ⟨rfl, rfl, rfl, rfl, trivial⟩ ⟨rfl, trivial⟩
        apply Dag.new (i := 5)
        case ha => rfl
        case ho => rfl
        case hb => rfl
        case hE =>
          intro w9
          refine AWl.put (R_strIndex rfl (.no rfl) rfl (.tmp rfl fun _ => rfl) (.const rfl) Tryd.underlying9 (fun _ => ⟨by omega, (by rw [bs_get, hab]; rfl)⟩)) rfl ?_
          refine AWl.nil ?_
          exact Le.sub0 (σ' := ⟨_, [(4, _), (5, _), (6, _), (30, _), (35, _)], [(7, _)]⟩) rfl ⟨rfl, rfl, rfl, rfl, rfl, trivial⟩ ⟨rfl, trivial⟩
        apply Dag.old (i := 0)
        case ha => rfl
        case ho => rfl
        case hb => rfl
        case hE =>
          intro w9
          refine AWl.put (R_move rfl (.no rfl) rfl (.tmp rfl fun _ => rfl)) rfl ?_
          refine AWl.nil ?_
          exact Le.sub0 rfl ⟨rfl, rfl, rfl, rfl, rfl, trivial⟩ ⟨rfl, trivial⟩
        apply Dag.new (i := 8)
        case ha => rfl
        case ho => rfl
        case hb => rfl
        case hE =>
          intro w9
          refine AWl.put (R_move rfl (.no rfl) rfl (.tmp rfl fun _ => rfl)) rfl ?_
          refine AWl.nil ?_
          exact Le.sub0 (σ' := ⟨_, [(4, _), (5, _), (6, _), (30, _), (34, _), (38, _)], [(7, _)]⟩) rfl ⟨rfl, rfl, rfl, rfl, rfl, rfl, trivial⟩ ⟨rfl, trivial⟩
        apply Dag.old (i := 0)
        case ha => rfl
        case ho => rfl
        case hb => rfl
        case hE =>
          intro w9
          refine AWl.put (R_move rfl (.no rfl) rfl (.tmp rfl fun _ => rfl)) rfl ?_
          refine AWl.nil ?_
          exact Le.sub0 rfl ⟨rfl, rfl, rfl, rfl, rfl, rfl, trivial⟩ ⟨rfl, trivial⟩
        apply Dag.old (i := 4)
        case ha => rfl
        case ho => rfl
        case hb => rfl
        case hE =>
          intro w9
          refine AWl.put ((by first | exact R_load rfl (.no rfl) rfl (.tmp rfl fun _ => rfl) ty9 rfl rfl | exact R_load_pp rfl (.no rfl) rfl (.tmp rfl fun _ => rfl) rfl ty9 rfl rfl | exact R_load_vw rfl (.no rfl) rfl (.tmp rfl fun _ => rfl) ty9 rfl rfl | exact R_load_pr rfl (.no rfl) rfl (.tmp rfl fun _ => rfl) rfl (map_get hx) ty9 rfl rfl)) rfl ?_
          refine AWl.nil ?_
          exact Le.sub0 rfl ⟨rfl, rfl, rfl, rfl, rfl, rfl, trivial⟩ ⟨rfl, trivial⟩
        apply Dag.new (i := 9)
        case ha => rfl
        case ho => rfl
        case hb => rfl
        case hE =>
          intro w9
          refine AWl.put (R_move rfl (.no rfl) rfl (.tmp rfl fun _ => rfl)) rfl ?_
          refine AWl.nil ?_
          exact Le.sub0 (σ' := ⟨_, [(4, _), (5, _), (6, _), (30, _), (34, _), (39, _)], [(7, _)]⟩) rfl ⟨rfl, rfl, rfl, rfl, rfl, rfl, trivial⟩ ⟨rfl, trivial⟩
        apply Dag.old (i := 0)
        case ha => rfl
        case ho => rfl
        case hb => rfl
        case hE =>
          intro w9
          refine AWl.put (R_move rfl (.no rfl) rfl (.tmp rfl fun _ => rfl)) rfl ?_
          refine AWl.nil ?_
          exact Le.sub0 rfl ⟨rfl, rfl, rfl, rfl, rfl, rfl, trivial⟩ ⟨rfl, trivial⟩
        apply Dag.old (i := 4)
        case ha => rfl
        case ho => rfl
        case hb => rfl
        case hE =>
          intro w9
          refine AWl.put ((by first | exact R_load rfl (.no rfl) rfl (.tmp rfl fun _ => rfl) ty9 rfl rfl | exact R_load_pp rfl (.no rfl) rfl (.tmp rfl fun _ => rfl) rfl ty9 rfl rfl | exact R_load_vw rfl (.no rfl) rfl (.tmp rfl fun _ => rfl) ty9 rfl rfl | exact R_load_pr rfl (.no rfl) rfl (.tmp rfl fun _ => rfl) rfl (map_get hx) ty9 rfl rfl)) rfl ?_
          refine AWl.nil ?_
          exact Le.sub0 rfl ⟨rfl, rfl, rfl, rfl, rfl, rfl, trivial⟩ ⟨rfl, trivial⟩
        apply Dag.new (i := 9)
        case ha => rfl
        case ho => rfl
        case hb => rfl
        case hE =>
          intro w9
          refine AWl.put (R_move rfl (.no rfl) rfl (.tmp rfl fun _ => rfl)) rfl ?_
          refine AWl.nil ?_
          exact Le.sub0 (σ' := ⟨_, [(4, _), (5, _), (6, _), (30, _), (33, _), (38, _), (39, _)], [(7, _)]⟩) rfl ⟨rfl, rfl, rfl, rfl, rfl, rfl, rfl, trivial⟩ ⟨rfl, trivial⟩
        apply Dag.old (i := 0)
        case ha => rfl
        case ho => rfl
        case hb => rfl
        case hE =>
          intro w9
          refine AWl.put (R_move rfl (.no rfl) rfl (.tmp rfl fun _ => rfl)) rfl ?_
          refine AWl.nil ?_
          exact Le.sub0 rfl ⟨rfl, rfl, rfl, rfl, rfl, rfl, rfl, trivial⟩ ⟨rfl, trivial⟩
        apply Dag.old (i := 3)
        case ha => rfl
        case ho => rfl
        case hb => rfl
        case hE =>
          intro w9
          refine AWl.put ((by first | exact R_indexAddr rfl (.no rfl) rfl (.tmp rfl fun _ => rfl) (.tmp rfl fun _ => rfl) Tryd.underlying68 ty9 (fun _ => ⟨by omega, (map_get hx)⟩) | exact R_indexAddr_vw rfl (.no rfl) rfl (.tmp rfl fun _ => rfl) (.tmp rfl fun _ => rfl) Tryd.underlying68 ty9 (fun _ => ⟨by omega, (map_get hx)⟩) | exact R_indexAddr_rf rfl (.no rfl) rfl (.tmp rfl fun _ => rfl) rfl (.tmp rfl fun _ => rfl) Tryd.underlying68 ty9 (fun _ => ⟨by omega, (map_get hx)⟩))) rfl ?_
          refine AWl.nil ?_
          exact Le.sub0 rfl ⟨rfl, rfl, rfl, rfl, rfl, rfl, rfl, trivial⟩ ⟨rfl, trivial⟩
        apply Dag.old (i := 8)
        case ha => rfl
        case ho => rfl
        case hb => rfl
        case hE =>
          intro w9
          refine AWl.put (R_move rfl (.no rfl) rfl (.tmp rfl fun _ => rfl)) rfl ?_
          refine AWl.nil ?_
          exact Le.sub0 rfl ⟨rfl, rfl, rfl, rfl, rfl, rfl, rfl, trivial⟩ ⟨rfl, trivial⟩
        apply Dag.new (i := 10)
        case ha => rfl
        case ho => rfl
        case hb => rfl
        case hE =>
          intro w9
          refine AWl.put ((by first | exact R_indexAddr rfl (.no rfl) rfl (.tmp rfl fun _ => rfl) (.tmp rfl fun _ => rfl) Tryd.underlying68 ty9 (fun _ => ⟨by omega, (map_get hx)⟩) | exact R_indexAddr_vw rfl (.no rfl) rfl (.tmp rfl fun _ => rfl) (.tmp rfl fun _ => rfl) Tryd.underlying68 ty9 (fun _ => ⟨by omega, (map_get hx)⟩) | exact R_indexAddr_rf rfl (.no rfl) rfl (.tmp rfl fun _ => rfl) rfl (.tmp rfl fun _ => rfl) Tryd.underlying68 ty9 (fun _ => ⟨by omega, (map_get hx)⟩))) rfl ?_
          refine AWl.nil ?_
          exact Le.sub0 (σ' := ⟨_, [(4, _), (5, _), (6, _), (30, _), (31, _), (32, _), (40, _)], [(7, _)]⟩) rfl ⟨rfl, rfl, rfl, rfl, rfl, rfl, rfl, trivial⟩ ⟨rfl, trivial⟩
        apply Dag.old (i := 0)
        case ha => rfl
        case ho => rfl
        case hb => rfl
        case hE =>
          intro w9
          refine AWl.put (R_move rfl (.no rfl) rfl (.tmp rfl fun _ => rfl)) rfl ?_
          refine AWl.nil ?_
          exact Le.sub0 rfl ⟨rfl, rfl, rfl, rfl, rfl, rfl, rfl, trivial⟩ ⟨rfl, trivial⟩
        apply Dag.old (i := 1)
        case ha => rfl
        case ho => rfl
        case hb => rfl
        case hE =>
          intro w9
          refine AWl.put (R_move rfl (.no rfl) rfl (.tmp rfl fun _ => rfl)) rfl ?_
          refine AWl.nil ?_
          exact Le.sub0 rfl ⟨rfl, rfl, rfl, rfl, rfl, rfl, rfl, trivial⟩ ⟨rfl, trivial⟩
        apply Dag.old (i := 2)
        case ha => rfl
        case ho => rfl
        case hb => rfl
        case hE =>
          intro w9
          refine AWl.put (R_move rfl (.no rfl) rfl (.tmp rfl fun _ => rfl)) rfl ?_
          refine AWl.nil ?_
          exact Le.sub0 rfl ⟨rfl, rfl, rfl, rfl, rfl, rfl, rfl, trivial⟩ ⟨rfl, trivial⟩
        apply Dag.new (i := 11)
        case ha => rfl
        case ho => rfl
        case hb => rfl
        case hE =>
          intro w9
          refine AWl.put ((by first | exact R_load rfl (.no rfl) rfl (.tmp rfl fun _ => rfl) ty9 rfl rfl | exact R_load_pp rfl (.no rfl) rfl (.tmp rfl fun _ => rfl) rfl ty9 rfl rfl | exact R_load_vw rfl (.no rfl) rfl (.tmp rfl fun _ => rfl) ty9 rfl rfl | exact R_load_pr rfl (.no rfl) rfl (.tmp rfl fun _ => rfl) rfl (map_get hx) ty9 rfl rfl)) rfl ?_
          refine AWl.nil ?_
          exact Le.sub0 (σ' := ⟨_, [(4, _), (5, _), (6, _), (30, _), (31, _), (41, _)], [(7, _)]⟩) rfl ⟨rfl, rfl, rfl, rfl, rfl, rfl, trivial⟩ ⟨rfl, trivial⟩
        apply Dag.old (i := 0)
        case ha => rfl
        case ho => rfl
        case hb => rfl
        case hE =>
          intro w9
          refine AWl.put (R_move rfl (.no rfl) rfl (.tmp rfl fun _ => rfl)) rfl ?_
          refine AWl.nil ?_
          exact Le.sub0 rfl ⟨rfl, rfl, rfl, rfl, rfl, rfl, trivial⟩ ⟨rfl, trivial⟩
        apply Dag.old (i := 1)
        case ha => rfl
        case ho => rfl
        case hb => rfl
        case hE =>
          intro w9
          refine AWl.put (R_move rfl (.no rfl) rfl (.tmp rfl fun _ => rfl)) rfl ?_
          refine AWl.nil ?_
          exact Le.sub0 rfl ⟨rfl, rfl, rfl, rfl, rfl, rfl, trivial⟩ ⟨rfl, trivial⟩
        apply Dag.new (i := 11)
        case ha => rfl
        case ho => rfl
        case hb => rfl
        case hE =>
          intro w9
          refine AWl.put ((by first | exact R_load rfl (.no rfl) rfl (.tmp rfl fun _ => rfl) ty9 rfl rfl | exact R_load_pp rfl (.no rfl) rfl (.tmp rfl fun _ => rfl) rfl ty9 rfl rfl | exact R_load_vw rfl (.no rfl) rfl (.tmp rfl fun _ => rfl) ty9 rfl rfl | exact R_load_pr rfl (.no rfl) rfl (.tmp rfl fun _ => rfl) rfl (map_get hx) ty9 rfl rfl)) rfl ?_
          refine AWl.nil ?_
          exact Le.sub0 (σ' := ⟨_, [(4, _), (5, _), (6, _), (30, _), (32, _), (41, _)], [(7, _)]⟩) rfl ⟨rfl, rfl, rfl, rfl, rfl, rfl, trivial⟩ ⟨rfl, trivial⟩
        apply Dag.old (i := 0)
        case ha => rfl
        case ho => rfl
        case hb => rfl
        case hE =>
          intro w9
          refine AWl.put (R_move rfl (.no rfl) rfl (.tmp rfl fun _ => rfl)) rfl ?_
          refine AWl.nil ?_
          exact Le.sub0 rfl ⟨rfl, rfl, rfl, rfl, rfl, rfl, trivial⟩ ⟨rfl, trivial⟩
        apply Dag.old (i := 2)
        case ha => rfl
        case ho => rfl
        case hb => rfl
        case hE =>
          intro w9
          refine AWl.put (R_move rfl (.no rfl) rfl (.tmp rfl fun _ => rfl)) rfl ?_
          refine AWl.nil ?_
          exact Le.sub0 rfl ⟨rfl, rfl, rfl, rfl, rfl, rfl, trivial⟩ ⟨rfl, trivial⟩
        apply Dag.new (i := 12)
        case ha => rfl
        case ho => rfl
        case hb => rfl
        case hE =>
          intro w9
          refine AWl.put (R_strIndex rfl (.no rfl) rfl (.tmp rfl fun _ => rfl) (.const rfl) Tryd.underlying9 (fun _ => ⟨by omega, (by rw [bs_get, hab]; rfl)⟩)) rfl ?_
          refine AWl.nil ?_
          exact Le.sub0 (σ' := ⟨_, [(4, _), (5, _), (6, _), (30, _), (42, _)], [(7, _)]⟩) rfl ⟨rfl, rfl, rfl, rfl, rfl, trivial⟩ ⟨rfl, trivial⟩
        apply Dag.old (i := 0)
        case ha => rfl
        case ho => rfl
        case hb => rfl
        case hE =>
          intro w9
          refine AWl.put (R_move rfl (.no rfl) rfl (.tmp rfl fun _ => rfl)) rfl ?_
          refine AWl.nil ?_
          exact Le.sub0 rfl ⟨rfl, rfl, rfl, rfl, rfl, trivial⟩ ⟨rfl, trivial⟩
        apply Dag.new (i := 6)
        case ha => rfl
        case ho => rfl
        case hb => rfl
        case hE =>
          intro w9
          refine AWl.put (R_conv rfl (.no rfl) rfl (.tmp rfl fun _ => rfl) (by rw [Tryd.underlying5]; rfl) Tryd.underlying3 (fun _ => (show IntKind.i64.wrap (a.toNat : Int) = (a.toNat : Int) by simp [IntKind.wrap, IntKind.bits]; omega))) rfl ?_
          refine AWl.nil ?_
          exact Le.sub0 (σ' := ⟨_, [(4, _), (5, _), (6, _), (36, _)], [(7, _)]⟩) rfl ⟨rfl, rfl, rfl, rfl, trivial⟩ ⟨rfl, trivial⟩
        apply Dag.new (i := 8)
        case ha => rfl
        case ho => rfl
        case hb => rfl
        case hE =>
          intro w9
          refine AWl.put (R_move rfl (.no rfl) rfl (.tmp rfl fun _ => rfl)) rfl ?_
          refine AWl.nil ?_
          exact Le.sub0 (σ' := ⟨_, [(4, _), (5, _), (6, _), (35, _), (38, _)], [(7, _)]⟩) rfl ⟨rfl, rfl, rfl, rfl, rfl, trivial⟩ ⟨rfl, trivial⟩
        apply Dag.old (i := 5)
        case ha => rfl
        case ho => rfl
        case hb => rfl
        case hE =>
          intro w9
          refine AWl.put (R_strIndex rfl (.no rfl) rfl (.tmp rfl fun _ => rfl) (.const rfl) Tryd.underlying9 (fun _ => ⟨by omega, (by rw [bs_get, hab]; rfl)⟩)) rfl ?_
          refine AWl.nil ?_
          exact Le.sub0 rfl ⟨rfl, rfl, rfl, rfl, rfl, trivial⟩ ⟨rfl, trivial⟩
        apply Dag.new (i := 9)
        case ha => rfl
        case ho => rfl
        case hb => rfl
        case hE =>
          intro w9
          refine AWl.put (R_move rfl (.no rfl) rfl (.tmp rfl fun _ => rfl)) rfl ?_
          refine AWl.nil ?_
          exact Le.sub0 (σ' := ⟨_, [(4, _), (5, _), (6, _), (35, _), (39, _)], [(7, _)]⟩) rfl ⟨rfl, rfl, rfl, rfl, rfl, trivial⟩ ⟨rfl, trivial⟩
        apply Dag.old (i := 5)
        case ha => rfl
        case ho => rfl
        case hb => rfl
        case hE =>
          intro w9
          refine AWl.put (R_strIndex rfl (.no rfl) rfl (.tmp rfl fun _ => rfl) (.const rfl) Tryd.underlying9 (fun _ => ⟨by omega, (by rw [bs_get, hab]; rfl)⟩)) rfl ?_
          refine AWl.nil ?_
          exact Le.sub0 rfl ⟨rfl, rfl, rfl, rfl, rfl, trivial⟩ ⟨rfl, trivial⟩
        apply Dag.new (i := 9)
        case ha => rfl
        case ho => rfl
        case hb => rfl
        case hE =>
          intro w9
          refine AWl.put (R_move rfl (.no rfl) rfl (.tmp rfl fun _ => rfl)) rfl ?_
          refine AWl.nil ?_
          exact Le.sub0 (σ' := ⟨_, [(4, _), (5, _), (6, _), (34, _), (38, _), (39, _)], [(7, _)]⟩) rfl ⟨rfl, rfl, rfl, rfl, rfl, rfl, trivial⟩ ⟨rfl, trivial⟩
        apply Dag.old (i := 4)
        case ha => rfl
        case ho => rfl
        case hb => rfl
        case hE =>
          intro w9
          refine AWl.put ((by first | exact R_load rfl (.no rfl) rfl (.tmp rfl fun _ => rfl) ty9 rfl rfl | exact R_load_pp rfl (.no rfl) rfl (.tmp rfl fun _ => rfl) rfl ty9 rfl rfl | exact R_load_vw rfl (.no rfl) rfl (.tmp rfl fun _ => rfl) ty9 rfl rfl | exact R_load_pr rfl (.no rfl) rfl (.tmp rfl fun _ => rfl) rfl (map_get hx) ty9 rfl rfl)) rfl ?_
          refine AWl.nil ?_
          exact Le.sub0 rfl ⟨rfl, rfl, rfl, rfl, rfl, rfl, trivial⟩ ⟨rfl, trivial⟩
        apply Dag.old (i := 8)
        case ha => rfl
        case ho => rfl
        case hb => rfl
        case hE =>
          intro w9
          refine AWl.put (R_move rfl (.no rfl) rfl (.tmp rfl fun _ => rfl)) rfl ?_
          refine AWl.nil ?_
          exact Le.sub0 rfl ⟨rfl, rfl, rfl, rfl, rfl, rfl, trivial⟩ ⟨rfl, trivial⟩
        apply Dag.new (i := 10)
        case ha => rfl
        case ho => rfl
        case hb => rfl
        case hE =>
          intro w9
          refine AWl.put ((by first | exact R_indexAddr rfl (.no rfl) rfl (.tmp rfl fun _ => rfl) (.tmp rfl fun _ => rfl) Tryd.underlying68 ty9 (fun _ => ⟨by omega, (map_get hx)⟩) | exact R_indexAddr_vw rfl (.no rfl) rfl (.tmp rfl fun _ => rfl) (.tmp rfl fun _ => rfl) Tryd.underlying68 ty9 (fun _ => ⟨by omega, (map_get hx)⟩) | exact R_indexAddr_rf rfl (.no rfl) rfl (.tmp rfl fun _ => rfl) rfl (.tmp rfl fun _ => rfl) Tryd.underlying68 ty9 (fun _ => ⟨by omega, (map_get hx)⟩))) rfl ?_
          refine AWl.nil ?_
          exact Le.sub0 (σ' := ⟨_, [(4, _), (5, _), (6, _), (33, _), (40, _)], [(7, _)]⟩) rfl ⟨rfl, rfl, rfl, rfl, rfl, trivial⟩ ⟨rfl, trivial⟩
        apply Dag.old (i := 3)
        case ha => rfl
        case ho => rfl
        case hb => rfl
        case hE =>
          intro w9
          refine AWl.put ((by first | exact R_indexAddr rfl (.no rfl) rfl (.tmp rfl fun _ => rfl) (.tmp rfl fun _ => rfl) Tryd.underlying68 ty9 (fun _ => ⟨by omega, (map_get hx)⟩) | exact R_indexAddr_vw rfl (.no rfl) rfl (.tmp rfl fun _ => rfl) (.tmp rfl fun _ => rfl) Tryd.underlying68 ty9 (fun _ => ⟨by omega, (map_get hx)⟩) | exact R_indexAddr_rf rfl (.no rfl) rfl (.tmp rfl fun _ => rfl) rfl (.tmp rfl fun _ => rfl) Tryd.underlying68 ty9 (fun _ => ⟨by omega, (map_get hx)⟩))) rfl ?_
          refine AWl.nil ?_
          exact Le.sub0 rfl ⟨rfl, rfl, rfl, rfl, rfl, trivial⟩ ⟨rfl, trivial⟩
        apply Dag.new (i := 11)
        case ha => rfl
        case ho => rfl
        case hb => rfl
        case hE =>
          intro w9
          refine AWl.put ((by first | exact R_load rfl (.no rfl) rfl (.tmp rfl fun _ => rfl) ty9 rfl rfl | exact R_load_pp rfl (.no rfl) rfl (.tmp rfl fun _ => rfl) rfl ty9 rfl rfl | exact R_load_vw rfl (.no rfl) rfl (.tmp rfl fun _ => rfl) ty9 rfl rfl | exact R_load_pr rfl (.no rfl) rfl (.tmp rfl fun _ => rfl) rfl (map_get hx) ty9 rfl rfl)) rfl ?_
          refine AWl.nil ?_
          exact Le.sub0 (σ' := ⟨_, [(4, _), (5, _), (6, _), (31, _), (32, _), (41, _)], [(7, _)]⟩) rfl ⟨rfl, rfl, rfl, rfl, rfl, rfl, trivial⟩ ⟨rfl, trivial⟩
        apply Dag.old (i := 1)
        case ha => rfl
        case ho => rfl
        case hb => rfl
        case hE =>
          intro w9
          refine AWl.put (R_move rfl (.no rfl) rfl (.tmp rfl fun _ => rfl)) rfl ?_
          refine AWl.nil ?_
          exact Le.sub0 rfl ⟨rfl, rfl, rfl, rfl, rfl, rfl, trivial⟩ ⟨rfl, trivial⟩
        apply Dag.old (i := 2)
        case ha => rfl
        case ho => rfl
        case hb => rfl
        case hE =>
          intro w9
          refine AWl.put (R_move rfl (.no rfl) rfl (.tmp rfl fun _ => rfl)) rfl ?_
          refine AWl.nil ?_
          exact Le.sub0 rfl ⟨rfl, rfl, rfl, rfl, rfl, rfl, trivial⟩ ⟨rfl, trivial⟩
        apply Dag.new (i := 12)
        case ha => rfl
        case ho => rfl
        case hb => rfl
        case hE =>
          intro w9
          refine AWl.put (R_strIndex rfl (.no rfl) rfl (.tmp rfl fun _ => rfl) (.const rfl) Tryd.underlying9 (fun _ => ⟨by omega, (by rw [bs_get, hab]; rfl)⟩)) rfl ?_
          refine AWl.nil ?_
          exact Le.sub0 (σ' := ⟨_, [(4, _), (5, _), (6, _), (31, _), (42, _)], [(7, _)]⟩) rfl ⟨rfl, rfl, rfl, rfl, rfl, trivial⟩ ⟨rfl, trivial⟩
        apply Dag.old (i := 1)
        case ha => rfl
        case ho => rfl
        case hb => rfl
        case hE =>
          intro w9
          refine AWl.put (R_move rfl (.no rfl) rfl (.tmp rfl fun _ => rfl)) rfl ?_
          refine AWl.nil ?_
          exact Le.sub0 rfl ⟨rfl, rfl, rfl, rfl, rfl, trivial⟩ ⟨rfl, trivial⟩
        apply Dag.new (i := 12)
        case ha => rfl
        case ho => rfl
        case hb => rfl
        case hE =>
          intro w9
          refine AWl.put (R_strIndex rfl (.no rfl) rfl (.tmp rfl fun _ => rfl) (.const rfl) Tryd.underlying9 (fun _ => ⟨by omega, (by rw [bs_get, hab]; rfl)⟩)) rfl ?_
          refine AWl.nil ?_
          exact Le.sub0 (σ' := ⟨_, [(4, _), (5, _), (6, _), (32, _), (42, _)], [(7, _)]⟩) rfl ⟨rfl, rfl, rfl, rfl, rfl, trivial⟩ ⟨rfl, trivial⟩
        apply Dag.old (i := 2)
        case ha => rfl
        case ho => rfl
        case hb => rfl
        case hE =>
          intro w9
          refine AWl.put (R_move rfl (.no rfl) rfl (.tmp rfl fun _ => rfl)) rfl ?_
          refine AWl.nil ?_
          exact Le.sub0 rfl ⟨rfl, rfl, rfl, rfl, rfl, trivial⟩ ⟨rfl, trivial⟩
        apply Dag.new (i := 13)
        case ha => rfl
        case ho => rfl
        case hb => rfl
        case hE =>
          intro w9
          refine AWl.put (R_conv rfl (.no rfl) rfl (.tmp rfl fun _ => rfl) (by rw [Tryd.underlying5]; rfl) Tryd.underlying3 (fun _ => (show IntKind.i64.wrap (b.toNat : Int) = (b.toNat : Int) by simp [IntKind.wrap, IntKind.bits]; omega))) rfl ?_
          refine AWl.nil ?_
          exact Le.sub0 (σ' := ⟨_, [(4, _), (5, _), (6, _), (43, _)], [(7, _)]⟩) rfl ⟨rfl, rfl, rfl, rfl, trivial⟩ ⟨rfl, trivial⟩
        apply Dag.new (i := 6)
        case ha => rfl
        case ho => rfl
        case hb => rfl
        case hE =>
          intro w9
          refine AWl.put (R_conv rfl (.no rfl) rfl (.tmp rfl fun _ => rfl) (by rw [Tryd.underlying5]; rfl) Tryd.underlying3 (fun _ => (show IntKind.i64.wrap (a.toNat : Int) = (a.toNat : Int) by simp [IntKind.wrap, IntKind.bits]; omega))) rfl ?_
          refine AWl.nil ?_
          exact Le.sub0 (σ' := ⟨_, [(4, _), (5, _), (6, _), (30, _), (36, _)], [(7, _)]⟩) rfl ⟨rfl, rfl, rfl, rfl, rfl, trivial⟩ ⟨rfl, trivial⟩
        apply Dag.old (i := 0)
        case ha => rfl
        case ho => rfl
        case hb => rfl
        case hE =>
          intro w9
          refine AWl.put (R_move rfl (.no rfl) rfl (.tmp rfl fun _ => rfl)) rfl ?_
          refine AWl.nil ?_
          exact Le.sub0 rfl ⟨rfl, rfl, rfl, rfl, rfl, trivial⟩ ⟨rfl, trivial⟩
        apply Dag.new (i := 8)
        case ha => rfl
        case ho => rfl
        case hb => rfl
        case hE =>
          intro w9
          refine AWl.put (R_move rfl (.no rfl) rfl (.tmp rfl fun _ => rfl)) rfl ?_
          refine AWl.nil ?_
          exact Le.sub0 (σ' := ⟨_, [(4, _), (5, _), (6, _), (30, _), (35, _), (38, _)], [(7, _)]⟩) rfl ⟨rfl, rfl, rfl, rfl, rfl, rfl, trivial⟩ ⟨rfl, trivial⟩
        apply Dag.old (i := 0)
        case ha => rfl
        case ho => rfl
        case hb => rfl
        case hE =>
          intro w9
          refine AWl.put (R_move rfl (.no rfl) rfl (.tmp rfl fun _ => rfl)) rfl ?_
          refine AWl.nil ?_
          exact Le.sub0 rfl ⟨rfl, rfl, rfl, rfl, rfl, rfl, trivial⟩ ⟨rfl, trivial⟩
        apply Dag.old (i := 5)
        case ha => rfl
        case ho => rfl
        case hb => rfl
        case hE =>
          intro w9
          refine AWl.put (R_strIndex rfl (.no rfl) rfl (.tmp rfl fun _ => rfl) (.const rfl) Tryd.underlying9 (fun _ => ⟨by omega, (by rw [bs_get, hab]; rfl)⟩)) rfl ?_
          refine AWl.nil ?_
          exact Le.sub0 rfl ⟨rfl, rfl, rfl, rfl, rfl, rfl, trivial⟩ ⟨rfl, trivial⟩
        apply Dag.new (i := 9)
        case ha => rfl
        case ho => rfl
        case hb => rfl
        case hE =>
          intro w9
          refine AWl.put (R_move rfl (.no rfl) rfl (.tmp rfl fun _ => rfl)) rfl ?_
          refine AWl.nil ?_
          exact Le.sub0 (σ' := ⟨_, [(4, _), (5, _), (6, _), (30, _), (35, _), (39, _)], [(7, _)]⟩) rfl ⟨rfl, rfl, rfl, rfl, rfl, rfl, trivial⟩ ⟨rfl, trivial⟩
        apply Dag.old (i := 0)
        case ha => rfl
        case ho => rfl
        case hb => rfl
        case hE =>
          intro w9
          refine AWl.put (R_move rfl (.no rfl) rfl (.tmp rfl fun _ => rfl)) rfl ?_
          refine AWl.nil ?_
          exact Le.sub0 rfl ⟨rfl, rfl, rfl, rfl, rfl, rfl, trivial⟩ ⟨rfl, trivial⟩
        apply Dag.old (i := 5)
        case ha => rfl
        case ho => rfl
        case hb => rfl
        case hE =>
          intro w9
          refine AWl.put (R_strIndex rfl (.no rfl) rfl (.tmp rfl fun _ => rfl) (.const rfl) Tryd.underlying9 (fun _ => ⟨by omega, (by rw [bs_get, hab]; rfl)⟩)) rfl ?_
          refine AWl.nil ?_
          exact Le.sub0 rfl ⟨rfl, rfl, rfl, rfl, rfl, rfl, trivial⟩ ⟨rfl, trivial⟩
        apply Dag.new (i := 9)
        case ha => rfl
        case ho => rfl
        case hb => rfl
        case hE =>
          intro w9
          refine AWl.put (R_move rfl (.no rfl) rfl (.tmp rfl fun _ => rfl)) rfl ?_
          refine AWl.nil ?_
          exact Le.sub0 (σ' := ⟨_, [(4, _), (5, _), (6, _), (30, _), (34, _), (38, _), (39, _)], [(7, _)]⟩) rfl ⟨rfl, rfl, rfl, rfl, rfl, rfl, rfl, trivial⟩ ⟨rfl, trivial⟩
        apply Dag.old (i := 0)
        case ha => rfl
        case ho => rfl
        case hb => rfl
        case hE =>
          intro w9
          refine AWl.put (R_move rfl (.no rfl) rfl (.tmp rfl fun _ => rfl)) rfl ?_
          refine AWl.nil ?_
          exact Le.sub0 rfl ⟨rfl, rfl, rfl, rfl, rfl, rfl, rfl, trivial⟩ ⟨rfl, trivial⟩
        apply Dag.old (i := 4)
        case ha => rfl
        case ho => rfl
        case hb => rfl
        case hE =>
          intro w9
          refine AWl.put ((by first | exact R_load rfl (.no rfl) rfl (.tmp rfl fun _ => rfl) ty9 rfl rfl | exact R_load_pp rfl (.no rfl) rfl (.tmp rfl fun _ => rfl) rfl ty9 rfl rfl | exact R_load_vw rfl (.no rfl) rfl (.tmp rfl fun _ => rfl) ty9 rfl rfl | exact R_load_pr rfl (.no rfl) rfl (.tmp rfl fun _ => rfl) rfl (map_get hx) ty9 rfl rfl)) rfl ?_
          refine AWl.nil ?_
          exact Le.sub0 rfl ⟨rfl, rfl, rfl, rfl, rfl, rfl, rfl, trivial⟩ ⟨rfl, trivial⟩
        apply Dag.old (i := 8)
        case ha => rfl
        case ho => rfl
        case hb => rfl
        case hE =>
          intro w9
          refine AWl.put (R_move rfl (.no rfl) rfl (.tmp rfl fun _ => rfl)) rfl ?_
          refine AWl.nil ?_
          exact Le.sub0 rfl ⟨rfl, rfl, rfl, rfl, rfl, rfl, rfl, trivial⟩ ⟨rfl, trivial⟩
        apply Dag.new (i := 10)
        case ha => rfl
        case ho => rfl
        case hb => rfl
        case hE =>
          intro w9
          refine AWl.put ((by first | exact R_indexAddr rfl (.no rfl) rfl (.tmp rfl fun _ => rfl) (.tmp rfl fun _ => rfl) Tryd.underlying68 ty9 (fun _ => ⟨by omega, (map_get hx)⟩) | exact R_indexAddr_vw rfl (.no rfl) rfl (.tmp rfl fun _ => rfl) (.tmp rfl fun _ => rfl) Tryd.underlying68 ty9 (fun _ => ⟨by omega, (map_get hx)⟩) | exact R_indexAddr_rf rfl (.no rfl) rfl (.tmp rfl fun _ => rfl) rfl (.tmp rfl fun _ => rfl) Tryd.underlying68 ty9 (fun _ => ⟨by omega, (map_get hx)⟩))) rfl ?_
          refine AWl.nil ?_
          exact Le.sub0 (σ' := ⟨_, [(4, _), (5, _), (6, _), (30, _), (33, _), (40, _)], [(7, _)]⟩) rfl ⟨rfl, rfl, rfl, rfl, rfl, rfl, trivial⟩ ⟨rfl, trivial⟩
        apply Dag.old (i := 0)
        case ha => rfl
        case ho => rfl
        case hb => rfl
        case hE =>
          intro w9
          refine AWl.put (R_move rfl (.no rfl) rfl (.tmp rfl fun _ => rfl)) rfl ?_
          refine AWl.nil ?_
          exact Le.sub0 rfl ⟨rfl, rfl, rfl, rfl, rfl, rfl, trivial⟩ ⟨rfl, trivial⟩
        apply Dag.old (i := 3)
        case ha => rfl
        case ho => rfl
        case hb => rfl
        case hE =>
          intro w9
          refine AWl.put ((by first | exact R_indexAddr rfl (.no rfl) rfl (.tmp rfl fun _ => rfl) (.tmp rfl fun _ => rfl) Tryd.underlying68 ty9 (fun _ => ⟨by omega, (map_get hx)⟩) | exact R_indexAddr_vw rfl (.no rfl) rfl (.tmp rfl fun _ => rfl) (.tmp rfl fun _ => rfl) Tryd.underlying68 ty9 (fun _ => ⟨by omega, (map_get hx)⟩) | exact R_indexAddr_rf rfl (.no rfl) rfl (.tmp rfl fun _ => rfl) rfl (.tmp rfl fun _ => rfl) Tryd.underlying68 ty9 (fun _ => ⟨by omega, (map_get hx)⟩))) rfl ?_
          refine AWl.nil ?_
          exact Le.sub0 rfl ⟨rfl, rfl, rfl, rfl, rfl, rfl, trivial⟩ ⟨rfl, trivial⟩
        apply Dag.new (i := 11)
        case ha => rfl
        case ho => rfl
        case hb => rfl
        case hE =>
          intro w9
          refine AWl.put ((by first | exact R_load rfl (.no rfl) rfl (.tmp rfl fun _ => rfl) ty9 rfl rfl | exact R_load_pp rfl (.no rfl) rfl (.tmp rfl fun _ => rfl) rfl ty9 rfl rfl | exact R_load_vw rfl (.no rfl) rfl (.tmp rfl fun _ => rfl) ty9 rfl rfl | exact R_load_pr rfl (.no rfl) rfl (.tmp rfl fun _ => rfl) rfl (map_get hx) ty9 rfl rfl)) rfl ?_
          refine AWl.nil ?_
          exact Le.sub0 (σ' := ⟨_, [(4, _), (5, _), (6, _), (30, _), (31, _), (32, _), (41, _)], [(7, _)]⟩) rfl ⟨rfl, rfl, rfl, rfl, rfl, rfl, rfl, trivial⟩ ⟨rfl, trivial⟩
        apply Dag.old (i := 0)
        case ha => rfl
        case ho => rfl
        case hb => rfl
        case hE =>
          intro w9
          refine AWl.put (R_move rfl (.no rfl) rfl (.tmp rfl fun _ => rfl)) rfl ?_
          refine AWl.nil ?_
          exact Le.sub0 rfl ⟨rfl, rfl, rfl, rfl, rfl, rfl, rfl, trivial⟩ ⟨rfl, trivial⟩
        apply Dag.old (i := 1)
        case ha => rfl
        case ho => rfl
        case hb => rfl
        case hE =>
          intro w9
          refine AWl.put (R_move rfl (.no rfl) rfl (.tmp rfl fun _ => rfl)) rfl ?_
          refine AWl.nil ?_
          exact Le.sub0 rfl ⟨rfl, rfl, rfl, rfl, rfl, rfl, rfl, trivial⟩ ⟨rfl, trivial⟩
        apply Dag.old (i := 2)
        case ha => rfl
        case ho => rfl
        case hb => rfl
        case hE =>
          intro w9
          refine AWl.put (R_move rfl (.no rfl) rfl (.tmp rfl fun _ => rfl)) rfl ?_
          refine AWl.nil ?_
          exact Le.sub0 rfl ⟨rfl, rfl, rfl, rfl, rfl, rfl, rfl, trivial⟩ ⟨rfl, trivial⟩
        apply Dag.new (i := 12)
        case ha => rfl
        case ho => rfl
        case hb => rfl
        case hE =>
          intro w9
          refine AWl.put (R_strIndex rfl (.no rfl) rfl (.tmp rfl fun _ => rfl) (.const rfl) Tryd.underlying9 (fun _ => ⟨by omega, (by rw [bs_get, hab]; rfl)⟩)) rfl ?_
          refine AWl.nil ?_
          exact Le.sub0 (σ' := ⟨_, [(4, _), (5, _), (6, _), (30, _), (31, _), (42, _)], [(7, _)]⟩) rfl ⟨rfl, rfl, rfl, rfl, rfl, rfl, trivial⟩ ⟨rfl, trivial⟩
        apply Dag.old (i := 0)
        case ha => rfl
        case ho => rfl
        case hb => rfl
        case hE =>
          intro w9
          refine AWl.put (R_move rfl (.no rfl) rfl (.tmp rfl fun _ => rfl)) rfl ?_
          refine AWl.nil ?_
          exact Le.sub0 rfl ⟨rfl, rfl, rfl, rfl, rfl, rfl, trivial⟩ ⟨rfl, trivial⟩
        apply Dag.old (i := 1)
        case ha => rfl
        case ho => rfl
        case hb => rfl
        case hE =>
          intro w9
          refine AWl.put (R_move rfl (.no rfl) rfl (.tmp rfl fun _ => rfl)) rfl ?_
          refine AWl.nil ?_
          exact Le.sub0 rfl ⟨rfl, rfl, rfl, rfl, rfl, rfl, trivial⟩ ⟨rfl, trivial⟩
        apply Dag.new (i := 12)
        case ha => rfl
        case ho => rfl
        case hb => rfl
        case hE =>
          intro w9
          refine AWl.put (R_strIndex rfl (.no rfl) rfl (.tmp rfl fun _ => rfl) (.const rfl) Tryd.underlying9 (fun _ => ⟨by omega, (by rw [bs_get, hab]; rfl)⟩)) rfl ?_
          refine AWl.nil ?_
          exact Le.sub0 (σ' := ⟨_, [(4, _), (5, _), (6, _), (30, _), (32, _), (42, _)], [(7, _)]⟩) rfl ⟨rfl, rfl, rfl, rfl, rfl, rfl, trivial⟩ ⟨rfl, trivial⟩
        apply Dag.old (i := 0)
        case ha => rfl
        case ho => rfl
        case hb => rfl
        case hE =>
          intro w9
          refine AWl.put (R_move rfl (.no rfl) rfl (.tmp rfl fun _ => rfl)) rfl ?_
          refine AWl.nil ?_
          exact Le.sub0 rfl ⟨rfl, rfl, rfl, rfl, rfl, rfl, trivial⟩ ⟨rfl, trivial⟩
        apply Dag.old (i := 2)
        case ha => rfl
        case ho => rfl
        case hb => rfl
        case hE =>
          intro w9
          refine AWl.put (R_move rfl (.no rfl) rfl (.tmp rfl fun _ => rfl)) rfl ?_
          refine AWl.nil ?_
          exact Le.sub0 rfl ⟨rfl, rfl, rfl, rfl, rfl, rfl, trivial⟩ ⟨rfl, trivial⟩
        apply Dag.new (i := 13)
        case ha => rfl
        case ho => rfl
        case hb => rfl
        case hE =>
          intro w9
          refine AWl.put (R_conv rfl (.no rfl) rfl (.tmp rfl fun _ => rfl) (by rw [Tryd.underlying5]; rfl) Tryd.underlying3 (fun _ => (show IntKind.i64.wrap (b.toNat : Int) = (b.toNat : Int) by simp [IntKind.wrap, IntKind.bits]; omega))) rfl ?_
          refine AWl.nil ?_
          exact Le.sub0 (σ' := ⟨_, [(4, _), (5, _), (6, _), (30, _), (43, _)], [(7, _)]⟩) rfl ⟨rfl, rfl, rfl, rfl, rfl, trivial⟩ ⟨rfl, trivial⟩
        apply Dag.old (i := 0)
        case ha => rfl
        case ho => rfl
        case hb => rfl
        case hE =>
          intro w9
          refine AWl.put (R_move rfl (.no rfl) rfl (.tmp rfl fun _ => rfl)) rfl ?_
          refine AWl.nil ?_
          exact Le.sub0 rfl ⟨rfl, rfl, rfl, rfl, rfl, trivial⟩ ⟨rfl, trivial⟩
        apply Dag.new (i := 7)
        case ha => rfl
        case ho => rfl
        case hb => rfl
        case hE =>
          intro w9
          refine AWl.put (R_sub rfl (.no rfl) rfl (.tmp rfl fun _ => rfl) (.const rfl) (fun _ => by omega)) rfl ?_
          refine AWl.nil ?_
          exact Le.sub0 (σ' := ⟨_, [(4, _), (5, _), (6, _), (37, _)], [(7, _)]⟩) rfl ⟨rfl, rfl, rfl, rfl, trivial⟩ ⟨rfl, trivial⟩
        apply Dag.new (i := 8)
        case ha => rfl
        case ho => rfl
        case hb => rfl
        case hE =>
          intro w9
          refine AWl.put (R_move rfl (.no rfl) rfl (.tmp rfl fun _ => rfl)) rfl ?_
          refine AWl.nil ?_
          exact Le.sub0 (σ' := ⟨_, [(4, _), (5, _), (6, _), (36, _), (38, _)], [(7, _)]⟩) rfl ⟨rfl, rfl, rfl, rfl, rfl, trivial⟩ ⟨rfl, trivial⟩
        apply Dag.old (i := 6)
        case ha => rfl
        case ho => rfl
        case hb => rfl
        case hE =>
          intro w9
          refine AWl.put (R_conv rfl (.no rfl) rfl (.tmp rfl fun _ => rfl) (by rw [Tryd.underlying5]; rfl) Tryd.underlying3 (fun _ => (show IntKind.i64.wrap (a.toNat : Int) = (a.toNat : Int) by simp [IntKind.wrap, IntKind.bits]; omega))) rfl ?_
          refine AWl.nil ?_
          exact Le.sub0 rfl ⟨rfl, rfl, rfl, rfl, rfl, trivial⟩ ⟨rfl, trivial⟩
        apply Dag.new (i := 9)
        case ha => rfl
        case ho => rfl
        case hb => rfl
        case hE =>
          intro w9
          refine AWl.put (R_move rfl (.no rfl) rfl (.tmp rfl fun _ => rfl)) rfl ?_
          refine AWl.nil ?_
          exact Le.sub0 (σ' := ⟨_, [(4, _), (5, _), (6, _), (36, _), (39, _)], [(7, _)]⟩) rfl ⟨rfl, rfl, rfl, rfl, rfl, trivial⟩ ⟨rfl, trivial⟩
        apply Dag.old (i := 6)
        case ha => rfl
        case ho => rfl
        case hb => rfl
        case hE =>
          intro w9
          refine AWl.put (R_conv rfl (.no rfl) rfl (.tmp rfl fun _ => rfl) (by rw [Tryd.underlying5]; rfl) Tryd.underlying3 (fun _ => (show IntKind.i64.wrap (a.toNat : Int) = (a.toNat : Int) by simp [IntKind.wrap, IntKind.bits]; omega))) rfl ?_
          refine AWl.nil ?_
          exact Le.sub0 rfl ⟨rfl, rfl, rfl, rfl, rfl, trivial⟩ ⟨rfl, trivial⟩
        apply Dag.new (i := 9)
        case ha => rfl
        case ho => rfl
        case hb => rfl
        case hE =>
          intro w9
          refine AWl.put (R_move rfl (.no rfl) rfl (.tmp rfl fun _ => rfl)) rfl ?_
          refine AWl.nil ?_
          exact Le.sub0 (σ' := ⟨_, [(4, _), (5, _), (6, _), (35, _), (38, _), (39, _)], [(7, _)]⟩) rfl ⟨rfl, rfl, rfl, rfl, rfl, rfl, trivial⟩ ⟨rfl, trivial⟩
        apply Dag.old (i := 5)
        case ha => rfl
        case ho => rfl
        case hb => rfl
        case hE =>
          intro w9
          refine AWl.put (R_strIndex rfl (.no rfl) rfl (.tmp rfl fun _ => rfl) (.const rfl) Tryd.underlying9 (fun _ => ⟨by omega, (by rw [bs_get, hab]; rfl)⟩)) rfl ?_
          refine AWl.nil ?_
          exact Le.sub0 rfl ⟨rfl, rfl, rfl, rfl, rfl, rfl, trivial⟩ ⟨rfl, trivial⟩
        apply Dag.old (i := 8)
        case ha => rfl
        case ho => rfl
        case hb => rfl
        case hE =>
          intro w9
          refine AWl.put (R_move rfl (.no rfl) rfl (.tmp rfl fun _ => rfl)) rfl ?_
          refine AWl.nil ?_
          exact Le.sub0 rfl ⟨rfl, rfl, rfl, rfl, rfl, rfl, trivial⟩ ⟨rfl, trivial⟩
        apply Dag.new (i := 10)
        case ha => rfl
        case ho => rfl
        case hb => rfl
        case hE =>
          intro w9
          refine AWl.put ((by first | exact R_indexAddr rfl (.no rfl) rfl (.tmp rfl fun _ => rfl) (.tmp rfl fun _ => rfl) Tryd.underlying68 ty9 (fun _ => ⟨by omega, (map_get hx)⟩) | exact R_indexAddr_vw rfl (.no rfl) rfl (.tmp rfl fun _ => rfl) (.tmp rfl fun _ => rfl) Tryd.underlying68 ty9 (fun _ => ⟨by omega, (map_get hx)⟩) | exact R_indexAddr_rf rfl (.no rfl) rfl (.tmp rfl fun _ => rfl) rfl (.tmp rfl fun _ => rfl) Tryd.underlying68 ty9 (fun _ => ⟨by omega, (map_get hx)⟩))) rfl ?_
          refine AWl.nil ?_
          exact Le.sub0 (σ' := ⟨_, [(4, _), (5, _), (6, _), (34, _), (40, _)], [(7, _)]⟩) rfl ⟨rfl, rfl, rfl, rfl, rfl, trivial⟩ ⟨rfl, trivial⟩
        apply Dag.old (i := 4)
        case ha => rfl
        case ho => rfl
        case hb => rfl
        case hE =>
          intro w9
          refine AWl.put ((by first | exact R_load rfl (.no rfl) rfl (.tmp rfl fun _ => rfl) ty9 rfl rfl | exact R_load_pp rfl (.no rfl) rfl (.tmp rfl fun _ => rfl) rfl ty9 rfl rfl | exact R_load_vw rfl (.no rfl) rfl (.tmp rfl fun _ => rfl) ty9 rfl rfl | exact R_load_pr rfl (.no rfl) rfl (.tmp rfl fun _ => rfl) rfl (map_get hx) ty9 rfl rfl)) rfl ?_
          refine AWl.nil ?_
          exact Le.sub0 rfl ⟨rfl, rfl, rfl, rfl, rfl, trivial⟩ ⟨rfl, trivial⟩
        apply Dag.new (i := 11)
        case ha => rfl
        case ho => rfl
        case hb => rfl
        case hE =>
          intro w9
          refine AWl.put ((by first | exact R_load rfl (.no rfl) rfl (.tmp rfl fun _ => rfl) ty9 rfl rfl | exact R_load_pp rfl (.no rfl) rfl (.tmp rfl fun _ => rfl) rfl ty9 rfl rfl | exact R_load_vw rfl (.no rfl) rfl (.tmp rfl fun _ => rfl) ty9 rfl rfl | exact R_load_pr rfl (.no rfl) rfl (.tmp rfl fun _ => rfl) rfl (map_get hx) ty9 rfl rfl)) rfl ?_
          refine AWl.nil ?_
          exact Le.sub0 (σ' := ⟨_, [(4, _), (5, _), (6, _), (33, _), (41, _)], [(7, _)]⟩) rfl ⟨rfl, rfl, rfl, rfl, rfl, trivial⟩ ⟨rfl, trivial⟩
        apply Dag.old (i := 3)
        case ha => rfl
        case ho => rfl
        case hb => rfl
        case hE =>
          intro w9
          refine AWl.put ((by first | exact R_indexAddr rfl (.no rfl) rfl (.tmp rfl fun _ => rfl) (.tmp rfl fun _ => rfl) Tryd.underlying68 ty9 (fun _ => ⟨by omega, (map_get hx)⟩) | exact R_indexAddr_vw rfl (.no rfl) rfl (.tmp rfl fun _ => rfl) (.tmp rfl fun _ => rfl) Tryd.underlying68 ty9 (fun _ => ⟨by omega, (map_get hx)⟩) | exact R_indexAddr_rf rfl (.no rfl) rfl (.tmp rfl fun _ => rfl) rfl (.tmp rfl fun _ => rfl) Tryd.underlying68 ty9 (fun _ => ⟨by omega, (map_get hx)⟩))) rfl ?_
          refine AWl.nil ?_
          exact Le.sub0 rfl ⟨rfl, rfl, rfl, rfl, rfl, trivial⟩ ⟨rfl, trivial⟩
        apply Dag.new (i := 12)
        case ha => rfl
        case ho => rfl
        case hb => rfl
        case hE =>
          intro w9
          refine AWl.put (R_strIndex rfl (.no rfl) rfl (.tmp rfl fun _ => rfl) (.const rfl) Tryd.underlying9 (fun _ => ⟨by omega, (by rw [bs_get, hab]; rfl)⟩)) rfl ?_
          refine AWl.nil ?_
          exact Le.sub0 (σ' := ⟨_, [(4, _), (5, _), (6, _), (31, _), (32, _), (42, _)], [(7, _)]⟩) rfl ⟨rfl, rfl, rfl, rfl, rfl, rfl, trivial⟩ ⟨rfl, trivial⟩
        apply Dag.old (i := 1)
        case ha => rfl
        case ho => rfl
        case hb => rfl
        case hE =>
          intro w9
          refine AWl.put (R_move rfl (.no rfl) rfl (.tmp rfl fun _ => rfl)) rfl ?_
          refine AWl.nil ?_
          exact Le.sub0 rfl ⟨rfl, rfl, rfl, rfl, rfl, rfl, trivial⟩ ⟨rfl, trivial⟩
        apply Dag.old (i := 2)
        case ha => rfl
        case ho => rfl
        case hb => rfl
        case hE =>
          intro w9
          refine AWl.put (R_move rfl (.no rfl) rfl (.tmp rfl fun _ => rfl)) rfl ?_
          refine AWl.nil ?_
          exact Le.sub0 rfl ⟨rfl, rfl, rfl, rfl, rfl, rfl, trivial⟩ ⟨rfl, trivial⟩
        apply Dag.new (i := 13)
        case ha => rfl
        case ho => rfl
        case hb => rfl
        case hE =>
          intro w9
          refine AWl.put (R_conv rfl (.no rfl) rfl (.tmp rfl fun _ => rfl) (by rw [Tryd.underlying5]; rfl) Tryd.underlying3 (fun _ => (show IntKind.i64.wrap (b.toNat : Int) = (b.toNat : Int) by simp [IntKind.wrap, IntKind.bits]; omega))) rfl ?_
          refine AWl.nil ?_
          exact Le.sub0 (σ' := ⟨_, [(4, _), (5, _), (6, _), (31, _), (43, _)], [(7, _)]⟩) rfl ⟨rfl, rfl, rfl, rfl, rfl, trivial⟩ ⟨rfl, trivial⟩
        apply Dag.old (i := 1)
        case ha => rfl
        case ho => rfl
        case hb => rfl
        case hE =>
          intro w9
          refine AWl.put (R_move rfl (.no rfl) rfl (.tmp rfl fun _ => rfl)) rfl ?_
          refine AWl.nil ?_
          exact Le.sub0 rfl ⟨rfl, rfl, rfl, rfl, rfl, trivial⟩ ⟨rfl, trivial⟩
        apply Dag.new (i := 13)
        case ha => rfl
        case ho => rfl
        case hb => rfl
        case hE =>
          intro w9
          refine AWl.put (R_conv rfl (.no rfl) rfl (.tmp rfl fun _ => rfl) (by rw [Tryd.underlying5]; rfl) Tryd.underlying3 (fun _ => (show IntKind.i64.wrap (b.toNat : Int) = (b.toNat : Int) by simp [IntKind.wrap, IntKind.bits]; omega))) rfl ?_
          refine AWl.nil ?_
          exact Le.sub0 (σ' := ⟨_, [(4, _), (5, _), (6, _), (32, _), (43, _)], [(7, _)]⟩) rfl ⟨rfl, rfl, rfl, rfl, rfl, trivial⟩ ⟨rfl, trivial⟩
        apply Dag.old (i := 2)
        case ha => rfl
        case ho => rfl
        case hb => rfl
        case hE =>
          intro w9
          refine AWl.put (R_move rfl (.no rfl) rfl (.tmp rfl fun _ => rfl)) rfl ?_
          refine AWl.nil ?_
          exact Le.sub0 rfl ⟨rfl, rfl, rfl, rfl, rfl, trivial⟩ ⟨rfl, trivial⟩
        apply Dag.new (i := 14)
        case ha => rfl
        case ho => rfl
        case hb => rfl
        case hE =>
          intro w9
          refine AWl.put (R_sub rfl (.no rfl) rfl (.tmp rfl fun _ => rfl) (.const rfl) (fun _ => by omega)) rfl ?_
          refine AWl.nil ?_
          exact Le.sub0 (σ' := ⟨_, [(4, _), (5, _), (6, _), (44, _)], [(7, _)]⟩) rfl ⟨rfl, rfl, rfl, rfl, trivial⟩ ⟨rfl, trivial⟩
        apply Dag.new (i := 7)
        case ha => rfl
        case ho => rfl
        case hb => rfl
        case hE =>
          intro w9
          refine AWl.put (R_sub rfl (.no rfl) rfl (.tmp rfl fun _ => rfl) (.const rfl) (fun _ => by omega)) rfl ?_
          refine AWl.nil ?_
          exact Le.sub0 (σ' := ⟨_, [(4, _), (5, _), (6, _), (30, _), (37, _)], [(7, _)]⟩) rfl ⟨rfl, rfl, rfl, rfl, rfl, trivial⟩ ⟨rfl, trivial⟩
        apply Dag.old (i := 0)
        case ha => rfl
        case ho => rfl
        case hb => rfl
        case hE =>
          intro w9
          refine AWl.put (R_move rfl (.no rfl) rfl (.tmp rfl fun _ => rfl)) rfl ?_
          refine AWl.nil ?_
          exact Le.sub0 rfl ⟨rfl, rfl, rfl, rfl, rfl, trivial⟩ ⟨rfl, trivial⟩
        apply Dag.new (i := 8)
        case ha => rfl
        case ho => rfl
        case hb => rfl
        case hE =>
          intro w9
          refine AWl.put (R_move rfl (.no rfl) rfl (.tmp rfl fun _ => rfl)) rfl ?_
          refine AWl.nil ?_
          exact Le.sub0 (σ' := ⟨_, [(4, _), (5, _), (6, _), (30, _), (36, _), (38, _)], [(7, _)]⟩) rfl ⟨rfl, rfl, rfl, rfl, rfl, rfl, trivial⟩ ⟨rfl, trivial⟩
        apply Dag.old (i := 0)
        case ha => rfl
        case ho => rfl
        case hb => rfl
        case hE =>
          intro w9
          refine AWl.put (R_move rfl (.no rfl) rfl (.tmp rfl fun _ => rfl)) rfl ?_
          refine AWl.nil ?_
          exact Le.sub0 rfl ⟨rfl, rfl, rfl, rfl, rfl, rfl, trivial⟩ ⟨rfl, trivial⟩
        apply Dag.old (i := 6)
        case ha => rfl
        case ho => rfl
        case hb => rfl
        case hE =>
          intro w9
          refine AWl.put (R_conv rfl (.no rfl) rfl (.tmp rfl fun _ => rfl) (by rw [Tryd.underlying5]; rfl) Tryd.underlying3 (fun _ => (show IntKind.i64.wrap (a.toNat : Int) = (a.toNat : Int) by simp [IntKind.wrap, IntKind.bits]; omega))) rfl ?_
          refine AWl.nil ?_
          exact Le.sub0 rfl ⟨rfl, rfl, rfl, rfl, rfl, rfl, trivial⟩ ⟨rfl, trivial⟩
        apply Dag.new (i := 9)
        case ha => rfl
        case ho => rfl
        case hb => rfl
        case hE =>
          intro w9
          refine AWl.put (R_move rfl (.no rfl) rfl (.tmp rfl fun _ => rfl)) rfl ?_
          refine AWl.nil ?_
          exact Le.sub0 (σ' := ⟨_, [(4, _), (5, _), (6, _), (30, _), (36, _), (39, _)], [(7, _)]⟩) rfl ⟨rfl, rfl, rfl, rfl, rfl, rfl, trivial⟩ ⟨rfl, trivial⟩
        apply Dag.old (i := 0)
        case ha => rfl
        case ho => rfl
        case hb => rfl
        case hE =>
          intro w9
          refine AWl.put (R_move rfl (.no rfl) rfl (.tmp rfl fun _ => rfl)) rfl ?_
          refine AWl.nil ?_
          exact Le.sub0 rfl ⟨rfl, rfl, rfl, rfl, rfl, rfl, trivial⟩ ⟨rfl, trivial⟩
        apply Dag.old (i := 6)
        case ha => rfl
        case ho => rfl
        case hb => rfl
        case hE =>
          intro w9
          refine AWl.put (R_conv rfl (.no rfl) rfl (.tmp rfl fun _ => rfl) (by rw [Tryd.underlying5]; rfl) Tryd.underlying3 (fun _ => (show IntKind.i64.wrap (a.toNat : Int) = (a.toNat : Int) by simp [IntKind.wrap, IntKind.bits]; omega))) rfl ?_
          refine AWl.nil ?_
          exact Le.sub0 rfl ⟨rfl, rfl, rfl, rfl, rfl, rfl, trivial⟩ ⟨rfl, trivial⟩
        apply Dag.new (i := 9)
        case ha => rfl
        case ho => rfl
        case hb => rfl
        case hE =>
          intro w9
          refine AWl.put (R_move rfl (.no rfl) rfl (.tmp rfl fun _ => rfl)) rfl ?_
          refine AWl.nil ?_
          exact Le.sub0 (σ' := ⟨_, [(4, _), (5, _), (6, _), (30, _), (35, _), (38, _), (39, _)], [(7, _)]⟩) rfl ⟨rfl, rfl, rfl, rfl, rfl, rfl, rfl, trivial⟩ ⟨rfl, trivial⟩
        apply Dag.old (i := 0)
        case ha => rfl
        case ho => rfl
        case hb => rfl
        case hE =>
          intro w9
          refine AWl.put (R_move rfl (.no rfl) rfl (.tmp rfl fun _ => rfl)) rfl ?_
          refine AWl.nil ?_
          exact Le.sub0 rfl ⟨rfl, rfl, rfl, rfl, rfl, rfl, rfl, trivial⟩ ⟨rfl, trivial⟩
        apply Dag.old (i := 5)
        case ha => rfl
        case ho => rfl
        case hb => rfl
        case hE =>
          intro w9
          refine AWl.put (R_strIndex rfl (.no rfl) rfl (.tmp rfl fun _ => rfl) (.const rfl) Tryd.underlying9 (fun _ => ⟨by omega, (by rw [bs_get, hab]; rfl)⟩)) rfl ?_
          refine AWl.nil ?_
          exact Le.sub0 rfl ⟨rfl, rfl, rfl, rfl, rfl, rfl, rfl, trivial⟩ ⟨rfl, trivial⟩
        apply Dag.old (i := 8)
        case ha => rfl
        case ho => rfl
        case hb => rfl
        case hE =>
          intro w9
          refine AWl.put (R_move rfl (.no rfl) rfl (.tmp rfl fun _ => rfl)) rfl ?_
          refine AWl.nil ?_
          exact Le.sub0 rfl ⟨rfl, rfl, rfl, rfl, rfl, rfl, rfl, trivial⟩ ⟨rfl, trivial⟩
        apply Dag.new (i := 10)
        case ha => rfl
        case ho => rfl
        case hb => rfl
        case hE =>
          intro w9
          refine AWl.put ((by first | exact R_indexAddr rfl (.no rfl) rfl (.tmp rfl fun _ => rfl) (.tmp rfl fun _ => rfl) Tryd.underlying68 ty9 (fun _ => ⟨by omega, (map_get hx)⟩) | exact R_indexAddr_vw rfl (.no rfl) rfl (.tmp rfl fun _ => rfl) (.tmp rfl fun _ => rfl) Tryd.underlying68 ty9 (fun _ => ⟨by omega, (map_get hx)⟩) | exact R_indexAddr_rf rfl (.no rfl) rfl (.tmp rfl fun _ => rfl) rfl (.tmp rfl fun _ => rfl) Tryd.underlying68 ty9 (fun _ => ⟨by omega, (map_get hx)⟩))) rfl ?_
          refine AWl.nil ?_
          exact Le.sub0 (σ' := ⟨_, [(4, _), (5, _), (6, _), (30, _), (34, _), (40, _)], [(7, _)]⟩) rfl ⟨rfl, rfl, rfl, rfl, rfl, rfl, trivial⟩ ⟨rfl, trivial⟩
        apply Dag.old (i := 0)
        case ha => rfl
        case ho => rfl
        case hb => rfl
        case hE =>
          intro w9
          refine AWl.put (R_move rfl (.no rfl) rfl (.tmp rfl fun _ => rfl)) rfl ?_
          refine AWl.nil ?_
          exact Le.sub0 rfl ⟨rfl, rfl, rfl, rfl, rfl, rfl, trivial⟩ ⟨rfl, trivial⟩
        apply Dag.old (i := 4)
        case ha => rfl
        case ho => rfl
        case hb => rfl
        case hE =>
          intro w9
          refine AWl.put ((by first | exact R_load rfl (.no rfl) rfl (.tmp rfl fun _ => rfl) ty9 rfl rfl | exact R_load_pp rfl (.no rfl) rfl (.tmp rfl fun _ => rfl) rfl ty9 rfl rfl | exact R_load_vw rfl (.no rfl) rfl (.tmp rfl fun _ => rfl) ty9 rfl rfl | exact R_load_pr rfl (.no rfl) rfl (.tmp rfl fun _ => rfl) rfl (map_get hx) ty9 rfl rfl)) rfl ?_
          refine AWl.nil ?_
          exact Le.sub0 rfl ⟨rfl, rfl, rfl, rfl, rfl, rfl, trivial⟩ ⟨rfl, trivial⟩
        apply Dag.new (i := 11)
        case ha => rfl
        case ho => rfl
        case hb => rfl
        case hE =>
          intro w9
          refine AWl.put ((by first | exact R_load rfl (.no rfl) rfl (.tmp rfl fun _ => rfl) ty9 rfl rfl | exact R_load_pp rfl (.no rfl) rfl (.tmp rfl fun _ => rfl) rfl ty9 rfl rfl | exact R_load_vw rfl (.no rfl) rfl (.tmp rfl fun _ => rfl) ty9 rfl rfl | exact R_load_pr rfl (.no rfl) rfl (.tmp rfl fun _ => rfl) rfl (map_get hx) ty9 rfl rfl)) rfl ?_
          refine AWl.nil ?_
          exact Le.sub0 (σ' := ⟨_, [(4, _), (5, _), (6, _), (30, _), (33, _), (41, _)], [(7, _)]⟩) rfl ⟨rfl, rfl, rfl, rfl, rfl, rfl, trivial⟩ ⟨rfl, trivial⟩
        apply Dag.old (i := 0)
        case ha => rfl
        case ho => rfl
        case hb => rfl
        case hE =>
          intro w9
          refine AWl.put (R_move rfl (.no rfl) rfl (.tmp rfl fun _ => rfl)) rfl ?_
          refine AWl.nil ?_
          exact Le.sub0 rfl ⟨rfl, rfl, rfl, rfl, rfl, rfl, trivial⟩ ⟨rfl, trivial⟩
        apply Dag.old (i := 3)
        case ha => rfl
        case ho => rfl
        case hb => rfl
        case hE =>
          intro w9
          refine AWl.put ((by first | exact R_indexAddr rfl (.no rfl) rfl (.tmp rfl fun _ => rfl) (.tmp rfl fun _ => rfl) Tryd.underlying68 ty9 (fun _ => ⟨by omega, (map_get hx)⟩) | exact R_indexAddr_vw rfl (.no rfl) rfl (.tmp rfl fun _ => rfl) (.tmp rfl fun _ => rfl) Tryd.underlying68 ty9 (fun _ => ⟨by omega, (map_get hx)⟩) | exact R_indexAddr_rf rfl (.no rfl) rfl (.tmp rfl fun _ => rfl) rfl (.tmp rfl fun _ => rfl) Tryd.underlying68 ty9 (fun _ => ⟨by omega, (map_get hx)⟩))) rfl ?_
          refine AWl.nil ?_
          exact Le.sub0 rfl ⟨rfl, rfl, rfl, rfl, rfl, rfl, trivial⟩ ⟨rfl, trivial⟩
        apply Dag.new (i := 12)
        case ha => rfl
        case ho => rfl
        case hb => rfl
        case hE =>
          intro w9
          refine AWl.put (R_strIndex rfl (.no rfl) rfl (.tmp rfl fun _ => rfl) (.const rfl) Tryd.underlying9 (fun _ => ⟨by omega, (by rw [bs_get, hab]; rfl)⟩)) rfl ?_
          refine AWl.nil ?_
          exact Le.sub0 (σ' := ⟨_, [(4, _), (5, _), (6, _), (30, _), (31, _), (32, _), (42, _)], [(7, _)]⟩) rfl ⟨rfl, rfl, rfl, rfl, rfl, rfl, rfl, trivial⟩ ⟨rfl, trivial⟩
        apply Dag.old (i := 0)
        case ha => rfl
        case ho => rfl
        case hb => rfl
        case hE =>
          intro w9
          refine AWl.put (R_move rfl (.no rfl) rfl (.tmp rfl fun _ => rfl)) rfl ?_
          refine AWl.nil ?_
          exact Le.sub0 rfl ⟨rfl, rfl, rfl, rfl, rfl, rfl, rfl, trivial⟩ ⟨rfl, trivial⟩
        apply Dag.old (i := 1)
        case ha => rfl
        case ho => rfl
        case hb => rfl
        case hE =>
          intro w9
          refine AWl.put (R_move rfl (.no rfl) rfl (.tmp rfl fun _ => rfl)) rfl ?_
          refine AWl.nil ?_
          exact Le.sub0 rfl ⟨rfl, rfl, rfl, rfl, rfl, rfl, rfl, trivial⟩ ⟨rfl, trivial⟩
        apply Dag.old (i := 2)
        case ha => rfl
        case ho => rfl
        case hb => rfl
        case hE =>
          intro w9
          refine AWl.put (R_move rfl (.no rfl) rfl (.tmp rfl fun _ => rfl)) rfl ?_
          refine AWl.nil ?_
          exact Le.sub0 rfl ⟨rfl, rfl, rfl, rfl, rfl, rfl, rfl, trivial⟩ ⟨rfl, trivial⟩
        apply Dag.new (i := 13)
        case ha => rfl
        case ho => rfl
        case hb => rfl
        case hE =>
          intro w9
          refine AWl.put (R_conv rfl (.no rfl) rfl (.tmp rfl fun _ => rfl) (by rw [Tryd.underlying5]; rfl) Tryd.underlying3 (fun _ => (show IntKind.i64.wrap (b.toNat : Int) = (b.toNat : Int) by simp [IntKind.wrap, IntKind.bits]; omega))) rfl ?_
          refine AWl.nil ?_
          exact Le.sub0 (σ' := ⟨_, [(4, _), (5, _), (6, _), (30, _), (31, _), (43, _)], [(7, _)]⟩) rfl ⟨rfl, rfl, rfl, rfl, rfl, rfl, trivial⟩ ⟨rfl, trivial⟩
        apply Dag.old (i := 0)
        case ha => rfl
        case ho => rfl
        case hb => rfl
        case hE =>
          intro w9
          refine AWl.put (R_move rfl (.no rfl) rfl (.tmp rfl fun _ => rfl)) rfl ?_
          refine AWl.nil ?_
          exact Le.sub0 rfl ⟨rfl, rfl, rfl, rfl, rfl, rfl, trivial⟩ ⟨rfl, trivial⟩
        apply Dag.old (i := 1)
        case ha => rfl
        case ho => rfl
        case hb => rfl
        case hE =>
          intro w9
          refine AWl.put (R_move rfl (.no rfl) rfl (.tmp rfl fun _ => rfl)) rfl ?_
          refine AWl.nil ?_
          exact Le.sub0 rfl ⟨rfl, rfl, rfl, rfl, rfl, rfl, trivial⟩ ⟨rfl, trivial⟩
        apply Dag.new (i := 13)
        case ha => rfl
        case ho => rfl
        case hb => rfl
        case hE =>
          intro w9
          refine AWl.put (R_conv rfl (.no rfl) rfl (.tmp rfl fun _ => rfl) (by rw [Tryd.underlying5]; rfl) Tryd.underlying3 (fun _ => (show IntKind.i64.wrap (b.toNat : Int) = (b.toNat : Int) by simp [IntKind.wrap, IntKind.bits]; omega))) rfl ?_
          refine AWl.nil ?_
          exact Le.sub0 (σ' := ⟨_, [(4, _), (5, _), (6, _), (30, _), (32, _), (43, _)], [(7, _)]⟩) rfl ⟨rfl, rfl, rfl, rfl, rfl, rfl, trivial⟩ ⟨rfl, trivial⟩
        apply Dag.old (i := 0)
        case ha => rfl
        case ho => rfl
        case hb => rfl
        case hE =>
          intro w9
          refine AWl.put (R_move rfl (.no rfl) rfl (.tmp rfl fun _ => rfl)) rfl ?_
          refine AWl.nil ?_
          exact Le.sub0 rfl ⟨rfl, rfl, rfl, rfl, rfl, rfl, trivial⟩ ⟨rfl, trivial⟩
        apply Dag.old (i := 2)
        case ha => rfl
        case ho => rfl
        case hb => rfl
        case hE =>
          intro w9
          refine AWl.put (R_move rfl (.no rfl) rfl (.tmp rfl fun _ => rfl)) rfl ?_
          refine AWl.nil ?_
          exact Le.sub0 rfl ⟨rfl, rfl, rfl, rfl, rfl, rfl, trivial⟩ ⟨rfl, trivial⟩
        apply Dag.new (i := 14)
        case ha => rfl
        case ho => rfl
        case hb => rfl
        case hE =>
          intro w9
          refine AWl.put (R_sub rfl (.no rfl) rfl (.tmp rfl fun _ => rfl) (.const rfl) (fun _ => by omega)) rfl ?_
          refine AWl.nil ?_
          exact Le.sub0 (σ' := ⟨_, [(4, _), (5, _), (6, _), (30, _), (44, _)], [(7, _)]⟩) rfl ⟨rfl, rfl, rfl, rfl, rfl, trivial⟩ ⟨rfl, trivial⟩
        apply Dag.old (i := 0)
        case ha => rfl
        case ho => rfl
        case hb => rfl
        case hE =>
          intro w9
          refine AWl.put (R_move rfl (.no rfl) rfl (.tmp rfl fun _ => rfl)) rfl ?_
          refine AWl.nil ?_
          exact Le.sub0 rfl ⟨rfl, rfl, rfl, rfl, rfl, trivial⟩ ⟨rfl, trivial⟩
        apply Dag.new (i := 8)
        case ha => rfl
        case ho => rfl
        case hb => rfl
        case hE =>
          intro w9
          refine AWl.put (R_move rfl (.no rfl) rfl (.tmp rfl fun _ => rfl)) rfl ?_
          refine AWl.nil ?_
          exact Le.sub0 (σ' := ⟨_, [(4, _), (5, _), (6, _), (37, _), (38, _)], [(7, _)]⟩) rfl ⟨rfl, rfl, rfl, rfl, rfl, trivial⟩ ⟨rfl, trivial⟩
        apply Dag.old (i := 7)
        case ha => rfl
        case ho => rfl
        case hb => rfl
        case hE =>
          intro w9
          refine AWl.put (R_sub rfl (.no rfl) rfl (.tmp rfl fun _ => rfl) (.const rfl) (fun _ => by omega)) rfl ?_
          refine AWl.nil ?_
          exact Le.sub0 rfl ⟨rfl, rfl, rfl, rfl, rfl, trivial⟩ ⟨rfl, trivial⟩
        apply Dag.new (i := 9)
        case ha => rfl
        case ho => rfl
        case hb => rfl
        case hE =>
          intro w9
          refine AWl.put (R_move rfl (.no rfl) rfl (.tmp rfl fun _ => rfl)) rfl ?_
          refine AWl.nil ?_
          exact Le.sub0 (σ' := ⟨_, [(4, _), (5, _), (6, _), (37, _), (39, _)], [(7, _)]⟩) rfl ⟨rfl, rfl, rfl, rfl, rfl, trivial⟩ ⟨rfl, trivial⟩
        apply Dag.old (i := 7)
        case ha => rfl
        case ho => rfl
        case hb => rfl
        case hE =>
          intro w9
          refine AWl.put (R_sub rfl (.no rfl) rfl (.tmp rfl fun _ => rfl) (.const rfl) (fun _ => by omega)) rfl ?_
          refine AWl.nil ?_
          exact Le.sub0 rfl ⟨rfl, rfl, rfl, rfl, rfl, trivial⟩ ⟨rfl, trivial⟩
        apply Dag.new (i := 9)
        case ha => rfl
        case ho => rfl
        case hb => rfl
        case hE =>
          intro w9
          refine AWl.put (R_move rfl (.no rfl) rfl (.tmp rfl fun _ => rfl)) rfl ?_
          refine AWl.nil ?_
          exact Le.sub0 (σ' := ⟨_, [(4, _), (5, _), (6, _), (36, _), (38, _), (39, _)], [(7, _)]⟩) rfl ⟨rfl, rfl, rfl, rfl, rfl, rfl, trivial⟩ ⟨rfl, trivial⟩
        apply Dag.old (i := 6)
        case ha => rfl
        case ho => rfl
        case hb => rfl
        case hE =>
          intro w9
          refine AWl.put (R_conv rfl (.no rfl) rfl (.tmp rfl fun _ => rfl) (by rw [Tryd.underlying5]; rfl) Tryd.underlying3 (fun _ => (show IntKind.i64.wrap (a.toNat : Int) = (a.toNat : Int) by simp [IntKind.wrap, IntKind.bits]; omega))) rfl ?_
          refine AWl.nil ?_
          exact Le.sub0 rfl ⟨rfl, rfl, rfl, rfl, rfl, rfl, trivial⟩ ⟨rfl, trivial⟩
        apply Dag.old (i := 8)
        case ha => rfl
        case ho => rfl
        case hb => rfl
        case hE =>
          intro w9
          refine AWl.put (R_move rfl (.no rfl) rfl (.tmp rfl fun _ => rfl)) rfl ?_
          refine AWl.nil ?_
          exact Le.sub0 rfl ⟨rfl, rfl, rfl, rfl, rfl, rfl, trivial⟩ ⟨rfl, trivial⟩
        apply Dag.new (i := 10)
        case ha => rfl
        case ho => rfl
        case hb => rfl
        case hE =>
          intro w9
          refine AWl.put ((by first | exact R_indexAddr rfl (.no rfl) rfl (.tmp rfl fun _ => rfl) (.tmp rfl fun _ => rfl) Tryd.underlying68 ty9 (fun _ => ⟨by omega, (map_get hx)⟩) | exact R_indexAddr_vw rfl (.no rfl) rfl (.tmp rfl fun _ => rfl) (.tmp rfl fun _ => rfl) Tryd.underlying68 ty9 (fun _ => ⟨by omega, (map_get hx)⟩) | exact R_indexAddr_rf rfl (.no rfl) rfl (.tmp rfl fun _ => rfl) rfl (.tmp rfl fun _ => rfl) Tryd.underlying68 ty9 (fun _ => ⟨by omega, (map_get hx)⟩))) rfl ?_
          refine AWl.nil ?_
          exact Le.sub0 (σ' := ⟨_, [(4, _), (5, _), (6, _), (35, _), (40, _)], [(7, _)]⟩) rfl ⟨rfl, rfl, rfl, rfl, rfl, trivial⟩ ⟨rfl, trivial⟩
        apply Dag.old (i := 5)
        case ha => rfl
        case ho => rfl
        case hb => rfl
        case hE =>
          intro w9
          refine AWl.put (R_strIndex rfl (.no rfl) rfl (.tmp rfl fun _ => rfl) (.const rfl) Tryd.underlying9 (fun _ => ⟨by omega, (by rw [bs_get, hab]; rfl)⟩)) rfl ?_
          refine AWl.nil ?_
          exact Le.sub0 rfl ⟨rfl, rfl, rfl, rfl, rfl, trivial⟩ ⟨rfl, trivial⟩
        apply Dag.new (i := 11)
        case ha => rfl
        case ho => rfl
        case hb => rfl
        case hE =>
          intro w9
          refine AWl.put ((by first | exact R_load rfl (.no rfl) rfl (.tmp rfl fun _ => rfl) ty9 rfl rfl | exact R_load_pp rfl (.no rfl) rfl (.tmp rfl fun _ => rfl) rfl ty9 rfl rfl | exact R_load_vw rfl (.no rfl) rfl (.tmp rfl fun _ => rfl) ty9 rfl rfl | exact R_load_pr rfl (.no rfl) rfl (.tmp rfl fun _ => rfl) rfl (map_get hx) ty9 rfl rfl)) rfl ?_
          refine AWl.nil ?_
          exact Le.sub0 (σ' := ⟨_, [(4, _), (5, _), (6, _), (34, _), (41, _)], [(7, _)]⟩) rfl ⟨rfl, rfl, rfl, rfl, rfl, trivial⟩ ⟨rfl, trivial⟩
        apply Dag.old (i := 4)
        case ha => rfl
        case ho => rfl
        case hb => rfl
        case hE =>
          intro w9
          refine AWl.put ((by first | exact R_load rfl (.no rfl) rfl (.tmp rfl fun _ => rfl) ty9 rfl rfl | exact R_load_pp rfl (.no rfl) rfl (.tmp rfl fun _ => rfl) rfl ty9 rfl rfl | exact R_load_vw rfl (.no rfl) rfl (.tmp rfl fun _ => rfl) ty9 rfl rfl | exact R_load_pr rfl (.no rfl) rfl (.tmp rfl fun _ => rfl) rfl (map_get hx) ty9 rfl rfl)) rfl ?_
          refine AWl.nil ?_
          exact Le.sub0 rfl ⟨rfl, rfl, rfl, rfl, rfl, trivial⟩ ⟨rfl, trivial⟩
        apply Dag.new (i := 12)
        case ha => rfl
        case ho => rfl
        case hb => rfl
        case hE =>
          intro w9
          refine AWl.put (R_strIndex rfl (.no rfl) rfl (.tmp rfl fun _ => rfl) (.const rfl) Tryd.underlying9 (fun _ => ⟨by omega, (by rw [bs_get, hab]; rfl)⟩)) rfl ?_
          refine AWl.nil ?_
          exact Le.sub0 (σ' := ⟨_, [(4, _), (5, _), (6, _), (33, _), (42, _)], [(7, _)]⟩) rfl ⟨rfl, rfl, rfl, rfl, rfl, trivial⟩ ⟨rfl, trivial⟩
        apply Dag.old (i := 3)
        case ha => rfl
        case ho => rfl
        case hb => rfl
        case hE =>
          intro w9
          refine AWl.put ((by first | exact R_indexAddr rfl (.no rfl) rfl (.tmp rfl fun _ => rfl) (.tmp rfl fun _ => rfl) Tryd.underlying68 ty9 (fun _ => ⟨by omega, (map_get hx)⟩) | exact R_indexAddr_vw rfl (.no rfl) rfl (.tmp rfl fun _ => rfl) (.tmp rfl fun _ => rfl) Tryd.underlying68 ty9 (fun _ => ⟨by omega, (map_get hx)⟩) | exact R_indexAddr_rf rfl (.no rfl) rfl (.tmp rfl fun _ => rfl) rfl (.tmp rfl fun _ => rfl) Tryd.underlying68 ty9 (fun _ => ⟨by omega, (map_get hx)⟩))) rfl ?_
          refine AWl.nil ?_
          exact Le.sub0 rfl ⟨rfl, rfl, rfl, rfl, rfl, trivial⟩ ⟨rfl, trivial⟩
        apply Dag.new (i := 13)
        case ha => rfl
        case ho => rfl
        case hb => rfl
        case hE =>
          intro w9
          refine AWl.put (R_conv rfl (.no rfl) rfl (.tmp rfl fun _ => rfl) (by rw [Tryd.underlying5]; rfl) Tryd.underlying3 (fun _ => (show IntKind.i64.wrap (b.toNat : Int) = (b.toNat : Int) by simp [IntKind.wrap, IntKind.bits]; omega))) rfl ?_
          refine AWl.nil ?_
          exact Le.sub0 (σ' := ⟨_, [(4, _), (5, _), (6, _), (31, _), (32, _), (43, _)], [(7, _)]⟩) rfl ⟨rfl, rfl, rfl, rfl, rfl, rfl, trivial⟩ ⟨rfl, trivial⟩
        apply Dag.old (i := 1)
        case ha => rfl
        case ho => rfl
        case hb => rfl
        case hE =>
          intro w9
          refine AWl.put (R_move rfl (.no rfl) rfl (.tmp rfl fun _ => rfl)) rfl ?_
          refine AWl.nil ?_
          exact Le.sub0 rfl ⟨rfl, rfl, rfl, rfl, rfl, rfl, trivial⟩ ⟨rfl, trivial⟩
        apply Dag.old (i := 2)
        case ha => rfl
        case ho => rfl
        case hb => rfl
        case hE =>
          intro w9
          refine AWl.put (R_move rfl (.no rfl) rfl (.tmp rfl fun _ => rfl)) rfl ?_
          refine AWl.nil ?_
          exact Le.sub0 rfl ⟨rfl, rfl, rfl, rfl, rfl, rfl, trivial⟩ ⟨rfl, trivial⟩
        apply Dag.new (i := 14)
        case ha => rfl
        case ho => rfl
        case hb => rfl
        case hE =>
          intro w9
          refine AWl.put (R_sub rfl (.no rfl) rfl (.tmp rfl fun _ => rfl) (.const rfl) (fun _ => by omega)) rfl ?_
          refine AWl.nil ?_
          exact Le.sub0 (σ' := ⟨_, [(4, _), (5, _), (6, _), (31, _), (44, _)], [(7, _)]⟩) rfl ⟨rfl, rfl, rfl, rfl, rfl, trivial⟩ ⟨rfl, trivial⟩
        apply Dag.old (i := 1)
        case ha => rfl
        case ho => rfl
        case hb => rfl
        case hE =>
          intro w9
          refine AWl.put (R_move rfl (.no rfl) rfl (.tmp rfl fun _ => rfl)) rfl ?_
          refine AWl.nil ?_
          exact Le.sub0 rfl ⟨rfl, rfl, rfl, rfl, rfl, trivial⟩ ⟨rfl, trivial⟩
        apply Dag.new (i := 14)
        case ha => rfl
        case ho => rfl
        case hb => rfl
        case hE =>
          intro w9
          refine AWl.put (R_sub rfl (.no rfl) rfl (.tmp rfl fun _ => rfl) (.const rfl) (fun _ => by omega)) rfl ?_
          refine AWl.nil ?_
          exact Le.sub0 (σ' := ⟨_, [(4, _), (5, _), (6, _), (32, _), (44, _)], [(7, _)]⟩) rfl ⟨rfl, rfl, rfl, rfl, rfl, trivial⟩ ⟨rfl, trivial⟩
        apply Dag.old (i := 2)
        case ha => rfl
        case ho => rfl
        case hb => rfl
        case hE =>
          intro w9
          refine AWl.put (R_move rfl (.no rfl) rfl (.tmp rfl fun _ => rfl)) rfl ?_
          refine AWl.nil ?_
          exact Le.sub0 rfl ⟨rfl, rfl, rfl, rfl, rfl, trivial⟩ ⟨rfl, trivial⟩
        apply Dag.new (i := 8)
        case ha => rfl
        case ho => rfl
        case hb => rfl
        case hE =>
          intro w9
          refine AWl.put (R_move rfl (.no rfl) rfl (.tmp rfl fun _ => rfl)) rfl ?_
          refine AWl.nil ?_
          exact Le.sub0 (σ' := ⟨_, [(4, _), (5, _), (6, _), (30, _), (37, _), (38, _)], [(7, _)]⟩) rfl ⟨rfl, rfl, rfl, rfl, rfl, rfl, trivial⟩ ⟨rfl, trivial⟩
        apply Dag.old (i := 0)
        case ha => rfl
        case ho => rfl
        case hb => rfl
        case hE =>
          intro w9
          refine AWl.put (R_move rfl (.no rfl) rfl (.tmp rfl fun _ => rfl)) rfl ?_
          refine AWl.nil ?_
          exact Le.sub0 rfl ⟨rfl, rfl, rfl, rfl, rfl, rfl, trivial⟩ ⟨rfl, trivial⟩
        apply Dag.old (i := 7)
        case ha => rfl
        case ho => rfl
        case hb => rfl
        case hE =>
          intro w9
          refine AWl.put (R_sub rfl (.no rfl) rfl (.tmp rfl fun _ => rfl) (.const rfl) (fun _ => by omega)) rfl ?_
          refine AWl.nil ?_
          exact Le.sub0 rfl ⟨rfl, rfl, rfl, rfl, rfl, rfl, trivial⟩ ⟨rfl, trivial⟩
        apply Dag.new (i := 9)
        case ha => rfl
        case ho => rfl
        case hb => rfl
        case hE =>
          intro w9
          refine AWl.put (R_move rfl (.no rfl) rfl (.tmp rfl fun _ => rfl)) rfl ?_
          refine AWl.nil ?_
          exact Le.sub0 (σ' := ⟨_, [(4, _), (5, _), (6, _), (30, _), (37, _), (39, _)], [(7, _)]⟩) rfl ⟨rfl, rfl, rfl, rfl, rfl, rfl, trivial⟩ ⟨rfl, trivial⟩
        apply Dag.old (i := 0)
        case ha => rfl
        case ho => rfl
        case hb => rfl
        case hE =>
          intro w9
          refine AWl.put (R_move rfl (.no rfl) rfl (.tmp rfl fun _ => rfl)) rfl ?_
          refine AWl.nil ?_
          exact Le.sub0 rfl ⟨rfl, rfl, rfl, rfl, rfl, rfl, trivial⟩ ⟨rfl, trivial⟩
        apply Dag.old (i := 7)
        case ha => rfl
        case ho => rfl
        case hb => rfl
        case hE =>
          intro w9
          refine AWl.put (R_sub rfl (.no rfl) rfl (.tmp rfl fun _ => rfl) (.const rfl) (fun _ => by omega)) rfl ?_
          refine AWl.nil ?_
          exact Le.sub0 rfl ⟨rfl, rfl, rfl, rfl, rfl, rfl, trivial⟩ ⟨rfl, trivial⟩
        apply Dag.new (i := 9)
        case ha => rfl
        case ho => rfl
        case hb => rfl
        case hE =>
          intro w9
          refine AWl.put (R_move rfl (.no rfl) rfl (.tmp rfl fun _ => rfl)) rfl ?_
          refine AWl.nil ?_
          exact Le.sub0 (σ' := ⟨_, [(4, _), (5, _), (6, _), (30, _), (36, _), (38, _), (39, _)], [(7, _)]⟩) rfl ⟨rfl, rfl, rfl, rfl, rfl, rfl, rfl, trivial⟩ ⟨rfl, trivial⟩
        apply Dag.old (i := 0)
        case ha => rfl
        case ho => rfl
        case hb => rfl
        case hE =>
          intro w9
          refine AWl.put (R_move rfl (.no rfl) rfl (.tmp rfl fun _ => rfl)) rfl ?_
          refine AWl.nil ?_
          exact Le.sub0 rfl ⟨rfl, rfl, rfl, rfl, rfl, rfl, rfl, trivial⟩ ⟨rfl, trivial⟩
        apply Dag.old (i := 6)
        case ha => rfl
        case ho => rfl
        case hb => rfl
        case hE =>
          intro w9
          refine AWl.put (R_conv rfl (.no rfl) rfl (.tmp rfl fun _ => rfl) (by rw [Tryd.underlying5]; rfl) Tryd.underlying3 (fun _ => (show IntKind.i64.wrap (a.toNat : Int) = (a.toNat : Int) by simp [IntKind.wrap, IntKind.bits]; omega))) rfl ?_
          refine AWl.nil ?_
          exact Le.sub0 rfl ⟨rfl, rfl, rfl, rfl, rfl, rfl, rfl, trivial⟩ ⟨rfl, trivial⟩
        apply Dag.old (i := 8)
        case ha => rfl
        case ho => rfl
        case hb => rfl
        case hE =>
          intro w9
          refine AWl.put (R_move rfl (.no rfl) rfl (.tmp rfl fun _ => rfl)) rfl ?_
          refine AWl.nil ?_
          exact Le.sub0 rfl ⟨rfl, rfl, rfl, rfl, rfl, rfl, rfl, trivial⟩ ⟨rfl, trivial⟩
        apply Dag.new (i := 10)
        case ha => rfl
        case ho => rfl
        case hb => rfl
        case hE =>
          intro w9
          refine AWl.put ((by first | exact R_indexAddr rfl (.no rfl) rfl (.tmp rfl fun _ => rfl) (.tmp rfl fun _ => rfl) Tryd.underlying68 ty9 (fun _ => ⟨by omega, (map_get hx)⟩) | exact R_indexAddr_vw rfl (.no rfl) rfl (.tmp rfl fun _ => rfl) (.tmp rfl fun _ => rfl) Tryd.underlying68 ty9 (fun _ => ⟨by omega, (map_get hx)⟩) | exact R_indexAddr_rf rfl (.no rfl) rfl (.tmp rfl fun _ => rfl) rfl (.tmp rfl fun _ => rfl) Tryd.underlying68 ty9 (fun _ => ⟨by omega, (map_get hx)⟩))) rfl ?_
          refine AWl.nil ?_
          exact Le.sub0 (σ' := ⟨_, [(4, _), (5, _), (6, _), (30, _), (35, _), (40, _)], [(7, _)]⟩) rfl ⟨rfl, rfl, rfl, rfl, rfl, rfl, trivial⟩ ⟨rfl, trivial⟩
        apply Dag.old (i := 0)
        case ha => rfl
        case ho => rfl
        case hb => rfl
        case hE =>
          intro w9
          refine AWl.put (R_move rfl (.no rfl) rfl (.tmp rfl fun _ => rfl)) rfl ?_
          refine AWl.nil ?_
          exact Le.sub0 rfl ⟨rfl, rfl, rfl, rfl, rfl, rfl, trivial⟩ ⟨rfl, trivial⟩
        apply Dag.old (i := 5)
        case ha => rfl
        case ho => rfl
        case hb => rfl
        case hE =>
          intro w9
          refine AWl.put (R_strIndex rfl (.no rfl) rfl (.tmp rfl fun _ => rfl) (.const rfl) Tryd.underlying9 (fun _ => ⟨by omega, (by rw [bs_get, hab]; rfl)⟩)) rfl ?_
          refine AWl.nil ?_
          exact Le.sub0 rfl ⟨rfl, rfl, rfl, rfl, rfl, rfl, trivial⟩ ⟨rfl, trivial⟩
        apply Dag.new (i := 11)
        case ha => rfl
        case ho => rfl
        case hb => rfl
        case hE =>
          intro w9
          refine AWl.put ((by first | exact R_load rfl (.no rfl) rfl (.tmp rfl fun _ => rfl) ty9 rfl rfl | exact R_load_pp rfl (.no rfl) rfl (.tmp rfl fun _ => rfl) rfl ty9 rfl rfl | exact R_load_vw rfl (.no rfl) rfl (.tmp rfl fun _ => rfl) ty9 rfl rfl | exact R_load_pr rfl (.no rfl) rfl (.tmp rfl fun _ => rfl) rfl (map_get hx) ty9 rfl rfl)) rfl ?_
          refine AWl.nil ?_
          exact Le.sub0 (σ' := ⟨_, [(4, _), (5, _), (6, _), (30, _), (34, _), (41, _)], [(7, _)]⟩) rfl ⟨rfl, rfl, rfl, rfl, rfl, rfl, trivial⟩ ⟨rfl, trivial⟩
        apply Dag.old (i := 0)
        case ha => rfl
        case ho => rfl
        case hb => rfl
        case hE =>
          intro w9
          refine AWl.put (R_move rfl (.no rfl) rfl (.tmp rfl fun _ => rfl)) rfl ?_
          refine AWl.nil ?_
          exact Le.sub0 rfl ⟨rfl, rfl, rfl, rfl, rfl, rfl, trivial⟩ ⟨rfl, trivial⟩
        apply Dag.old (i := 4)
        case ha => rfl
        case ho => rfl
        case hb => rfl
        case hE =>
          intro w9
          refine AWl.put ((by first | exact R_load rfl (.no rfl) rfl (.tmp rfl fun _ => rfl) ty9 rfl rfl | exact R_load_pp rfl (.no rfl) rfl (.tmp rfl fun _ => rfl) rfl ty9 rfl rfl | exact R_load_vw rfl (.no rfl) rfl (.tmp rfl fun _ => rfl) ty9 rfl rfl | exact R_load_pr rfl (.no rfl) rfl (.tmp rfl fun _ => rfl) rfl (map_get hx) ty9 rfl rfl)) rfl ?_
          refine AWl.nil ?_
          exact Le.sub0 rfl ⟨rfl, rfl, rfl, rfl, rfl, rfl, trivial⟩ ⟨rfl, trivial⟩
        apply Dag.new (i := 12)
        case ha => rfl
        case ho => rfl
        case hb => rfl
        case hE =>
          intro w9
          refine AWl.put (R_strIndex rfl (.no rfl) rfl (.tmp rfl fun _ => rfl) (.const rfl) Tryd.underlying9 (fun _ => ⟨by omega, (by rw [bs_get, hab]; rfl)⟩)) rfl ?_
          refine AWl.nil ?_
          exact Le.sub0 (σ' := ⟨_, [(4, _), (5, _), (6, _), (30, _), (33, _), (42, _)], [(7, _)]⟩) rfl ⟨rfl, rfl, rfl, rfl, rfl, rfl, trivial⟩ ⟨rfl, trivial⟩
        apply Dag.old (i := 0)
        case ha => rfl
        case ho => rfl
        case hb => rfl
        case hE =>
          intro w9
          refine AWl.put (R_move rfl (.no rfl) rfl (.tmp rfl fun _ => rfl)) rfl ?_
          refine AWl.nil ?_
          exact Le.sub0 rfl ⟨rfl, rfl, rfl, rfl, rfl, rfl, trivial⟩ ⟨rfl, trivial⟩
        apply Dag.old (i := 3)
        case ha => rfl
        case ho => rfl
        case hb => rfl
        case hE =>
          intro w9
          refine AWl.put ((by first | exact R_indexAddr rfl (.no rfl) rfl (.tmp rfl fun _ => rfl) (.tmp rfl fun _ => rfl) Tryd.underlying68 ty9 (fun _ => ⟨by omega, (map_get hx)⟩) | exact R_indexAddr_vw rfl (.no rfl) rfl (.tmp rfl fun _ => rfl) (.tmp rfl fun _ => rfl) Tryd.underlying68 ty9 (fun _ => ⟨by omega, (map_get hx)⟩) | exact R_indexAddr_rf rfl (.no rfl) rfl (.tmp rfl fun _ => rfl) rfl (.tmp rfl fun _ => rfl) Tryd.underlying68 ty9 (fun _ => ⟨by omega, (map_get hx)⟩))) rfl ?_
          refine AWl.nil ?_
          exact Le.sub0 rfl ⟨rfl, rfl, rfl, rfl, rfl, rfl, trivial⟩ ⟨rfl, trivial⟩
        apply Dag.new (i := 13)
        case ha => rfl
        case ho => rfl
        case hb => rfl
        case hE =>
          intro w9
          refine AWl.put (R_conv rfl (.no rfl) rfl (.tmp rfl fun _ => rfl) (by rw [Tryd.underlying5]; rfl) Tryd.underlying3 (fun _ => (show IntKind.i64.wrap (b.toNat : Int) = (b.toNat : Int) by simp [IntKind.wrap, IntKind.bits]; omega))) rfl ?_
          refine AWl.nil ?_
          exact Le.sub0 (σ' := ⟨_, [(4, _), (5, _), (6, _), (30, _), (31, _), (32, _), (43, _)], [(7, _)]⟩) rfl ⟨rfl, rfl, rfl, rfl, rfl, rfl, rfl, trivial⟩ ⟨rfl, trivial⟩
        apply Dag.old (i := 0)
        case ha => rfl
        case ho => rfl
        case hb => rfl
        case hE =>
          intro w9
          refine AWl.put (R_move rfl (.no rfl) rfl (.tmp rfl fun _ => rfl)) rfl ?_
          refine AWl.nil ?_
          exact Le.sub0 rfl ⟨rfl, rfl, rfl, rfl, rfl, rfl, rfl, trivial⟩ ⟨rfl, trivial⟩
        apply Dag.old (i := 1)
        case ha => rfl
        case ho => rfl
        case hb => rfl
        case hE =>
          intro w9
          refine AWl.put (R_move rfl (.no rfl) rfl (.tmp rfl fun _ => rfl)) rfl ?_
          refine AWl.nil ?_
          exact Le.sub0 rfl ⟨rfl, rfl, rfl, rfl, rfl, rfl, rfl, trivial⟩ ⟨rfl, trivial⟩
        apply Dag.old (i := 2)
        case ha => rfl
        case ho => rfl
        case hb => rfl
        case hE =>
          intro w9
          refine AWl.put (R_move rfl (.no rfl) rfl (.tmp rfl fun _ => rfl)) rfl ?_
          refine AWl.nil ?_
          exact Le.sub0 rfl ⟨rfl, rfl, rfl, rfl, rfl, rfl, rfl, trivial⟩ ⟨rfl, trivial⟩
        apply Dag.new (i := 14)
        case ha => rfl
        case ho => rfl
        case hb => rfl
        case hE =>
          intro w9
          refine AWl.put (R_sub rfl (.no rfl) rfl (.tmp rfl fun _ => rfl) (.const rfl) (fun _ => by omega)) rfl ?_
          refine AWl.nil ?_
          exact Le.sub0 (σ' := ⟨_, [(4, _), (5, _), (6, _), (30, _), (31, _), (44, _)], [(7, _)]⟩) rfl ⟨rfl, rfl, rfl, rfl, rfl, rfl, trivial⟩ ⟨rfl, trivial⟩
        apply Dag.old (i := 0)
        case ha => rfl
        case ho => rfl
        case hb => rfl
        case hE =>
          intro w9
          refine AWl.put (R_move rfl (.no rfl) rfl (.tmp rfl fun _ => rfl)) rfl ?_
          refine AWl.nil ?_
          exact Le.sub0 rfl ⟨rfl, rfl, rfl, rfl, rfl, rfl, trivial⟩ ⟨rfl, trivial⟩
        apply Dag.old (i := 1)
        case ha => rfl
        case ho => rfl
        case hb => rfl
        case hE =>
          intro w9
          refine AWl.put (R_move rfl (.no rfl) rfl (.tmp rfl fun _ => rfl)) rfl ?_
          refine AWl.nil ?_
          exact Le.sub0 rfl ⟨rfl, rfl, rfl, rfl, rfl, rfl, trivial⟩ ⟨rfl, trivial⟩
        apply Dag.new (i := 14)
        case ha => rfl
        case ho => rfl
        case hb => rfl
        case hE =>
          intro w9
          refine AWl.put (R_sub rfl (.no rfl) rfl (.tmp rfl fun _ => rfl) (.const rfl) (fun _ => by omega)) rfl ?_
          refine AWl.nil ?_
          exact Le.sub0 (σ' := ⟨_, [(4, _), (5, _), (6, _), (30, _), (32, _), (44, _)], [(7, _)]⟩) rfl ⟨rfl, rfl, rfl, rfl, rfl, rfl, trivial⟩ ⟨rfl, trivial⟩
        apply Dag.old (i := 0)
        case ha => rfl
        case ho => rfl
        case hb => rfl
        case hE =>
          intro w9
          refine AWl.put (R_move rfl (.no rfl) rfl (.tmp rfl fun _ => rfl)) rfl ?_
          refine AWl.nil ?_
          exact Le.sub0 rfl ⟨rfl, rfl, rfl, rfl, rfl, rfl, trivial⟩ ⟨rfl, trivial⟩
        apply Dag.old (i := 2)
        case ha => rfl
        case ho => rfl
        case hb => rfl
        case hE =>
          intro w9
          refine AWl.put (R_move rfl (.no rfl) rfl (.tmp rfl fun _ => rfl)) rfl ?_
          refine AWl.nil ?_
          exact Le.sub0 rfl ⟨rfl, rfl, rfl, rfl, rfl, rfl, trivial⟩ ⟨rfl, trivial⟩
        apply Dag.new (i := 9)
        case ha => rfl
        case ho => rfl
        case hb => rfl
        case hE =>
          intro w9
          refine AWl.put (R_move rfl (.no rfl) rfl (.tmp rfl fun _ => rfl)) rfl ?_
          refine AWl.nil ?_
          exact Le.sub0 (σ' := ⟨_, [(4, _), (5, _), (6, _), (37, _), (38, _), (39, _)], [(7, _)]⟩) rfl ⟨rfl, rfl, rfl, rfl, rfl, rfl, trivial⟩ ⟨rfl, trivial⟩
        apply Dag.old (i := 7)
        case ha => rfl
        case ho => rfl
        case hb => rfl
        case hE =>
          intro w9
          refine AWl.put (R_sub rfl (.no rfl) rfl (.tmp rfl fun _ => rfl) (.const rfl) (fun _ => by omega)) rfl ?_
          refine AWl.nil ?_
          exact Le.sub0 rfl ⟨rfl, rfl, rfl, rfl, rfl, rfl, trivial⟩ ⟨rfl, trivial⟩
        apply Dag.old (i := 8)
        case ha => rfl
        case ho => rfl
        case hb => rfl
        case hE =>
          intro w9
          refine AWl.put (R_move rfl (.no rfl) rfl (.tmp rfl fun _ => rfl)) rfl ?_
          refine AWl.nil ?_
          exact Le.sub0 rfl ⟨rfl, rfl, rfl, rfl, rfl, rfl, trivial⟩ ⟨rfl, trivial⟩
        apply Dag.new (i := 10)
        case ha => rfl
        case ho => rfl
        case hb => rfl
        case hE =>
          intro w9
          refine AWl.put ((by first | exact R_indexAddr rfl (.no rfl) rfl (.tmp rfl fun _ => rfl) (.tmp rfl fun _ => rfl) Tryd.underlying68 ty9 (fun _ => ⟨by omega, (map_get hx)⟩) | exact R_indexAddr_vw rfl (.no rfl) rfl (.tmp rfl fun _ => rfl) (.tmp rfl fun _ => rfl) Tryd.underlying68 ty9 (fun _ => ⟨by omega, (map_get hx)⟩) | exact R_indexAddr_rf rfl (.no rfl) rfl (.tmp rfl fun _ => rfl) rfl (.tmp rfl fun _ => rfl) Tryd.underlying68 ty9 (fun _ => ⟨by omega, (map_get hx)⟩))) rfl ?_
          refine AWl.nil ?_
          exact Le.sub0 (σ' := ⟨_, [(4, _), (5, _), (6, _), (36, _), (40, _)], [(7, _)]⟩) rfl ⟨rfl, rfl, rfl, rfl, rfl, trivial⟩ ⟨rfl, trivial⟩
        apply Dag.old (i := 6)
        case ha => rfl
        case ho => rfl
        case hb => rfl
        case hE =>
          intro w9
          refine AWl.put (R_conv rfl (.no rfl) rfl (.tmp rfl fun _ => rfl) (by rw [Tryd.underlying5]; rfl) Tryd.underlying3 (fun _ => (show IntKind.i64.wrap (a.toNat : Int) = (a.toNat : Int) by simp [IntKind.wrap, IntKind.bits]; omega))) rfl ?_
          refine AWl.nil ?_
          exact Le.sub0 rfl ⟨rfl, rfl, rfl, rfl, rfl, trivial⟩ ⟨rfl, trivial⟩
        apply Dag.new (i := 11)
        case ha => rfl
        case ho => rfl
        case hb => rfl
        case hE =>
          intro w9
          refine AWl.put ((by first | exact R_load rfl (.no rfl) rfl (.tmp rfl fun _ => rfl) ty9 rfl rfl | exact R_load_pp rfl (.no rfl) rfl (.tmp rfl fun _ => rfl) rfl ty9 rfl rfl | exact R_load_vw rfl (.no rfl) rfl (.tmp rfl fun _ => rfl) ty9 rfl rfl | exact R_load_pr rfl (.no rfl) rfl (.tmp rfl fun _ => rfl) rfl (map_get hx) ty9 rfl rfl)) rfl ?_
          refine AWl.nil ?_
          exact Le.sub0 (σ' := ⟨_, [(4, _), (5, _), (6, _), (35, _), (41, _)], [(7, _)]⟩) rfl ⟨rfl, rfl, rfl, rfl, rfl, trivial⟩ ⟨rfl, trivial⟩
        apply Dag.old (i := 5)
        case ha => rfl
        case ho => rfl
        case hb => rfl
        case hE =>
          intro w9
          refine AWl.put (R_strIndex rfl (.no rfl) rfl (.tmp rfl fun _ => rfl) (.const rfl) Tryd.underlying9 (fun _ => ⟨by omega, (by rw [bs_get, hab]; rfl)⟩)) rfl ?_
          refine AWl.nil ?_
          exact Le.sub0 rfl ⟨rfl, rfl, rfl, rfl, rfl, trivial⟩ ⟨rfl, trivial⟩
        apply Dag.new (i := 12)
        case ha => rfl
        case ho => rfl
        case hb => rfl
        case hE =>
          intro w9
          refine AWl.put (R_strIndex rfl (.no rfl) rfl (.tmp rfl fun _ => rfl) (.const rfl) Tryd.underlying9 (fun _ => ⟨by omega, (by rw [bs_get, hab]; rfl)⟩)) rfl ?_
          refine AWl.nil ?_
          exact Le.sub0 (σ' := ⟨_, [(4, _), (5, _), (6, _), (34, _), (42, _)], [(7, _)]⟩) rfl ⟨rfl, rfl, rfl, rfl, rfl, trivial⟩ ⟨rfl, trivial⟩
        apply Dag.old (i := 4)
        case ha => rfl
        case ho => rfl
        case hb => rfl
        case hE =>
          intro w9
          refine AWl.put ((by first | exact R_load rfl (.no rfl) rfl (.tmp rfl fun _ => rfl) ty9 rfl rfl | exact R_load_pp rfl (.no rfl) rfl (.tmp rfl fun _ => rfl) rfl ty9 rfl rfl | exact R_load_vw rfl (.no rfl) rfl (.tmp rfl fun _ => rfl) ty9 rfl rfl | exact R_load_pr rfl (.no rfl) rfl (.tmp rfl fun _ => rfl) rfl (map_get hx) ty9 rfl rfl)) rfl ?_
          refine AWl.nil ?_
          exact Le.sub0 rfl ⟨rfl, rfl, rfl, rfl, rfl, trivial⟩ ⟨rfl, trivial⟩
        apply Dag.new (i := 13)
        case ha => rfl
        case ho => rfl
        case hb => rfl
        case hE =>
          intro w9
          refine AWl.put (R_conv rfl (.no rfl) rfl (.tmp rfl fun _ => rfl) (by rw [Tryd.underlying5]; rfl) Tryd.underlying3 (fun _ => (show IntKind.i64.wrap (b.toNat : Int) = (b.toNat : Int) by simp [IntKind.wrap, IntKind.bits]; omega))) rfl ?_
          refine AWl.nil ?_
          exact Le.sub0 (σ' := ⟨_, [(4, _), (5, _), (6, _), (33, _), (43, _)], [(7, _)]⟩) rfl ⟨rfl, rfl, rfl, rfl, rfl, trivial⟩ ⟨rfl, trivial⟩
        apply Dag.old (i := 3)
        case ha => rfl
        case ho => rfl
        case hb => rfl
        case hE =>
          intro w9
          refine AWl.put ((by first | exact R_indexAddr rfl (.no rfl) rfl (.tmp rfl fun _ => rfl) (.tmp rfl fun _ => rfl) Tryd.underlying68 ty9 (fun _ => ⟨by omega, (map_get hx)⟩) | exact R_indexAddr_vw rfl (.no rfl) rfl (.tmp rfl fun _ => rfl) (.tmp rfl fun _ => rfl) Tryd.underlying68 ty9 (fun _ => ⟨by omega, (map_get hx)⟩) | exact R_indexAddr_rf rfl (.no rfl) rfl (.tmp rfl fun _ => rfl) rfl (.tmp rfl fun _ => rfl) Tryd.underlying68 ty9 (fun _ => ⟨by omega, (map_get hx)⟩))) rfl ?_
          refine AWl.nil ?_
          exact Le.sub0 rfl ⟨rfl, rfl, rfl, rfl, rfl, trivial⟩ ⟨rfl, trivial⟩
        apply Dag.new (i := 14)
        case ha => rfl
        case ho => rfl
        case hb => rfl
        case hE =>
          intro w9
          refine AWl.put (R_sub rfl (.no rfl) rfl (.tmp rfl fun _ => rfl) (.const rfl) (fun _ => by omega)) rfl ?_
          refine AWl.nil ?_
          exact Le.sub0 (σ' := ⟨_, [(4, _), (5, _), (6, _), (31, _), (32, _), (44, _)], [(7, _)]⟩) rfl ⟨rfl, rfl, rfl, rfl, rfl, rfl, trivial⟩ ⟨rfl, trivial⟩
        apply Dag.old (i := 1)
        case ha => rfl
        case ho => rfl
        case hb => rfl
        case hE =>
          intro w9
          refine AWl.put (R_move rfl (.no rfl) rfl (.tmp rfl fun _ => rfl)) rfl ?_
          refine AWl.nil ?_
          exact Le.sub0 rfl ⟨rfl, rfl, rfl, rfl, rfl, rfl, trivial⟩ ⟨rfl, trivial⟩
        apply Dag.old (i := 2)
        case ha => rfl
        case ho => rfl
        case hb => rfl
        case hE =>
          intro w9
          refine AWl.put (R_move rfl (.no rfl) rfl (.tmp rfl fun _ => rfl)) rfl ?_
          refine AWl.nil ?_
          exact Le.sub0 rfl ⟨rfl, rfl, rfl, rfl, rfl, rfl, trivial⟩ ⟨rfl, trivial⟩
        apply Dag.new (i := 9)
        case ha => rfl
        case ho => rfl
        case hb => rfl
        case hE =>
          intro w9
          refine AWl.put (R_move rfl (.no rfl) rfl (.tmp rfl fun _ => rfl)) rfl ?_
          refine AWl.nil ?_
          exact Le.sub0 (σ' := ⟨_, [(4, _), (5, _), (6, _), (30, _), (37, _), (38, _), (39, _)], [(7, _)]⟩) rfl ⟨rfl, rfl, rfl, rfl, rfl, rfl, rfl, trivial⟩ ⟨rfl, trivial⟩
        apply Dag.old (i := 0)
        case ha => rfl
        case ho => rfl
        case hb => rfl
        case hE =>
          intro w9
          refine AWl.put (R_move rfl (.no rfl) rfl (.tmp rfl fun _ => rfl)) rfl ?_
          refine AWl.nil ?_
          exact Le.sub0 rfl ⟨rfl, rfl, rfl, rfl, rfl, rfl, rfl, trivial⟩ ⟨rfl, trivial⟩
        apply Dag.old (i := 7)
        case ha => rfl
        case ho => rfl
        case hb => rfl
        case hE =>
          intro w9
          refine AWl.put (R_sub rfl (.no rfl) rfl (.tmp rfl fun _ => rfl) (.const rfl) (fun _ => by omega)) rfl ?_
          refine AWl.nil ?_
          exact Le.sub0 rfl ⟨rfl, rfl, rfl, rfl, rfl, rfl, rfl, trivial⟩ ⟨rfl, trivial⟩
        apply Dag.old (i := 8)
        case ha => rfl
        case ho => rfl
        case hb => rfl
        case hE =>
          intro w9
          refine AWl.put (R_move rfl (.no rfl) rfl (.tmp rfl fun _ => rfl)) rfl ?_
          refine AWl.nil ?_
          exact Le.sub0 rfl ⟨rfl, rfl, rfl, rfl, rfl, rfl, rfl, trivial⟩ ⟨rfl, trivial⟩
        apply Dag.new (i := 10)
        case ha => rfl
        case ho => rfl
        case hb => rfl
        case hE =>
          intro w9
          refine AWl.put ((by first | exact R_indexAddr rfl (.no rfl) rfl (.tmp rfl fun _ => rfl) (.tmp rfl fun _ => rfl) Tryd.underlying68 ty9 (fun _ => ⟨by omega, (map_get hx)⟩) | exact R_indexAddr_vw rfl (.no rfl) rfl (.tmp rfl fun _ => rfl) (.tmp rfl fun _ => rfl) Tryd.underlying68 ty9 (fun _ => ⟨by omega, (map_get hx)⟩) | exact R_indexAddr_rf rfl (.no rfl) rfl (.tmp rfl fun _ => rfl) rfl (.tmp rfl fun _ => rfl) Tryd.underlying68 ty9 (fun _ => ⟨by omega, (map_get hx)⟩))) rfl ?_
          refine AWl.nil ?_
          exact Le.sub0 (σ' := ⟨_, [(4, _), (5, _), (6, _), (30, _), (36, _), (40, _)], [(7, _)]⟩) rfl ⟨rfl, rfl, rfl, rfl, rfl, rfl, trivial⟩ ⟨rfl, trivial⟩
        apply Dag.old (i := 0)
        case ha => rfl
        case ho => rfl
        case hb => rfl
        case hE =>
          intro w9
          refine AWl.put (R_move rfl (.no rfl) rfl (.tmp rfl fun _ => rfl)) rfl ?_
          refine AWl.nil ?_
          exact Le.sub0 rfl ⟨rfl, rfl, rfl, rfl, rfl, rfl, trivial⟩ ⟨rfl, trivial⟩
        apply Dag.old (i := 6)
        case ha => rfl
        case ho => rfl
        case hb => rfl
        case hE =>
          intro w9
          refine AWl.put (R_conv rfl (.no rfl) rfl (.tmp rfl fun _ => rfl) (by rw [Tryd.underlying5]; rfl) Tryd.underlying3 (fun _ => (show IntKind.i64.wrap (a.toNat : Int) = (a.toNat : Int) by simp [IntKind.wrap, IntKind.bits]; omega))) rfl ?_
          refine AWl.nil ?_
          exact Le.sub0 rfl ⟨rfl, rfl, rfl, rfl, rfl, rfl, trivial⟩ ⟨rfl, trivial⟩
        apply Dag.new (i := 11)
        case ha => rfl
        case ho => rfl
        case hb => rfl
        case hE =>
          intro w9
          refine AWl.put ((by first | exact R_load rfl (.no rfl) rfl (.tmp rfl fun _ => rfl) ty9 rfl rfl | exact R_load_pp rfl (.no rfl) rfl (.tmp rfl fun _ => rfl) rfl ty9 rfl rfl | exact R_load_vw rfl (.no rfl) rfl (.tmp rfl fun _ => rfl) ty9 rfl rfl | exact R_load_pr rfl (.no rfl) rfl (.tmp rfl fun _ => rfl) rfl (map_get hx) ty9 rfl rfl)) rfl ?_
          refine AWl.nil ?_
          exact Le.sub0 (σ' := ⟨_, [(4, _), (5, _), (6, _), (30, _), (35, _), (41, _)], [(7, _)]⟩) rfl ⟨rfl, rfl, rfl, rfl, rfl, rfl, trivial⟩ ⟨rfl, trivial⟩
        apply Dag.old (i := 0)
        case ha => rfl
        case ho => rfl
        case hb => rfl
        case hE =>
          intro w9
          refine AWl.put (R_move rfl (.no rfl) rfl (.tmp rfl fun _ => rfl)) rfl ?_
          refine AWl.nil ?_
          exact Le.sub0 rfl ⟨rfl, rfl, rfl, rfl, rfl, rfl, trivial⟩ ⟨rfl, trivial⟩
        apply Dag.old (i := 5)
        case ha => rfl
        case ho => rfl
        case hb => rfl
        case hE =>
          intro w9
          refine AWl.put (R_strIndex rfl (.no rfl) rfl (.tmp rfl fun _ => rfl) (.const rfl) Tryd.underlying9 (fun _ => ⟨by omega, (by rw [bs_get, hab]; rfl)⟩)) rfl ?_
          refine AWl.nil ?_
          exact Le.sub0 rfl ⟨rfl, rfl, rfl, rfl, rfl, rfl, trivial⟩ ⟨rfl, trivial⟩
        apply Dag.new (i := 12)
        case ha => rfl
        case ho => rfl
        case hb => rfl
        case hE =>
          intro w9
          refine AWl.put (R_strIndex rfl (.no rfl) rfl (.tmp rfl fun _ => rfl) (.const rfl) Tryd.underlying9 (fun _ => ⟨by omega, (by rw [bs_get, hab]; rfl)⟩)) rfl ?_
          refine AWl.nil ?_
          exact Le.sub0 (σ' := ⟨_, [(4, _), (5, _), (6, _), (30, _), (34, _), (42, _)], [(7, _)]⟩) rfl ⟨rfl, rfl, rfl, rfl, rfl, rfl, trivial⟩ ⟨rfl, trivial⟩
        apply Dag.old (i := 0)
        case ha => rfl
        case ho => rfl
        case hb => rfl
        case hE =>
          intro w9
          refine AWl.put (R_move rfl (.no rfl) rfl (.tmp rfl fun _ => rfl)) rfl ?_
          refine AWl.nil ?_
          exact Le.sub0 rfl ⟨rfl, rfl, rfl, rfl, rfl, rfl, trivial⟩ ⟨rfl, trivial⟩
        apply Dag.old (i := 4)
        case ha => rfl
        case ho => rfl
        case hb => rfl
        case hE =>
          intro w9
          refine AWl.put ((by first | exact R_load rfl (.no rfl) rfl (.tmp rfl fun _ => rfl) ty9 rfl rfl | exact R_load_pp rfl (.no rfl) rfl (.tmp rfl fun _ => rfl) rfl ty9 rfl rfl | exact R_load_vw rfl (.no rfl) rfl (.tmp rfl fun _ => rfl) ty9 rfl rfl | exact R_load_pr rfl (.no rfl) rfl (.tmp rfl fun _ => rfl) rfl (map_get hx) ty9 rfl rfl)) rfl ?_
          refine AWl.nil ?_
          exact Le.sub0 rfl ⟨rfl, rfl, rfl, rfl, rfl, rfl, trivial⟩ ⟨rfl, trivial⟩
        apply Dag.new (i := 13)
        case ha => rfl
        case ho => rfl
        case hb => rfl
        case hE =>
          intro w9
          refine AWl.put (R_conv rfl (.no rfl) rfl (.tmp rfl fun _ => rfl) (by rw [Tryd.underlying5]; rfl) Tryd.underlying3 (fun _ => (show IntKind.i64.wrap (b.toNat : Int) = (b.toNat : Int) by simp [IntKind.wrap, IntKind.bits]; omega))) rfl ?_
          refine AWl.nil ?_
          exact Le.sub0 (σ' := ⟨_, [(4, _), (5, _), (6, _), (30, _), (33, _), (43, _)], [(7, _)]⟩) rfl ⟨rfl, rfl, rfl, rfl, rfl, rfl, trivial⟩ ⟨rfl, trivial⟩
        apply Dag.old (i := 0)
        case ha => rfl
        case ho => rfl
        case hb => rfl
        case hE =>
          intro w9
          refine AWl.put (R_move rfl (.no rfl) rfl (.tmp rfl fun _ => rfl)) rfl ?_
          refine AWl.nil ?_
          exact Le.sub0 rfl ⟨rfl, rfl, rfl, rfl, rfl, rfl, trivial⟩ ⟨rfl, trivial⟩
        apply Dag.old (i := 3)
        case ha => rfl
        case ho => rfl
        case hb => rfl
        case hE =>
          intro w9
          refine AWl.put ((by first | exact R_indexAddr rfl (.no rfl) rfl (.tmp rfl fun _ => rfl) (.tmp rfl fun _ => rfl) Tryd.underlying68 ty9 (fun _ => ⟨by omega, (map_get hx)⟩) | exact R_indexAddr_vw rfl (.no rfl) rfl (.tmp rfl fun _ => rfl) (.tmp rfl fun _ => rfl) Tryd.underlying68 ty9 (fun _ => ⟨by omega, (map_get hx)⟩) | exact R_indexAddr_rf rfl (.no rfl) rfl (.tmp rfl fun _ => rfl) rfl (.tmp rfl fun _ => rfl) Tryd.underlying68 ty9 (fun _ => ⟨by omega, (map_get hx)⟩))) rfl ?_
          refine AWl.nil ?_
          exact Le.sub0 rfl ⟨rfl, rfl, rfl, rfl, rfl, rfl, trivial⟩ ⟨rfl, trivial⟩
        apply Dag.new (i := 14)
        case ha => rfl
        case ho => rfl
        case hb => rfl
        case hE =>
          intro w9
          refine AWl.put (R_sub rfl (.no rfl) rfl (.tmp rfl fun _ => rfl) (.const rfl) (fun _ => by omega)) rfl ?_
          refine AWl.nil ?_
          exact Le.sub0 (σ' := ⟨_, [(4, _), (5, _), (6, _), (30, _), (31, _), (32, _), (44, _)], [(7, _)]⟩) rfl ⟨rfl, rfl, rfl, rfl, rfl, rfl, rfl, trivial⟩ ⟨rfl, trivial⟩
        apply Dag.old (i := 0)
        case ha => rfl
        case ho => rfl
        case hb => rfl
        case hE =>
          intro w9
          refine AWl.put (R_move rfl (.no rfl) rfl (.tmp rfl fun _ => rfl)) rfl ?_
          refine AWl.nil ?_
          exact Le.sub0 rfl ⟨rfl, rfl, rfl, rfl, rfl, rfl, rfl, trivial⟩ ⟨rfl, trivial⟩
        apply Dag.old (i := 1)
        case ha => rfl
        case ho => rfl
        case hb => rfl
        case hE =>
          intro w9
          refine AWl.put (R_move rfl (.no rfl) rfl (.tmp rfl fun _ => rfl)) rfl ?_
          refine AWl.nil ?_
          exact Le.sub0 rfl ⟨rfl, rfl, rfl, rfl, rfl, rfl, rfl, trivial⟩ ⟨rfl, trivial⟩
        apply Dag.old (i := 2)
        case ha => rfl
        case ho => rfl
        case hb => rfl
        case hE =>
          intro w9
          refine AWl.put (R_move rfl (.no rfl) rfl (.tmp rfl fun _ => rfl)) rfl ?_
          refine AWl.nil ?_
          exact Le.sub0 rfl ⟨rfl, rfl, rfl, rfl, rfl, rfl, rfl, trivial⟩ ⟨rfl, trivial⟩
        apply Dag.new (i := 10)
        case ha => rfl
        case ho => rfl
        case hb => rfl
        case hE =>
          intro w9
          refine AWl.put ((by first | exact R_indexAddr rfl (.no rfl) rfl (.tmp rfl fun _ => rfl) (.tmp rfl fun _ => rfl) Tryd.underlying68 ty9 (fun _ => ⟨by omega, (map_get hx)⟩) | exact R_indexAddr_vw rfl (.no rfl) rfl (.tmp rfl fun _ => rfl) (.tmp rfl fun _ => rfl) Tryd.underlying68 ty9 (fun _ => ⟨by omega, (map_get hx)⟩) | exact R_indexAddr_rf rfl (.no rfl) rfl (.tmp rfl fun _ => rfl) rfl (.tmp rfl fun _ => rfl) Tryd.underlying68 ty9 (fun _ => ⟨by omega, (map_get hx)⟩))) rfl ?_
          refine AWl.nil ?_
          exact Le.sub0 (σ' := ⟨_, [(4, _), (5, _), (6, _), (37, _), (40, _)], [(7, _)]⟩) rfl ⟨rfl, rfl, rfl, rfl, rfl, trivial⟩ ⟨rfl, trivial⟩
        apply Dag.old (i := 7)
        case ha => rfl
        case ho => rfl
        case hb => rfl
        case hE =>
          intro w9
          refine AWl.put (R_sub rfl (.no rfl) rfl (.tmp rfl fun _ => rfl) (.const rfl) (fun _ => by omega)) rfl ?_
          refine AWl.nil ?_
          exact Le.sub0 rfl ⟨rfl, rfl, rfl, rfl, rfl, trivial⟩ ⟨rfl, trivial⟩
        apply Dag.new (i := 11)
        case ha => rfl
        case ho => rfl
        case hb => rfl
        case hE =>
          intro w9
          refine AWl.put ((by first | exact R_load rfl (.no rfl) rfl (.tmp rfl fun _ => rfl) ty9 rfl rfl | exact R_load_pp rfl (.no rfl) rfl (.tmp rfl fun _ => rfl) rfl ty9 rfl rfl | exact R_load_vw rfl (.no rfl) rfl (.tmp rfl fun _ => rfl) ty9 rfl rfl | exact R_load_pr rfl (.no rfl) rfl (.tmp rfl fun _ => rfl) rfl (map_get hx) ty9 rfl rfl)) rfl ?_
          refine AWl.nil ?_
          exact Le.sub0 (σ' := ⟨_, [(4, _), (5, _), (6, _), (36, _), (41, _)], [(7, _)]⟩) rfl ⟨rfl, rfl, rfl, rfl, rfl, trivial⟩ ⟨rfl, trivial⟩
        apply Dag.old (i := 6)
        case ha => rfl
        case ho => rfl
        case hb => rfl
        case hE =>
          intro w9
          refine AWl.put (R_conv rfl (.no rfl) rfl (.tmp rfl fun _ => rfl) (by rw [Tryd.underlying5]; rfl) Tryd.underlying3 (fun _ => (show IntKind.i64.wrap (a.toNat : Int) = (a.toNat : Int) by simp [IntKind.wrap, IntKind.bits]; omega))) rfl ?_
          refine AWl.nil ?_
          exact Le.sub0 rfl ⟨rfl, rfl, rfl, rfl, rfl, trivial⟩ ⟨rfl, trivial⟩
        apply Dag.new (i := 12)
        case ha => rfl
        case ho => rfl
        case hb => rfl
        case hE =>
          intro w9
          refine AWl.put (R_strIndex rfl (.no rfl) rfl (.tmp rfl fun _ => rfl) (.const rfl) Tryd.underlying9 (fun _ => ⟨by omega, (by rw [bs_get, hab]; rfl)⟩)) rfl ?_
          refine AWl.nil ?_
          exact Le.sub0 (σ' := ⟨_, [(4, _), (5, _), (6, _), (35, _), (42, _)], [(7, _)]⟩) rfl ⟨rfl, rfl, rfl, rfl, rfl, trivial⟩ ⟨rfl, trivial⟩
        apply Dag.old (i := 5)
        case ha => rfl
        case ho => rfl
        case hb => rfl
        case hE =>
          intro w9
          refine AWl.put (R_strIndex rfl (.no rfl) rfl (.tmp rfl fun _ => rfl) (.const rfl) Tryd.underlying9 (fun _ => ⟨by omega, (by rw [bs_get, hab]; rfl)⟩)) rfl ?_
          refine AWl.nil ?_
          exact Le.sub0 rfl ⟨rfl, rfl, rfl, rfl, rfl, trivial⟩ ⟨rfl, trivial⟩
        apply Dag.new (i := 13)
        case ha => rfl
        case ho => rfl
        case hb => rfl
        case hE =>
          intro w9
          refine AWl.put (R_conv rfl (.no rfl) rfl (.tmp rfl fun _ => rfl) (by rw [Tryd.underlying5]; rfl) Tryd.underlying3 (fun _ => (show IntKind.i64.wrap (b.toNat : Int) = (b.toNat : Int) by simp [IntKind.wrap, IntKind.bits]; omega))) rfl ?_
          refine AWl.nil ?_
          exact Le.sub0 (σ' := ⟨_, [(4, _), (5, _), (6, _), (34, _), (43, _)], [(7, _)]⟩) rfl ⟨rfl, rfl, rfl, rfl, rfl, trivial⟩ ⟨rfl, trivial⟩
        apply Dag.old (i := 4)
        case ha => rfl
        case ho => rfl
        case hb => rfl
        case hE =>
          intro w9
          refine AWl.put ((by first | exact R_load rfl (.no rfl) rfl (.tmp rfl fun _ => rfl) ty9 rfl rfl | exact R_load_pp rfl (.no rfl) rfl (.tmp rfl fun _ => rfl) rfl ty9 rfl rfl | exact R_load_vw rfl (.no rfl) rfl (.tmp rfl fun _ => rfl) ty9 rfl rfl | exact R_load_pr rfl (.no rfl) rfl (.tmp rfl fun _ => rfl) rfl (map_get hx) ty9 rfl rfl)) rfl ?_
          refine AWl.nil ?_
          exact Le.sub0 rfl ⟨rfl, rfl, rfl, rfl, rfl, trivial⟩ ⟨rfl, trivial⟩
        apply Dag.new (i := 14)
        case ha => rfl
        case ho => rfl
        case hb => rfl
        case hE =>
          intro w9
          refine AWl.put (R_sub rfl (.no rfl) rfl (.tmp rfl fun _ => rfl) (.const rfl) (fun _ => by omega)) rfl ?_
          refine AWl.nil ?_
          exact Le.sub0 (σ' := ⟨_, [(4, _), (5, _), (6, _), (33, _), (44, _)], [(7, _)]⟩) rfl ⟨rfl, rfl, rfl, rfl, rfl, trivial⟩ ⟨rfl, trivial⟩
        apply Dag.old (i := 3)
        case ha => rfl
        case ho => rfl
        case hb => rfl
        case hE =>
          intro w9
          refine AWl.put ((by first | exact R_indexAddr rfl (.no rfl) rfl (.tmp rfl fun _ => rfl) (.tmp rfl fun _ => rfl) Tryd.underlying68 ty9 (fun _ => ⟨by omega, (map_get hx)⟩) | exact R_indexAddr_vw rfl (.no rfl) rfl (.tmp rfl fun _ => rfl) (.tmp rfl fun _ => rfl) Tryd.underlying68 ty9 (fun _ => ⟨by omega, (map_get hx)⟩) | exact R_indexAddr_rf rfl (.no rfl) rfl (.tmp rfl fun _ => rfl) rfl (.tmp rfl fun _ => rfl) Tryd.underlying68 ty9 (fun _ => ⟨by omega, (map_get hx)⟩))) rfl ?_
          refine AWl.nil ?_
          exact Le.sub0 rfl ⟨rfl, rfl, rfl, rfl, rfl, trivial⟩ ⟨rfl, trivial⟩
        apply Dag.new (i := 10)
        case ha => rfl
        case ho => rfl
        case hb => rfl
        case hE =>
          intro w9
          refine AWl.put ((by first | exact R_indexAddr rfl (.no rfl) rfl (.tmp rfl fun _ => rfl) (.tmp rfl fun _ => rfl) Tryd.underlying68 ty9 (fun _ => ⟨by omega, (map_get hx)⟩) | exact R_indexAddr_vw rfl (.no rfl) rfl (.tmp rfl fun _ => rfl) (.tmp rfl fun _ => rfl) Tryd.underlying68 ty9 (fun _ => ⟨by omega, (map_get hx)⟩) | exact R_indexAddr_rf rfl (.no rfl) rfl (.tmp rfl fun _ => rfl) rfl (.tmp rfl fun _ => rfl) Tryd.underlying68 ty9 (fun _ => ⟨by omega, (map_get hx)⟩))) rfl ?_
          refine AWl.nil ?_
          exact Le.sub0 (σ' := ⟨_, [(4, _), (5, _), (6, _), (30, _), (37, _), (40, _)], [(7, _)]⟩) rfl ⟨rfl, rfl, rfl, rfl, rfl, rfl, trivial⟩ ⟨rfl, trivial⟩
        apply Dag.old (i := 0)
        case ha => rfl
        case ho => rfl
        case hb => rfl
        case hE =>
          intro w9
          refine AWl.put (R_move rfl (.no rfl) rfl (.tmp rfl fun _ => rfl)) rfl ?_
          refine AWl.nil ?_
          exact Le.sub0 rfl ⟨rfl, rfl, rfl, rfl, rfl, rfl, trivial⟩ ⟨rfl, trivial⟩
        apply Dag.old (i := 7)
        case ha => rfl
        case ho => rfl
        case hb => rfl
        case hE =>
          intro w9
          refine AWl.put (R_sub rfl (.no rfl) rfl (.tmp rfl fun _ => rfl) (.const rfl) (fun _ => by omega)) rfl ?_
          refine AWl.nil ?_
          exact Le.sub0 rfl ⟨rfl, rfl, rfl, rfl, rfl, rfl, trivial⟩ ⟨rfl, trivial⟩
        apply Dag.new (i := 11)
        case ha => rfl
        case ho => rfl
        case hb => rfl
        case hE =>
          intro w9
          refine AWl.put ((by first | exact R_load rfl (.no rfl) rfl (.tmp rfl fun _ => rfl) ty9 rfl rfl | exact R_load_pp rfl (.no rfl) rfl (.tmp rfl fun _ => rfl) rfl ty9 rfl rfl | exact R_load_vw rfl (.no rfl) rfl (.tmp rfl fun _ => rfl) ty9 rfl rfl | exact R_load_pr rfl (.no rfl) rfl (.tmp rfl fun _ => rfl) rfl (map_get hx) ty9 rfl rfl)) rfl ?_
          refine AWl.nil ?_
          exact Le.sub0 (σ' := ⟨_, [(4, _), (5, _), (6, _), (30, _), (36, _), (41, _)], [(7, _)]⟩) rfl ⟨rfl, rfl, rfl, rfl, rfl, rfl, trivial⟩ ⟨rfl, trivial⟩
        apply Dag.old (i := 0)
        case ha => rfl
        case ho => rfl
        case hb => rfl
        case hE =>
          intro w9
          refine AWl.put (R_move rfl (.no rfl) rfl (.tmp rfl fun _ => rfl)) rfl ?_
          refine AWl.nil ?_
          exact Le.sub0 rfl ⟨rfl, rfl, rfl, rfl, rfl, rfl, trivial⟩ ⟨rfl, trivial⟩
        apply Dag.old (i := 6)
        case ha => rfl
        case ho => rfl
        case hb => rfl
        case hE =>
          intro w9
          refine AWl.put (R_conv rfl (.no rfl) rfl (.tmp rfl fun _ => rfl) (by rw [Tryd.underlying5]; rfl) Tryd.underlying3 (fun _ => (show IntKind.i64.wrap (a.toNat : Int) = (a.toNat : Int) by simp [IntKind.wrap, IntKind.bits]; omega))) rfl ?_
          refine AWl.nil ?_
          exact Le.sub0 rfl ⟨rfl, rfl, rfl, rfl, rfl, rfl, trivial⟩ ⟨rfl, trivial⟩
        apply Dag.new (i := 12)
        case ha => rfl
        case ho => rfl
        case hb => rfl
        case hE =>
          intro w9
          refine AWl.put (R_strIndex rfl (.no rfl) rfl (.tmp rfl fun _ => rfl) (.const rfl) Tryd.underlying9 (fun _ => ⟨by omega, (by rw [bs_get, hab]; rfl)⟩)) rfl ?_
          refine AWl.nil ?_
          exact Le.sub0 (σ' := ⟨_, [(4, _), (5, _), (6, _), (30, _), (35, _), (42, _)], [(7, _)]⟩) rfl ⟨rfl, rfl, rfl, rfl, rfl, rfl, trivial⟩ ⟨rfl, trivial⟩
        apply Dag.old (i := 0)
        case ha => rfl
        case ho => rfl
        case hb => rfl
        case hE =>
          intro w9
          refine AWl.put (R_move rfl (.no rfl) rfl (.tmp rfl fun _ => rfl)) rfl ?_
          refine AWl.nil ?_
          exact Le.sub0 rfl ⟨rfl, rfl, rfl, rfl, rfl, rfl, trivial⟩ ⟨rfl, trivial⟩
        apply Dag.old (i := 5)
        case ha => rfl
        case ho => rfl
        case hb => rfl
        case hE =>
          intro w9
          refine AWl.put (R_strIndex rfl (.no rfl) rfl (.tmp rfl fun _ => rfl) (.const rfl) Tryd.underlying9 (fun _ => ⟨by omega, (by rw [bs_get, hab]; rfl)⟩)) rfl ?_
          refine AWl.nil ?_
          exact Le.sub0 rfl ⟨rfl, rfl, rfl, rfl, rfl, rfl, trivial⟩ ⟨rfl, trivial⟩
        apply Dag.new (i := 13)
        case ha => rfl
        case ho => rfl
        case hb => rfl
        case hE =>
          intro w9
          refine AWl.put (R_conv rfl (.no rfl) rfl (.tmp rfl fun _ => rfl) (by rw [Tryd.underlying5]; rfl) Tryd.underlying3 (fun _ => (show IntKind.i64.wrap (b.toNat : Int) = (b.toNat : Int) by simp [IntKind.wrap, IntKind.bits]; omega))) rfl ?_
          refine AWl.nil ?_
          exact Le.sub0 (σ' := ⟨_, [(4, _), (5, _), (6, _), (30, _), (34, _), (43, _)], [(7, _)]⟩) rfl ⟨rfl, rfl, rfl, rfl, rfl, rfl, trivial⟩ ⟨rfl, trivial⟩
        apply Dag.old (i := 0)
        case ha => rfl
        case ho => rfl
        case hb => rfl
        case hE =>
          intro w9
          refine AWl.put (R_move rfl (.no rfl) rfl (.tmp rfl fun _ => rfl)) rfl ?_
          refine AWl.nil ?_
          exact Le.sub0 rfl ⟨rfl, rfl, rfl, rfl, rfl, rfl, trivial⟩ ⟨rfl, trivial⟩
        apply Dag.old (i := 4)
        case ha => rfl
        case ho => rfl
        case hb => rfl
        case hE =>
          intro w9
          refine AWl.put ((by first | exact R_load rfl (.no rfl) rfl (.tmp rfl fun _ => rfl) ty9 rfl rfl | exact R_load_pp rfl (.no rfl) rfl (.tmp rfl fun _ => rfl) rfl ty9 rfl rfl | exact R_load_vw rfl (.no rfl) rfl (.tmp rfl fun _ => rfl) ty9 rfl rfl | exact R_load_pr rfl (.no rfl) rfl (.tmp rfl fun _ => rfl) rfl (map_get hx) ty9 rfl rfl)) rfl ?_
          refine AWl.nil ?_
          exact Le.sub0 rfl ⟨rfl, rfl, rfl, rfl, rfl, rfl, trivial⟩ ⟨rfl, trivial⟩
        apply Dag.new (i := 14)
        case ha => rfl
        case ho => rfl
        case hb => rfl
        case hE =>
          intro w9
          refine AWl.put (R_sub rfl (.no rfl) rfl (.tmp rfl fun _ => rfl) (.const rfl) (fun _ => by omega)) rfl ?_
          refine AWl.nil ?_
          exact Le.sub0 (σ' := ⟨_, [(4, _), (5, _), (6, _), (30, _), (33, _), (44, _)], [(7, _)]⟩) rfl ⟨rfl, rfl, rfl, rfl, rfl, rfl, trivial⟩ ⟨rfl, trivial⟩
        apply Dag.old (i := 0)
        case ha => rfl
        case ho => rfl
        case hb => rfl
        case hE =>
          intro w9
          refine AWl.put (R_move rfl (.no rfl) rfl (.tmp rfl fun _ => rfl)) rfl ?_
          refine AWl.nil ?_
          exact Le.sub0 rfl ⟨rfl, rfl, rfl, rfl, rfl, rfl, trivial⟩ ⟨rfl, trivial⟩
        apply Dag.old (i := 3)
        case ha => rfl
        case ho => rfl
        case hb => rfl
        case hE =>
          intro w9
          refine AWl.put ((by first | exact R_indexAddr rfl (.no rfl) rfl (.tmp rfl fun _ => rfl) (.tmp rfl fun _ => rfl) Tryd.underlying68 ty9 (fun _ => ⟨by omega, (map_get hx)⟩) | exact R_indexAddr_vw rfl (.no rfl) rfl (.tmp rfl fun _ => rfl) (.tmp rfl fun _ => rfl) Tryd.underlying68 ty9 (fun _ => ⟨by omega, (map_get hx)⟩) | exact R_indexAddr_rf rfl (.no rfl) rfl (.tmp rfl fun _ => rfl) rfl (.tmp rfl fun _ => rfl) Tryd.underlying68 ty9 (fun _ => ⟨by omega, (map_get hx)⟩))) rfl ?_
          refine AWl.nil ?_
          exact Le.sub0 rfl ⟨rfl, rfl, rfl, rfl, rfl, rfl, trivial⟩ ⟨rfl, trivial⟩
        apply Dag.new (i := 11)
        case ha => rfl
        case ho => rfl
        case hb => rfl
        case hE =>
          intro w9
          refine AWl.put ((by first | exact R_load rfl (.no rfl) rfl (.tmp rfl fun _ => rfl) ty9 rfl rfl | exact R_load_pp rfl (.no rfl) rfl (.tmp rfl fun _ => rfl) rfl ty9 rfl rfl | exact R_load_vw rfl (.no rfl) rfl (.tmp rfl fun _ => rfl) ty9 rfl rfl | exact R_load_pr rfl (.no rfl) rfl (.tmp rfl fun _ => rfl) rfl (map_get hx) ty9 rfl rfl)) rfl ?_
          refine AWl.nil ?_
          exact Le.sub0 (σ' := ⟨_, [(4, _), (5, _), (6, _), (37, _), (41, _)], [(7, _)]⟩) rfl ⟨rfl, rfl, rfl, rfl, rfl, trivial⟩ ⟨rfl, trivial⟩
        apply Dag.old (i := 7)
        case ha => rfl
        case ho => rfl
        case hb => rfl
        case hE =>
          intro w9
          refine AWl.put (R_sub rfl (.no rfl) rfl (.tmp rfl fun _ => rfl) (.const rfl) (fun _ => by omega)) rfl ?_
          refine AWl.nil ?_
          exact Le.sub0 rfl ⟨rfl, rfl, rfl, rfl, rfl, trivial⟩ ⟨rfl, trivial⟩
        apply Dag.new (i := 12)
        case ha => rfl
        case ho => rfl
        case hb => rfl
        case hE =>
          intro w9
          refine AWl.put (R_strIndex rfl (.no rfl) rfl (.tmp rfl fun _ => rfl) (.const rfl) Tryd.underlying9 (fun _ => ⟨by omega, (by rw [bs_get, hab]; rfl)⟩)) rfl ?_
          refine AWl.nil ?_
          exact Le.sub0 (σ' := ⟨_, [(4, _), (5, _), (6, _), (36, _), (42, _)], [(7, _)]⟩) rfl ⟨rfl, rfl, rfl, rfl, rfl, trivial⟩ ⟨rfl, trivial⟩
        apply Dag.old (i := 6)
        case ha => rfl
        case ho => rfl
        case hb => rfl
        case hE =>
          intro w9
          refine AWl.put (R_conv rfl (.no rfl) rfl (.tmp rfl fun _ => rfl) (by rw [Tryd.underlying5]; rfl) Tryd.underlying3 (fun _ => (show IntKind.i64.wrap (a.toNat : Int) = (a.toNat : Int) by simp [IntKind.wrap, IntKind.bits]; omega))) rfl ?_
          refine AWl.nil ?_
          exact Le.sub0 rfl ⟨rfl, rfl, rfl, rfl, rfl, trivial⟩ ⟨rfl, trivial⟩
        apply Dag.new (i := 13)
        case ha => rfl
        case ho => rfl
        case hb => rfl
        case hE =>
          intro w9
          refine AWl.put (R_conv rfl (.no rfl) rfl (.tmp rfl fun _ => rfl) (by rw [Tryd.underlying5]; rfl) Tryd.underlying3 (fun _ => (show IntKind.i64.wrap (b.toNat : Int) = (b.toNat : Int) by simp [IntKind.wrap, IntKind.bits]; omega))) rfl ?_
          refine AWl.nil ?_
          exact Le.sub0 (σ' := ⟨_, [(4, _), (5, _), (6, _), (35, _), (43, _)], [(7, _)]⟩) rfl ⟨rfl, rfl, rfl, rfl, rfl, trivial⟩ ⟨rfl, trivial⟩
        apply Dag.old (i := 5)
        case ha => rfl
        case ho => rfl
        case hb => rfl
        case hE =>
          intro w9
          refine AWl.put (R_strIndex rfl (.no rfl) rfl (.tmp rfl fun _ => rfl) (.const rfl) Tryd.underlying9 (fun _ => ⟨by omega, (by rw [bs_get, hab]; rfl)⟩)) rfl ?_
          refine AWl.nil ?_
          exact Le.sub0 rfl ⟨rfl, rfl, rfl, rfl, rfl, trivial⟩ ⟨rfl, trivial⟩
        apply Dag.new (i := 14)
        case ha => rfl
        case ho => rfl
        case hb => rfl
        case hE =>
          intro w9
          refine AWl.put (R_sub rfl (.no rfl) rfl (.tmp rfl fun _ => rfl) (.const rfl) (fun _ => by omega)) rfl ?_
          refine AWl.nil ?_
          exact Le.sub0 (σ' := ⟨_, [(4, _), (5, _), (6, _), (34, _), (44, _)], [(7, _)]⟩) rfl ⟨rfl, rfl, rfl, rfl, rfl, trivial⟩ ⟨rfl, trivial⟩
        apply Dag.old (i := 4)
        case ha => rfl
        case ho => rfl
        case hb => rfl
        case hE =>
          intro w9
          refine AWl.put ((by first | exact R_load rfl (.no rfl) rfl (.tmp rfl fun _ => rfl) ty9 rfl rfl | exact R_load_pp rfl (.no rfl) rfl (.tmp rfl fun _ => rfl) rfl ty9 rfl rfl | exact R_load_vw rfl (.no rfl) rfl (.tmp rfl fun _ => rfl) ty9 rfl rfl | exact R_load_pr rfl (.no rfl) rfl (.tmp rfl fun _ => rfl) rfl (map_get hx) ty9 rfl rfl)) rfl ?_
          refine AWl.nil ?_
          exact Le.sub0 rfl ⟨rfl, rfl, rfl, rfl, rfl, trivial⟩ ⟨rfl, trivial⟩
        apply Dag.new (i := 11)
        case ha => rfl
        case ho => rfl
        case hb => rfl
        case hE =>
          intro w9
          refine AWl.put ((by first | exact R_load rfl (.no rfl) rfl (.tmp rfl fun _ => rfl) ty9 rfl rfl | exact R_load_pp rfl (.no rfl) rfl (.tmp rfl fun _ => rfl) rfl ty9 rfl rfl | exact R_load_vw rfl (.no rfl) rfl (.tmp rfl fun _ => rfl) ty9 rfl rfl | exact R_load_pr rfl (.no rfl) rfl (.tmp rfl fun _ => rfl) rfl (map_get hx) ty9 rfl rfl)) rfl ?_
          refine AWl.nil ?_
          exact Le.sub0 (σ' := ⟨_, [(4, _), (5, _), (6, _), (30, _), (37, _), (41, _)], [(7, _)]⟩) rfl ⟨rfl, rfl, rfl, rfl, rfl, rfl, trivial⟩ ⟨rfl, trivial⟩
        apply Dag.old (i := 0)
        case ha => rfl
        case ho => rfl
        case hb => rfl
        case hE =>
          intro w9
          refine AWl.put (R_move rfl (.no rfl) rfl (.tmp rfl fun _ => rfl)) rfl ?_
          refine AWl.nil ?_
          exact Le.sub0 rfl ⟨rfl, rfl, rfl, rfl, rfl, rfl, trivial⟩ ⟨rfl, trivial⟩
        apply Dag.old (i := 7)
        case ha => rfl
        case ho => rfl
        case hb => rfl
        case hE =>
          intro w9
          refine AWl.put (R_sub rfl (.no rfl) rfl (.tmp rfl fun _ => rfl) (.const rfl) (fun _ => by omega)) rfl ?_
          refine AWl.nil ?_
          exact Le.sub0 rfl ⟨rfl, rfl, rfl, rfl, rfl, rfl, trivial⟩ ⟨rfl, trivial⟩
        apply Dag.new (i := 12)
        case ha => rfl
        case ho => rfl
        case hb => rfl
        case hE =>
          intro w9
          refine AWl.put (R_strIndex rfl (.no rfl) rfl (.tmp rfl fun _ => rfl) (.const rfl) Tryd.underlying9 (fun _ => ⟨by omega, (by rw [bs_get, hab]; rfl)⟩)) rfl ?_
          refine AWl.nil ?_
          exact Le.sub0 (σ' := ⟨_, [(4, _), (5, _), (6, _), (30, _), (36, _), (42, _)], [(7, _)]⟩) rfl ⟨rfl, rfl, rfl, rfl, rfl, rfl, trivial⟩ ⟨rfl, trivial⟩
        apply Dag.old (i := 0)
        case ha => rfl
        case ho => rfl
        case hb => rfl
        case hE =>
          intro w9
          refine AWl.put (R_move rfl (.no rfl) rfl (.tmp rfl fun _ => rfl)) rfl ?_
          refine AWl.nil ?_
          exact Le.sub0 rfl ⟨rfl, rfl, rfl, rfl, rfl, rfl, trivial⟩ ⟨rfl, trivial⟩
        apply Dag.old (i := 6)
        case ha => rfl
        case ho => rfl
        case hb => rfl
        case hE =>
          intro w9
          refine AWl.put (R_conv rfl (.no rfl) rfl (.tmp rfl fun _ => rfl) (by rw [Tryd.underlying5]; rfl) Tryd.underlying3 (fun _ => (show IntKind.i64.wrap (a.toNat : Int) = (a.toNat : Int) by simp [IntKind.wrap, IntKind.bits]; omega))) rfl ?_
          refine AWl.nil ?_
          exact Le.sub0 rfl ⟨rfl, rfl, rfl, rfl, rfl, rfl, trivial⟩ ⟨rfl, trivial⟩
        apply Dag.new (i := 13)
        case ha => rfl
        case ho => rfl
        case hb => rfl
        case hE =>
          intro w9
          refine AWl.put (R_conv rfl (.no rfl) rfl (.tmp rfl fun _ => rfl) (by rw [Tryd.underlying5]; rfl) Tryd.underlying3 (fun _ => (show IntKind.i64.wrap (b.toNat : Int) = (b.toNat : Int) by simp [IntKind.wrap, IntKind.bits]; omega))) rfl ?_
          refine AWl.nil ?_
          exact Le.sub0 (σ' := ⟨_, [(4, _), (5, _), (6, _), (30, _), (35, _), (43, _)], [(7, _)]⟩) rfl ⟨rfl, rfl, rfl, rfl, rfl, rfl, trivial⟩ ⟨rfl, trivial⟩
        apply Dag.old (i := 0)
        case ha => rfl
        case ho => rfl
        case hb => rfl
        case hE =>
          intro w9
          refine AWl.put (R_move rfl (.no rfl) rfl (.tmp rfl fun _ => rfl)) rfl ?_
          refine AWl.nil ?_
          exact Le.sub0 rfl ⟨rfl, rfl, rfl, rfl, rfl, rfl, trivial⟩ ⟨rfl, trivial⟩
        apply Dag.old (i := 5)
        case ha => rfl
        case ho => rfl
        case hb => rfl
        case hE =>
          intro w9
          refine AWl.put (R_strIndex rfl (.no rfl) rfl (.tmp rfl fun _ => rfl) (.const rfl) Tryd.underlying9 (fun _ => ⟨by omega, (by rw [bs_get, hab]; rfl)⟩)) rfl ?_
          refine AWl.nil ?_
          exact Le.sub0 rfl ⟨rfl, rfl, rfl, rfl, rfl, rfl, trivial⟩ ⟨rfl, trivial⟩
        apply Dag.new (i := 14)
        case ha => rfl
        case ho => rfl
        case hb => rfl
        case hE =>
          intro w9
          refine AWl.put (R_sub rfl (.no rfl) rfl (.tmp rfl fun _ => rfl) (.const rfl) (fun _ => by omega)) rfl ?_
          refine AWl.nil ?_
          exact Le.sub0 (σ' := ⟨_, [(4, _), (5, _), (6, _), (30, _), (34, _), (44, _)], [(7, _)]⟩) rfl ⟨rfl, rfl, rfl, rfl, rfl, rfl, trivial⟩ ⟨rfl, trivial⟩
        apply Dag.old (i := 0)
        case ha => rfl
        case ho => rfl
        case hb => rfl
        case hE =>
          intro w9
          refine AWl.put (R_move rfl (.no rfl) rfl (.tmp rfl fun _ => rfl)) rfl ?_
          refine AWl.nil ?_
          exact Le.sub0 rfl ⟨rfl, rfl, rfl, rfl, rfl, rfl, trivial⟩ ⟨rfl, trivial⟩
        apply Dag.old (i := 4)
        case ha => rfl
        case ho => rfl
        case hb => rfl
        case hE =>
          intro w9
          refine AWl.put ((by first | exact R_load rfl (.no rfl) rfl (.tmp rfl fun _ => rfl) ty9 rfl rfl | exact R_load_pp rfl (.no rfl) rfl (.tmp rfl fun _ => rfl) rfl ty9 rfl rfl | exact R_load_vw rfl (.no rfl) rfl (.tmp rfl fun _ => rfl) ty9 rfl rfl | exact R_load_pr rfl (.no rfl) rfl (.tmp rfl fun _ => rfl) rfl (map_get hx) ty9 rfl rfl)) rfl ?_
          refine AWl.nil ?_
          exact Le.sub0 rfl ⟨rfl, rfl, rfl, rfl, rfl, rfl, trivial⟩ ⟨rfl, trivial⟩
        apply Dag.new (i := 12)
        case ha => rfl
        case ho => rfl
        case hb => rfl
        case hE =>
          intro w9
          refine AWl.put (R_strIndex rfl (.no rfl) rfl (.tmp rfl fun _ => rfl) (.const rfl) Tryd.underlying9 (fun _ => ⟨by omega, (by rw [bs_get, hab]; rfl)⟩)) rfl ?_
          refine AWl.nil ?_
          exact Le.sub0 (σ' := ⟨_, [(4, _), (5, _), (6, _), (37, _), (42, _)], [(7, _)]⟩) rfl ⟨rfl, rfl, rfl, rfl, rfl, trivial⟩ ⟨rfl, trivial⟩
        apply Dag.old (i := 7)
        case ha => rfl
        case ho => rfl
        case hb => rfl
        case hE =>
          intro w9
          refine AWl.put (R_sub rfl (.no rfl) rfl (.tmp rfl fun _ => rfl) (.const rfl) (fun _ => by omega)) rfl ?_
          refine AWl.nil ?_
          exact Le.sub0 rfl ⟨rfl, rfl, rfl, rfl, rfl, trivial⟩ ⟨rfl, trivial⟩
        apply Dag.new (i := 13)
        case ha => rfl
        case ho => rfl
        case hb => rfl
        case hE =>
          intro w9
          refine AWl.put (R_conv rfl (.no rfl) rfl (.tmp rfl fun _ => rfl) (by rw [Tryd.underlying5]; rfl) Tryd.underlying3 (fun _ => (show IntKind.i64.wrap (b.toNat : Int) = (b.toNat : Int) by simp [IntKind.wrap, IntKind.bits]; omega))) rfl ?_
          refine AWl.nil ?_
          exact Le.sub0 (σ' := ⟨_, [(4, _), (5, _), (6, _), (36, _), (43, _)], [(7, _)]⟩) rfl ⟨rfl, rfl, rfl, rfl, rfl, trivial⟩ ⟨rfl, trivial⟩
        apply Dag.old (i := 6)
        case ha => rfl
        case ho => rfl
        case hb => rfl
        case hE =>
          intro w9
          refine AWl.put (R_conv rfl (.no rfl) rfl (.tmp rfl fun _ => rfl) (by rw [Tryd.underlying5]; rfl) Tryd.underlying3 (fun _ => (show IntKind.i64.wrap (a.toNat : Int) = (a.toNat : Int) by simp [IntKind.wrap, IntKind.bits]; omega))) rfl ?_
          refine AWl.nil ?_
          exact Le.sub0 rfl ⟨rfl, rfl, rfl, rfl, rfl, trivial⟩ ⟨rfl, trivial⟩
        apply Dag.new (i := 14)
        case ha => rfl
        case ho => rfl
        case hb => rfl
        case hE =>
          intro w9
          refine AWl.put (R_sub rfl (.no rfl) rfl (.tmp rfl fun _ => rfl) (.const rfl) (fun _ => by omega)) rfl ?_
          refine AWl.nil ?_
          exact Le.sub0 (σ' := ⟨_, [(4, _), (5, _), (6, _), (35, _), (44, _)], [(7, _)]⟩) rfl ⟨rfl, rfl, rfl, rfl, rfl, trivial⟩ ⟨rfl, trivial⟩
        apply Dag.old (i := 5)
        case ha => rfl
        case ho => rfl
        case hb => rfl
        case hE =>
          intro w9
          refine AWl.put (R_strIndex rfl (.no rfl) rfl (.tmp rfl fun _ => rfl) (.const rfl) Tryd.underlying9 (fun _ => ⟨by omega, (by rw [bs_get, hab]; rfl)⟩)) rfl ?_
          refine AWl.nil ?_
          exact Le.sub0 rfl ⟨rfl, rfl, rfl, rfl, rfl, trivial⟩ ⟨rfl, trivial⟩
        apply Dag.new (i := 12)
        case ha => rfl
        case ho => rfl
        case hb => rfl
        case hE =>
          intro w9
          refine AWl.put (R_strIndex rfl (.no rfl) rfl (.tmp rfl fun _ => rfl) (.const rfl) Tryd.underlying9 (fun _ => ⟨by omega, (by rw [bs_get, hab]; rfl)⟩)) rfl ?_
          refine AWl.nil ?_
          exact Le.sub0 (σ' := ⟨_, [(4, _), (5, _), (6, _), (30, _), (37, _), (42, _)], [(7, _)]⟩) rfl ⟨rfl, rfl, rfl, rfl, rfl, rfl, trivial⟩ ⟨rfl, trivial⟩
        apply Dag.old (i := 0)
        case ha => rfl
        case ho => rfl
        case hb => rfl
        case hE =>
          intro w9
          refine AWl.put (R_move rfl (.no rfl) rfl (.tmp rfl fun _ => rfl)) rfl ?_
          refine AWl.nil ?_
          exact Le.sub0 rfl ⟨rfl, rfl, rfl, rfl, rfl, rfl, trivial⟩ ⟨rfl, trivial⟩
        apply Dag.old (i := 7)
        case ha => rfl
        case ho => rfl
        case hb => rfl
        case hE =>
          intro w9
          refine AWl.put (R_sub rfl (.no rfl) rfl (.tmp rfl fun _ => rfl) (.const rfl) (fun _ => by omega)) rfl ?_
          refine AWl.nil ?_
          exact Le.sub0 rfl ⟨rfl, rfl, rfl, rfl, rfl, rfl, trivial⟩ ⟨rfl, trivial⟩
        apply Dag.new (i := 13)
        case ha => rfl
        case ho => rfl
        case hb => rfl
        case hE =>
          intro w9
          refine AWl.put (R_conv rfl (.no rfl) rfl (.tmp rfl fun _ => rfl) (by rw [Tryd.underlying5]; rfl) Tryd.underlying3 (fun _ => (show IntKind.i64.wrap (b.toNat : Int) = (b.toNat : Int) by simp [IntKind.wrap, IntKind.bits]; omega))) rfl ?_
          refine AWl.nil ?_
          exact Le.sub0 (σ' := ⟨_, [(4, _), (5, _), (6, _), (30, _), (36, _), (43, _)], [(7, _)]⟩) rfl ⟨rfl, rfl, rfl, rfl, rfl, rfl, trivial⟩ ⟨rfl, trivial⟩
        apply Dag.old (i := 0)
        case ha => rfl
        case ho => rfl
        case hb => rfl
        case hE =>
          intro w9
          refine AWl.put (R_move rfl (.no rfl) rfl (.tmp rfl fun _ => rfl)) rfl ?_
          refine AWl.nil ?_
          exact Le.sub0 rfl ⟨rfl, rfl, rfl, rfl, rfl, rfl, trivial⟩ ⟨rfl, trivial⟩
        apply Dag.old (i := 6)
        case ha => rfl
        case ho => rfl
        case hb => rfl
        case hE =>
          intro w9
          refine AWl.put (R_conv rfl (.no rfl) rfl (.tmp rfl fun _ => rfl) (by rw [Tryd.underlying5]; rfl) Tryd.underlying3 (fun _ => (show IntKind.i64.wrap (a.toNat : Int) = (a.toNat : Int) by simp [IntKind.wrap, IntKind.bits]; omega))) rfl ?_
          refine AWl.nil ?_
          exact Le.sub0 rfl ⟨rfl, rfl, rfl, rfl, rfl, rfl, trivial⟩ ⟨rfl, trivial⟩
        apply Dag.new (i := 14)
        case ha => rfl
        case ho => rfl
        case hb => rfl
        case hE =>
          intro w9
          refine AWl.put (R_sub rfl (.no rfl) rfl (.tmp rfl fun _ => rfl) (.const rfl) (fun _ => by omega)) rfl ?_
          refine AWl.nil ?_
          exact Le.sub0 (σ' := ⟨_, [(4, _), (5, _), (6, _), (30, _), (35, _), (44, _)], [(7, _)]⟩) rfl ⟨rfl, rfl, rfl, rfl, rfl, rfl, trivial⟩ ⟨rfl, trivial⟩
        apply Dag.old (i := 0)
        case ha => rfl
        case ho => rfl
        case hb => rfl
        case hE =>
          intro w9
          refine AWl.put (R_move rfl (.no rfl) rfl (.tmp rfl fun _ => rfl)) rfl ?_
          refine AWl.nil ?_
          exact Le.sub0 rfl ⟨rfl, rfl, rfl, rfl, rfl, rfl, trivial⟩ ⟨rfl, trivial⟩
        apply Dag.old (i := 5)
        case ha => rfl
        case ho => rfl
        case hb => rfl
        case hE =>
          intro w9
          refine AWl.put (R_strIndex rfl (.no rfl) rfl (.tmp rfl fun _ => rfl) (.const rfl) Tryd.underlying9 (fun _ => ⟨by omega, (by rw [bs_get, hab]; rfl)⟩)) rfl ?_
          refine AWl.nil ?_
          exact Le.sub0 rfl ⟨rfl, rfl, rfl, rfl, rfl, rfl, trivial⟩ ⟨rfl, trivial⟩
        apply Dag.new (i := 13)
        case ha => rfl
        case ho => rfl
        case hb => rfl
        case hE =>
          intro w9
          refine AWl.put (R_conv rfl (.no rfl) rfl (.tmp rfl fun _ => rfl) (by rw [Tryd.underlying5]; rfl) Tryd.underlying3 (fun _ => (show IntKind.i64.wrap (b.toNat : Int) = (b.toNat : Int) by simp [IntKind.wrap, IntKind.bits]; omega))) rfl ?_
          refine AWl.nil ?_
          exact Le.sub0 (σ' := ⟨_, [(4, _), (5, _), (6, _), (37, _), (43, _)], [(7, _)]⟩) rfl ⟨rfl, rfl, rfl, rfl, rfl, trivial⟩ ⟨rfl, trivial⟩
        apply Dag.old (i := 7)
        case ha => rfl
        case ho => rfl
        case hb => rfl
        case hE =>
          intro w9
          refine AWl.put (R_sub rfl (.no rfl) rfl (.tmp rfl fun _ => rfl) (.const rfl) (fun _ => by omega)) rfl ?_
          refine AWl.nil ?_
          exact Le.sub0 rfl ⟨rfl, rfl, rfl, rfl, rfl, trivial⟩ ⟨rfl, trivial⟩
        apply Dag.new (i := 14)
        case ha => rfl
        case ho => rfl
        case hb => rfl
        case hE =>
          intro w9
          refine AWl.put (R_sub rfl (.no rfl) rfl (.tmp rfl fun _ => rfl) (.const rfl) (fun _ => by omega)) rfl ?_
          refine AWl.nil ?_
          exact Le.sub0 (σ' := ⟨_, [(4, _), (5, _), (6, _), (36, _), (44, _)], [(7, _)]⟩) rfl ⟨rfl, rfl, rfl, rfl, rfl, trivial⟩ ⟨rfl, trivial⟩
        apply Dag.old (i := 6)
        case ha => rfl
        case ho => rfl
        case hb => rfl
        case hE =>
          intro w9
          refine AWl.put (R_conv rfl (.no rfl) rfl (.tmp rfl fun _ => rfl) (by rw [Tryd.underlying5]; rfl) Tryd.underlying3 (fun _ => (show IntKind.i64.wrap (a.toNat : Int) = (a.toNat : Int) by simp [IntKind.wrap, IntKind.bits]; omega))) rfl ?_
          refine AWl.nil ?_
          exact Le.sub0 rfl ⟨rfl, rfl, rfl, rfl, rfl, trivial⟩ ⟨rfl, trivial⟩
        apply Dag.new (i := 13)
        case ha => rfl
        case ho => rfl
        case hb => rfl
        case hE =>
          intro w9
          refine AWl.put (R_conv rfl (.no rfl) rfl (.tmp rfl fun _ => rfl) (by rw [Tryd.underlying5]; rfl) Tryd.underlying3 (fun _ => (show IntKind.i64.wrap (b.toNat : Int) = (b.toNat : Int) by simp [IntKind.wrap, IntKind.bits]; omega))) rfl ?_
          refine AWl.nil ?_
          exact Le.sub0 (σ' := ⟨_, [(4, _), (5, _), (6, _), (30, _), (37, _), (43, _)], [(7, _)]⟩) rfl ⟨rfl, rfl, rfl, rfl, rfl, rfl, trivial⟩ ⟨rfl, trivial⟩
        apply Dag.old (i := 0)
        case ha => rfl
        case ho => rfl
        case hb => rfl
        case hE =>
          intro w9
          refine AWl.put (R_move rfl (.no rfl) rfl (.tmp rfl fun _ => rfl)) rfl ?_
          refine AWl.nil ?_
          exact Le.sub0 rfl ⟨rfl, rfl, rfl, rfl, rfl, rfl, trivial⟩ ⟨rfl, trivial⟩
        apply Dag.old (i := 7)
        case ha => rfl
        case ho => rfl
        case hb => rfl
        case hE =>
          intro w9
          refine AWl.put (R_sub rfl (.no rfl) rfl (.tmp rfl fun _ => rfl) (.const rfl) (fun _ => by omega)) rfl ?_
          refine AWl.nil ?_
          exact Le.sub0 rfl ⟨rfl, rfl, rfl, rfl, rfl, rfl, trivial⟩ ⟨rfl, trivial⟩
        apply Dag.new (i := 14)
        case ha => rfl
        case ho => rfl
        case hb => rfl
        case hE =>
          intro w9
          refine AWl.put (R_sub rfl (.no rfl) rfl (.tmp rfl fun _ => rfl) (.const rfl) (fun _ => by omega)) rfl ?_
          refine AWl.nil ?_
          exact Le.sub0 (σ' := ⟨_, [(4, _), (5, _), (6, _), (30, _), (36, _), (44, _)], [(7, _)]⟩) rfl ⟨rfl, rfl, rfl, rfl, rfl, rfl, trivial⟩ ⟨rfl, trivial⟩
        apply Dag.old (i := 0)
        case ha => rfl
        case ho => rfl
        case hb => rfl
        case hE =>
          intro w9
          refine AWl.put (R_move rfl (.no rfl) rfl (.tmp rfl fun _ => rfl)) rfl ?_
          refine AWl.nil ?_
          exact Le.sub0 rfl ⟨rfl, rfl, rfl, rfl, rfl, rfl, trivial⟩ ⟨rfl, trivial⟩
        apply Dag.old (i := 6)
        case ha => rfl
        case ho => rfl
        case hb => rfl
        case hE =>
          intro w9
          refine AWl.put (R_conv rfl (.no rfl) rfl (.tmp rfl fun _ => rfl) (by rw [Tryd.underlying5]; rfl) Tryd.underlying3 (fun _ => (show IntKind.i64.wrap (a.toNat : Int) = (a.toNat : Int) by simp [IntKind.wrap, IntKind.bits]; omega))) rfl ?_
          refine AWl.nil ?_
          exact Le.sub0 rfl ⟨rfl, rfl, rfl, rfl, rfl, rfl, trivial⟩ ⟨rfl, trivial⟩
        apply Dag.new (i := 14)
        case ha => rfl
        case ho => rfl
        case hb => rfl
        case hE =>
          intro w9
          refine AWl.put (R_sub rfl (.no rfl) rfl (.tmp rfl fun _ => rfl) (.const rfl) (fun _ => by omega)) rfl ?_
          refine AWl.nil ?_
          exact Le.sub0 (σ' := ⟨_, [(4, _), (5, _), (6, _), (37, _), (44, _)], [(7, _)]⟩) rfl ⟨rfl, rfl, rfl, rfl, rfl, trivial⟩ ⟨rfl, trivial⟩
        apply Dag.old (i := 7)
        case ha => rfl
        case ho => rfl
        case hb => rfl
        case hE =>
          intro w9
          refine AWl.put (R_sub rfl (.no rfl) rfl (.tmp rfl fun _ => rfl) (.const rfl) (fun _ => by omega)) rfl ?_
          refine AWl.nil ?_
          exact Le.sub0 rfl ⟨rfl, rfl, rfl, rfl, rfl, trivial⟩ ⟨rfl, trivial⟩
        apply Dag.new (i := 14)
        case ha => rfl
        case ho => rfl
        case hb => rfl
        case hE =>
          intro w9
          refine AWl.put (R_sub rfl (.no rfl) rfl (.tmp rfl fun _ => rfl) (.const rfl) (fun _ => by omega)) rfl ?_
          refine AWl.nil ?_
          exact Le.sub0 (σ' := ⟨_, [(4, _), (5, _), (6, _), (30, _), (37, _), (44, _)], [(7, _)]⟩) rfl ⟨rfl, rfl, rfl, rfl, rfl, rfl, trivial⟩ ⟨rfl, trivial⟩
        apply Dag.old (i := 0)
        case ha => rfl
        case ho => rfl
        case hb => rfl
        case hE =>
          intro w9
          refine AWl.put (R_move rfl (.no rfl) rfl (.tmp rfl fun _ => rfl)) rfl ?_
          refine AWl.nil ?_
          exact Le.sub0 rfl ⟨rfl, rfl, rfl, rfl, rfl, rfl, trivial⟩ ⟨rfl, trivial⟩
        apply Dag.old (i := 7)
        case ha => rfl
        case ho => rfl
        case hb => rfl
        case hE =>
          intro w9
          refine AWl.put (R_sub rfl (.no rfl) rfl (.tmp rfl fun _ => rfl) (.const rfl) (fun _ => by omega)) rfl ?_
          refine AWl.nil ?_
          exact Le.sub0 rfl ⟨rfl, rfl, rfl, rfl, rfl, rfl, trivial⟩ ⟨rfl, trivial⟩
        apply Dag.new (i := 15)
        case ha => rfl
        case ho => rfl
        case hb => rfl
        case hE =>
          intro w9
          refine AWl.put (R_build (ps := [(0, .tmp 37), (1, .tmp 44)]) rfl rfl rfl in90 rfl rfl st90 (.cons (.tmp rfl fun _ => rfl) rfl rfl fp90_0 (.cons (.tmp rfl fun _ => rfl) rfl rfl fp90_1 .nil)) rfl) rfl ?_
          refine AWl.nil ?_
          exact Le.sub0 (σ' := ⟨_, [(4, _), (5, _), (6, _), (45, _)], [(7, _)]⟩) rfl ⟨rfl, rfl, rfl, rfl, trivial⟩ ⟨rfl, trivial⟩
        apply Dag.new (i := 15)
        case ha => rfl
        case ho => rfl
        case hb => rfl
        case hE =>
          intro w9
          refine AWl.put (R_build (ps := [(0, .tmp 37), (1, .tmp 44)]) rfl rfl rfl in90 rfl rfl st90 (.cons (.tmp rfl fun _ => rfl) rfl rfl fp90_0 (.cons (.tmp rfl fun _ => rfl) rfl rfl fp90_1 .nil)) rfl) rfl ?_
          refine AWl.nil ?_
          exact Le.sub0 (σ' := ⟨_, [(4, _), (5, _), (6, _), (30, _), (45, _)], [(7, _)]⟩) rfl ⟨rfl, rfl, rfl, rfl, rfl, trivial⟩ ⟨rfl, trivial⟩
        apply Dag.old (i := 0)
        case ha => rfl
        case ho => rfl
        case hb => rfl
        case hE =>
          intro w9
          refine AWl.put (R_move rfl (.no rfl) rfl (.tmp rfl fun _ => rfl)) rfl ?_
          refine AWl.nil ?_
          exact Le.sub0 rfl ⟨rfl, rfl, rfl, rfl, rfl, trivial⟩ ⟨rfl, trivial⟩
        apply Dag.new (i := 16)
        case ha => rfl
        case ho => rfl
        case hb => rfl
        case hE =>
          intro w9
          refine AWl.absadd (R_list (xs := [.tmp 45]) 46 rfl rfl rfl (.cons (.tmp rfl fun _ => rfl) rfl rfl .nil) Tryd.underlying33 in90 rfl rfl rfl rfl) rfl ?_
          refine AWl.nil ?_
          exact Le.sub0 (σ' := ⟨_, [(4, _), (5, _), (6, _), (46, _)], [(7, _), (46, _)]⟩) rfl ⟨rfl, rfl, rfl, rfl, trivial⟩ ⟨rfl, rfl, trivial⟩
        apply Dag.new (i := 16)
        case ha => rfl
        case ho => rfl
        case hb => rfl
        case hE =>
          intro w9
          refine AWl.absadd (R_list (xs := [.tmp 45]) 46 rfl rfl rfl (.cons (.tmp rfl fun _ => rfl) rfl rfl .nil) Tryd.underlying33 in90 rfl rfl rfl rfl) rfl ?_
          refine AWl.nil ?_
          exact Le.sub0 (σ' := ⟨_, [(4, _), (5, _), (6, _), (30, _), (46, _)], [(7, _), (46, _)]⟩) rfl ⟨rfl, rfl, rfl, rfl, rfl, trivial⟩ ⟨rfl, rfl, trivial⟩
        apply Dag.old (i := 0)
        case ha => rfl
        case ho => rfl
        case hb => rfl
        case hE =>
          intro w9
          refine AWl.put (R_move rfl (.no rfl) rfl (.tmp rfl fun _ => rfl)) rfl ?_
          refine AWl.nil ?_
          exact Le.sub0 rfl ⟨rfl, rfl, rfl, rfl, rfl, trivial⟩ ⟨rfl, rfl, trivial⟩
        apply Dag.new (i := 17)
        case ha => rfl
        case ho => rfl
        case hb => rfl
        case hE =>
          intro w9
          refine AWl.chgput (R_append rfl rfl rfl (.tmp rfl fun _ => rfl) rfl (.tmp rfl fun _ => rfl) (by first | exact .t | exact .rf rfl | exact .vw | exact .nil) (by first | rfl | exact isV_map (fun _ => rfl) _ | exact isV_part (fun _ => rfl) _ _ _) Tryd.underlying33 in90 rfl (by first | omega | (simp [chunk]; omega) | (simp only [List.length_map, List.length_append, List.length_cons, List.length_nil, chunk]; omega)) (by first | omega | (unfold maxLen; omega) | (unfold maxLen; simp [chunk]; omega) | (unfold maxLen; simp only [List.length_map, List.length_append, List.length_cons, List.length_nil, chunk]; omega))) rfl ?_
          refine AWl.nil ?_
          exact Le.sub0 (σ' := ⟨_, [(4, _), (5, _), (6, _), (47, _)], [(7, _), (46, _)]⟩) rfl ⟨rfl, rfl, rfl, rfl, trivial⟩ ⟨rfl, rfl, trivial⟩
        apply Dag.new (i := 18)
        case ha => rfl
        case ho => rfl
        case hb => rfl
        case hE =>
          intro w9
          refine AWl.put (R_assign rfl (.no rfl) rfl (.tmp rfl fun _ => rfl)) rfl ?_
          refine AWl.nil ?_
          exact Le.sub0 (σ' := ⟨_, [(4, _), (5, _), (6, _)], [(7, _), (46, _)]⟩) rfl ⟨rfl, rfl, rfl, trivial⟩ ⟨rfl, rfl, trivial⟩
        refine Dag.fin (k := 167) rfl ?_
        refine AWl.nil ?_
        refine AW.region ?_
        refine AWl.put (R_move rfl (.no rfl) rfl (.tmp rfl fun _ => rfl)) rfl ?_
        refine AWl.put (R_add rfl (.no rfl) rfl (.tmp rfl fun _ => rfl) (.const rfl) (fun _ => by omega)) rfl ?_
        refine AWl.put (R_assign rfl (.no rfl) rfl (.tmp rfl fun _ => rfl)) rfl ?_
        refine AWl.nil ?_
        repeat (with_reducible refine BlockQ.nor ?_)
        refine Round1.next (k + 1) ⟨⟨by omega, all2_more hk.2 hx h2⟩, trivial⟩ (by omega) (Le.sub0 rfl ⟨rfl, rfl, rfl, trivial⟩ ⟨(by refine congrArg (fun r => some (R.row 2 r)) ?_; rw [take_at hx, hab]; simp [chunk, cPair, toP]; done), trivial⟩)
    · skip
      try simp at h20
      refine AW.exit ?_
      refine AW.seq ?_
      refine AW.seq ?_
      refine AW.le (σ' := ⟨_, [(4, _), (5, _), (6, _)], [(7, _)]⟩) (Le.sub0 rfl ⟨rfl, rfl, rfl, trivial⟩ ⟨rfl, trivial⟩) ?_
      refine AW.region ?_
      refine AWl.put (R_move rfl (.no rfl) rfl (.tmp rfl fun _ => rfl)) rfl ?_
      refine AWl.put (R_callz (FnT.fr (specArePairs (((splitL 32 l).take k).map toP))) rfl (.no rfl) rfl (.cons (.tmp rfl fun _ => rfl) rfl .nil)) rfl ?_
      refine AWl.put (R_not rfl (.no rfl) rfl (.tmp rfl fun _ => rfl)) rfl ?_
      refine AWl.nil ?_
      refine AW.cond (.tmp rfl fun _ => rfl) (fun h50 => ?_) (fun h50 => ?_)
      · skip
        try simp at h50
        refine AW.seq ?_
        refine AW.region ?_
        refine AWl.add (R_empty 51 rfl rfl rfl Tryd.underlying33 ty90 rfl) rfl ?_
        refine AWl.put (R_assign rfl (.no rfl) rfl (.tmp rfl fun _ => rfl)) rfl ?_
        refine AWl.put (R_assign rfl (.no rfl) rfl (.const rfl)) rfl ?_
        refine AWl.nil ?_
        refine AW.ret ?_
        refine Res.many rfl (.tmp rfl (.tmp rfl .nil)) rfl ?_ (by simp)
        rw [parseP_nap hne (nap_take (by simpa using h50))]; rfl
      · skip
        try simp at h50
        refine AW.skip ?_
        refine AW.seq ?_
        refine AW.region ?_
        refine AWl.put (R_move rfl (.no rfl) rfl (.tmp rfl fun _ => rfl)) rfl ?_
        refine AWl.put (R_assign rfl (.no rfl) rfl (.tmp rfl fun _ => rfl)) rfl ?_
        refine AWl.put (R_assign rfl (.no rfl) rfl (.const rfl)) rfl ?_
        refine AWl.nil ?_
        refine AW.ret ?_
        refine Res.many rfl (.tmp rfl (.tmp rfl .nil)) rfl ?_ (by simp)
        have hap : arePairs (((splitL 32 l).take k).map toP) = true := (by simpa using h50); have hle := ap_stop hap (by omega) hk.1; have e1 : (splitL 32 l).take k = splitL 32 l := List.take_of_length_le hle; rw [e1] at hap; rw [e1, parseP_yes hne (all2_all hk.2 hle) hap]; rfl
theorem implParsePairs (l : List UInt8) (hz : l.length ≤ 2000000) : FnT Tryd.prog 44 [.one (.v (.string (bs l)))] (.tup [.one (.sl 2 ((parseP l).1.map cPair)), .one (.v (.bool (parseP l).2))]) := by
  have hcs := stringsSplit (bs l) 32 (by rw [bs_size]; omega)
  rw [bs_list] at hcs
  refine FnT.walk Tryd.func44 rfl (by kernel_rfl) Tryd.ntmps44 rfl fun hlen w0 => ?_
  try simp [cPair, cToken, cExpr, cEdge, cGraph, cStep, cWalk, cChange, cBatch, cHistory, cPositions, cAutomaton, cProductStep, cPathAtom, cConjunction, cView, cDelta, cRegistered, cRegistry] at hlen
  have hsz := bs_size l
  have hn : (ByteArray.mk #[110, 111, 110, 101]) = bs noneS := rfl
  have hcl := splitL_len 32 l
  have hcl2 := List.count_le_length (a := 32) (l := l)
  refine AW.seq ?_
  refine AW.region ?_
  refine AWl.put (R_assign rfl (.no rfl) rfl (.const rfl)) rfl ?_
  refine AWl.nilS (i := 2) 20001 2 rfl rfl ?_
  refine AWl.put (R_assign rfl (.no rfl) rfl (.const rfl)) rfl ?_
  refine AWl.nil ?_
  refine AW.seq ?_
  refine AW.region ?_
  refine AWl.add (R_empty 7 rfl rfl rfl Tryd.underlying33 ty90 rfl) rfl ?_
  refine AWl.put (R_assign rfl (.no rfl) rfl (.tmp rfl fun _ => rfl)) rfl ?_
  refine AWl.nil ?_
  refine AW.seq ?_
  refine AW.seq ?_
  refine AW.region ?_
  refine AWl.put (R_move rfl (.no rfl) rfl (.tmp rfl fun _ => rfl)) rfl ?_
  refine AWl.put (R_eqstr rfl (.no rfl) rfl (.tmp rfl fun _ => rfl) (.const rfl)) rfl ?_
  refine AWl.nil ?_
  refine AW.cond (.tmp rfl fun _ => rfl) (fun h9 => ?_) (fun h9 => ?_)
  · skip
    try simp at h9
    refine AW.seq ?_
    refine AW.region ?_
    refine AWl.put (R_move rfl (.no rfl) rfl (.tmp rfl fun _ => rfl)) rfl ?_
    refine AWl.put (R_assign rfl (.no rfl) rfl (.tmp rfl fun _ => rfl)) rfl ?_
    refine AWl.put (R_assign rfl (.no rfl) rfl (.const rfl)) rfl ?_
    refine AWl.nil ?_
    refine AW.ret ?_
    refine Res.many rfl (.tmp rfl (.tmp rfl .nil)) rfl ?_ (by simp)
    have e : l = noneS := bs_inj (m := noneS) h9; rw [e, parseP_none]; rfl
  · skip
    try simp at h9
    have hne : l ≠ noneS := (fun e => h9 (by rw [e, hn]))
    refine AW.skip ?_
    refine AW.seq ?_
    refine AW.seq ?_
    refine AW.region ?_
    refine AWl.put (R_move rfl (.no rfl) rfl (.tmp rfl fun _ => rfl)) rfl ?_
    refine AWl.put (R_callz (FnT.fr (hcs)) rfl (.no rfl) rfl (.cons (.tmp rfl fun _ => rfl) rfl (.cons (.const rfl) rfl .nil))) rfl ?_
    refine AWl.put ((by first | exact R_lenm rfl (.no rfl) rfl (.tmp rfl fun _ => rfl) (by first | exact .t | exact .rf rfl | exact .vw | exact .nil) Tryd.underlying68 | exact R_len rfl (.no rfl) rfl (.tmp rfl fun _ => rfl) (by first | exact .t | exact .rf rfl | exact .vw | exact .nil) Tryd.underlying68)) rfl ?_
    refine AWl.put (R_move rfl (.no rfl) rfl (.const rfl)) rfl ?_
    refine AWl.nil ?_
    refine AW.block ?_
    refine AW.loop1 (fun (k : Nat) => (k ≤ (splitL 32 l).length ∧ (∀ j y, j < k → (splitL 32 l)[j]? = some y → y.length = 2)) ∧ True) (fun (k : Nat) => ⟨_, [(14, (true, .a (.one (.t (.v (.int .i64 (k : Nat))))))), (4, (true, .a (.one (.rf 7)))), (0, _), (12, _), (13, _)], [(7, .row 2 ((((splitL 32 l).take k).map toP).map cPair))]⟩) (fun (k : Nat) => (splitL 32 l).length - k) (0) ⟨⟨Nat.zero_le _, fun j c hj => by omega⟩, trivial⟩ (Le.sub0 rfl ⟨rfl, rfl, rfl, rfl, rfl, trivial⟩ ⟨rfl, trivial⟩) ?_
    rintro k ⟨hk, he⟩
    refine AW.seq ?_
    refine AW.region ?_
    refine AWl.put (R_lt rfl (.no rfl) rfl (.tmp rfl fun _ => rfl) (.tmp rfl fun _ => rfl)) rfl ?_
    refine AWl.nil ?_
    refine AW.seq ?_
    refine AW.cond (.tmp rfl fun _ => rfl) (fun h15 => ?_) (fun h15 => ?_)
    · skip
      try simp at h15
      obtain ⟨x, hx⟩ : ∃ ξ, (splitL 32 l)[k]? = some ξ := ⟨_, List.getElem?_eq_getElem (by omega)⟩
      have hxs := bs_size x
      refine AW.skip ?_
      refine AW.seq ?_
      refine AW.block ?_
      refine AW.seq ?_
      refine AW.region ?_
      refine AWl.put ((by first | exact R_indexAddr rfl (.no rfl) rfl (.tmp rfl fun _ => rfl) (.tmp rfl fun _ => rfl) Tryd.underlying68 ty9 (fun _ => ⟨by omega, (map_get hx)⟩) | exact R_indexAddr_vw rfl (.no rfl) rfl (.tmp rfl fun _ => rfl) (.tmp rfl fun _ => rfl) Tryd.underlying68 ty9 (fun _ => ⟨by omega, (map_get hx)⟩) | exact R_indexAddr_rf rfl (.no rfl) rfl (.tmp rfl fun _ => rfl) rfl (.tmp rfl fun _ => rfl) Tryd.underlying68 ty9 (fun _ => ⟨by omega, (map_get hx)⟩))) rfl ?_
      refine AWl.put ((by first | exact R_load rfl (.no rfl) rfl (.tmp rfl fun _ => rfl) ty9 rfl rfl | exact R_load_pp rfl (.no rfl) rfl (.tmp rfl fun _ => rfl) rfl ty9 rfl rfl | exact R_load_vw rfl (.no rfl) rfl (.tmp rfl fun _ => rfl) ty9 rfl rfl | exact R_load_pr rfl (.no rfl) rfl (.tmp rfl fun _ => rfl) rfl (map_get hx) ty9 rfl rfl)) rfl ?_
      refine AWl.put (R_assign rfl (.no rfl) rfl (.tmp rfl fun _ => rfl)) rfl ?_
      refine AWl.nil ?_
      refine AW.seq ?_
      refine AW.seq ?_
      refine AW.region ?_
      refine AWl.put (R_move rfl (.no rfl) rfl (.tmp rfl fun _ => rfl)) rfl ?_
      refine AWl.put (R_len_s rfl (.no rfl) rfl (.tmp rfl fun _ => rfl) Tryd.underlying9) rfl ?_
      refine AWl.put (R_ne rfl (.no rfl) rfl (.tmp rfl fun _ => rfl) (.const rfl)) rfl ?_
      refine AWl.nil ?_
      refine AW.cond (.tmp rfl fun _ => rfl) (fun h20 => ?_) (fun h20 => ?_)
      · skip
        try simp at h20
        refine AW.seq ?_
        refine AW.le (σ' := ⟨_, [(0, _), (4, _), (6, _), (12, _), (13, _), (14, _)], [(7, _)]⟩) (Le.sub0 rfl ⟨rfl, rfl, rfl, rfl, rfl, rfl, trivial⟩ ⟨rfl, trivial⟩) ?_
        refine AW.region ?_
        refine AWl.put (R_assign rfl (.no rfl) rfl (.const rfl)) rfl ?_
        refine AWl.nilS (i := 2) 20002 2 rfl rfl ?_
        refine AWl.put (R_assign rfl (.no rfl) rfl (.const rfl)) rfl ?_
        refine AWl.nil ?_
        refine AW.ret ?_
        refine Res.many rfl (.tmp rfl (.tmp rfl .nil)) rfl ?_ (by simp)
        rw [parseP_bad hne (all2_not hx (by rw [← hxs]; omega))]; rfl
      · skip
        try simp at h20
        have h2 : x.length = 2 := by (first | omega | (simp at h20; omega))
        obtain ⟨a, b, hab⟩ := two_bytes h2
        have ha8 : a.toNat < 256 := a.toNat_lt
        have hb8 : b.toNat < 256 := b.toNat_lt
        refine AW.skip ?_
        refine AW.le (σ' := ⟨_, [(0, _), (4, _), (6, _), (12, _), (13, _), (14, _)], [(7, _)]⟩) (Le.sub0 rfl ⟨rfl, rfl, rfl, rfl, rfl, rfl, trivial⟩ ⟨rfl, trivial⟩) ?_
        refine AW.dagn 13 55 [[], [0], [1], [5], [0, 1], [0, 5], [1, 2], [1, 5], [5, 6], [0, 1, 2], [0, 1, 5], [0, 5, 6], [1, 2, 3], [1, 2, 5], [1, 5, 6], [5, 6, 7], [0, 1, 2, 3], [0, 1, 2, 5], [0, 1, 5, 6], [0, 5, 6, 7], [1, 2, 3, 4], [1, 2, 3, 5], [1, 2, 5, 6], [1, 5, 6, 7], [5, 6, 7, 8], [0, 1, 2, 3, 4], [0, 1, 2, 3, 5], [0, 1, 2, 5, 6], [0, 1, 5, 6, 7], [0, 5, 6, 7, 8], [1, 2, 3, 4, 5], [1, 2, 3, 5, 6], [1, 2, 5, 6, 7], [1, 5, 6, 7, 8], [0, 1, 2, 3, 4, 5], [0, 1, 2, 3, 5, 6], [0, 1, 2, 5, 6, 7], [0, 1, 5, 6, 7, 8], [1, 2, 3, 4, 5, 6], [1, 2, 3, 5, 6, 7], [1, 2, 5, 6, 7, 8], [0, 1, 2, 3, 4, 5, 6], [0, 1, 2, 3, 5, 6, 7], [0, 1, 2, 5, 6, 7, 8], [1, 2, 3, 4, 5, 6, 7], [1, 2, 3, 5, 6, 7, 8], [0, 1, 2, 3, 4, 5, 6, 7], [0, 1, 2, 3, 5, 6, 7, 8], [1, 2, 3, 4, 5, 6, 7, 8], [0, 1, 2, 3, 4, 5, 6, 7, 8], [1, 2, 3, 4, 5, 6, 7, 8, 9], [0, 1, 2, 3, 4, 5, 6, 7, 8, 9], [1, 2, 3, 4, 5, 6, 7, 8, 9, 10], [0, 1, 2, 3, 4, 5, 6, 7, 8, 9, 10], [0, 1, 2, 3, 4, 5, 6, 7, 8, 9, 10, 11], [0, 1, 2, 3, 4, 5, 6, 7, 8, 9, 10, 11, 12]] [(0, 0, 1), (0, 1, 2), (0, 5, 3), (1, 1, 4), (2, 0, 4), (1, 5, 5), (3, 0, 5), (2, 2, 6), (2, 5, 7), (3, 1, 7), (3, 6, 8), (4, 2, 9), (6, 0, 9), (4, 5, 10), (7, 0, 10), (5, 1, 10), (5, 6, 11), (8, 0, 11), (6, 3, 12), (6, 5, 13), (7, 2, 13), (7, 6, 14), (8, 1, 14), (8, 7, 15), (9, 3, 16), (12, 0, 16), (9, 5, 17), (13, 0, 17), (10, 2, 17), (10, 6, 18), (14, 0, 18), (11, 1, 18), (11, 7, 19), (15, 0, 19), (12, 4, 20), (12, 5, 21), (13, 3, 21), (13, 6, 22), (14, 2, 22), (14, 7, 23), (15, 1, 23), (15, 8, 24), (16, 4, 25), (20, 0, 25), (16, 5, 26), (21, 0, 26), (17, 3, 26), (17, 6, 27), (22, 0, 27), (18, 2, 27), (18, 7, 28), (23, 0, 28), (19, 1, 28), (19, 8, 29), (24, 0, 29), (20, 5, 30), (21, 4, 30), (21, 6, 31), (22, 3, 31), (22, 7, 32), (23, 2, 32), (23, 8, 33), (24, 1, 33), (25, 5, 34), (30, 0, 34), (26, 4, 34), (26, 6, 35), (31, 0, 35), (27, 3, 35), (27, 7, 36), (32, 0, 36), (28, 2, 36), (28, 8, 37), (33, 0, 37), (29, 1, 37), (30, 6, 38), (31, 4, 38), (31, 7, 39), (32, 3, 39), (32, 8, 40), (33, 2, 40), (34, 6, 41), (38, 0, 41), (35, 4, 41), (35, 7, 42), (39, 0, 42), (36, 3, 42), (36, 8, 43), (40, 0, 43), (37, 2, 43), (38, 7, 44), (39, 4, 44), (39, 8, 45), (40, 3, 45), (41, 7, 46), (44, 0, 46), (42, 4, 46), (42, 8, 47), (45, 0, 47), (43, 3, 47), (44, 8, 48), (45, 4, 48), (46, 8, 49), (48, 0, 49), (47, 4, 49), (48, 9, 50), (49, 9, 51), (50, 0, 51), (50, 10, 52), (51, 10, 53), (52, 0, 53), (53, 11, 54), (54, 12, 55)] (by kernel_rfl) (by kernel_rfl) (by kernel_rfl) ?_
        apply Dag.new (i := 0)
        case ha => rfl
        case ho => rfl
        case hb => rfl
        case hE =>
          intro w9
          refine AWl.put (R_move rfl (.no rfl) rfl (.tmp rfl fun _ => rfl)) rfl ?_
          refine AWl.nil ?_
          exact Le.sub0 (σ' := ⟨_, [(0, _), (4, _), (6, _), (12, _), (13, _), (14, _), (21, _)], [(7, _)]⟩) rfl ⟨rfl, rfl, rfl, rfl, rfl, rfl, rfl, trivial⟩ ⟨rfl, trivial⟩
        apply Dag.new (i := 1)
        case ha => rfl
        case ho => rfl
        case hb => rfl
        case hE =>
          intro w9
          refine AWl.put (R_move rfl (.no rfl) rfl (.tmp rfl fun _ => rfl)) rfl ?_
          refine AWl.nil ?_
          exact Le.sub0 (σ' := ⟨_, [(0, _), (4, _), (6, _), (12, _), (13, _), (14, _), (22, _)], [(7, _)]⟩) rfl ⟨rfl, rfl, rfl, rfl, rfl, rfl, rfl, trivial⟩ ⟨rfl, trivial⟩
        apply Dag.new (i := 5)
        case ha => rfl
        case ho => rfl
        case hb => rfl
        case hE =>
          intro w9
          refine AWl.put (R_move rfl (.no rfl) rfl (.tmp rfl fun _ => rfl)) rfl ?_
          refine AWl.nil ?_
          exact Le.sub0 (σ' := ⟨_, [(0, _), (4, _), (6, _), (12, _), (13, _), (14, _), (26, _)], [(7, _)]⟩) rfl ⟨rfl, rfl, rfl, rfl, rfl, rfl, rfl, trivial⟩ ⟨rfl, trivial⟩
        apply Dag.new (i := 1)
        case ha => rfl
        case ho => rfl
        case hb => rfl
        case hE =>
          intro w9
          refine AWl.put (R_move rfl (.no rfl) rfl (.tmp rfl fun _ => rfl)) rfl ?_
          refine AWl.nil ?_
          exact Le.sub0 (σ' := ⟨_, [(0, _), (4, _), (6, _), (12, _), (13, _), (14, _), (21, _), (22, _)], [(7, _)]⟩) rfl ⟨rfl, rfl, rfl, rfl, rfl, rfl, rfl, rfl, trivial⟩ ⟨rfl, trivial⟩
        apply Dag.old (i := 0)
        case ha => rfl
        case ho => rfl
        case hb => rfl
        case hE =>
          intro w9
          refine AWl.put (R_move rfl (.no rfl) rfl (.tmp rfl fun _ => rfl)) rfl ?_
          refine AWl.nil ?_
          exact Le.sub0 rfl ⟨rfl, rfl, rfl, rfl, rfl, rfl, rfl, rfl, trivial⟩ ⟨rfl, trivial⟩
        apply Dag.new (i := 5)
        case ha => rfl
        case ho => rfl
        case hb => rfl
        case hE =>
          intro w9
          refine AWl.put (R_move rfl (.no rfl) rfl (.tmp rfl fun _ => rfl)) rfl ?_
          refine AWl.nil ?_
          exact Le.sub0 (σ' := ⟨_, [(0, _), (4, _), (6, _), (12, _), (13, _), (14, _), (21, _), (26, _)], [(7, _)]⟩) rfl ⟨rfl, rfl, rfl, rfl, rfl, rfl, rfl, rfl, trivial⟩ ⟨rfl, trivial⟩
        apply Dag.old (i := 0)
        case ha => rfl
        case ho => rfl
        case hb => rfl
        case hE =>
          intro w9
          refine AWl.put (R_move rfl (.no rfl) rfl (.tmp rfl fun _ => rfl)) rfl ?_
          refine AWl.nil ?_
          exact Le.sub0 rfl ⟨rfl, rfl, rfl, rfl, rfl, rfl, rfl, rfl, trivial⟩ ⟨rfl, trivial⟩
        apply Dag.new (i := 2)
        case ha => rfl
        case ho => rfl
        case hb => rfl
        case hE =>
          intro w9
          refine AWl.put (R_strIndex rfl (.no rfl) rfl (.tmp rfl fun _ => rfl) (.const rfl) Tryd.underlying9 (fun _ => ⟨by omega, (by rw [bs_get, hab]; rfl)⟩)) rfl ?_
          refine AWl.nil ?_
          exact Le.sub0 (σ' := ⟨_, [(0, _), (4, _), (6, _), (12, _), (13, _), (14, _), (23, _)], [(7, _)]⟩) rfl ⟨rfl, rfl, rfl, rfl, rfl, rfl, rfl, trivial⟩ ⟨rfl, trivial⟩
        apply Dag.new (i := 5)
        case ha => rfl
        case ho => rfl
        case hb => rfl
        case hE =>
          intro w9
          refine AWl.put (R_move rfl (.no rfl) rfl (.tmp rfl fun _ => rfl)) rfl ?_
          refine AWl.nil ?_
          exact Le.sub0 (σ' := ⟨_, [(0, _), (4, _), (6, _), (12, _), (13, _), (14, _), (22, _), (26, _)], [(7, _)]⟩) rfl ⟨rfl, rfl, rfl, rfl, rfl, rfl, rfl, rfl, trivial⟩ ⟨rfl, trivial⟩
        apply Dag.old (i := 1)
        case ha => rfl
        case ho => rfl
        case hb => rfl
        case hE =>
          intro w9
          refine AWl.put (R_move rfl (.no rfl) rfl (.tmp rfl fun _ => rfl)) rfl ?_
          refine AWl.nil ?_
          exact Le.sub0 rfl ⟨rfl, rfl, rfl, rfl, rfl, rfl, rfl, rfl, trivial⟩ ⟨rfl, trivial⟩
        apply Dag.new (i := 6)
        case ha => rfl
        case ho => rfl
        case hb => rfl
        case hE =>
          intro w9
          refine AWl.put (R_strIndex rfl (.no rfl) rfl (.tmp rfl fun _ => rfl) (.const rfl) Tryd.underlying9 (fun _ => ⟨by omega, (by rw [bs_get, hab]; rfl)⟩)) rfl ?_
          refine AWl.nil ?_
          exact Le.sub0 (σ' := ⟨_, [(0, _), (4, _), (6, _), (12, _), (13, _), (14, _), (27, _)], [(7, _)]⟩) rfl ⟨rfl, rfl, rfl, rfl, rfl, rfl, rfl, trivial⟩ ⟨rfl, trivial⟩
        apply Dag.new (i := 2)
        case ha => rfl
        case ho => rfl
        case hb => rfl
        case hE =>
          intro w9
          refine AWl.put (R_strIndex rfl (.no rfl) rfl (.tmp rfl fun _ => rfl) (.const rfl) Tryd.underlying9 (fun _ => ⟨by omega, (by rw [bs_get, hab]; rfl)⟩)) rfl ?_
          refine AWl.nil ?_
          exact Le.sub0 (σ' := ⟨_, [(0, _), (4, _), (6, _), (12, _), (13, _), (14, _), (21, _), (23, _)], [(7, _)]⟩) rfl ⟨rfl, rfl, rfl, rfl, rfl, rfl, rfl, rfl, trivial⟩ ⟨rfl, trivial⟩
        apply Dag.old (i := 0)
        case ha => rfl
        case ho => rfl
        case hb => rfl
        case hE =>
          intro w9
          refine AWl.put (R_move rfl (.no rfl) rfl (.tmp rfl fun _ => rfl)) rfl ?_
          refine AWl.nil ?_
          exact Le.sub0 rfl ⟨rfl, rfl, rfl, rfl, rfl, rfl, rfl, rfl, trivial⟩ ⟨rfl, trivial⟩
        apply Dag.new (i := 5)
        case ha => rfl
        case ho => rfl
        case hb => rfl
        case hE =>
          intro w9
          refine AWl.put (R_move rfl (.no rfl) rfl (.tmp rfl fun _ => rfl)) rfl ?_
          refine AWl.nil ?_
          exact Le.sub0 (σ' := ⟨_, [(0, _), (4, _), (6, _), (12, _), (13, _), (14, _), (21, _), (22, _), (26, _)], [(7, _)]⟩) rfl ⟨rfl, rfl, rfl, rfl, rfl, rfl, rfl, rfl, rfl, trivial⟩ ⟨rfl, trivial⟩
        apply Dag.old (i := 0)
        case ha => rfl
        case ho => rfl
        case hb => rfl
        case hE =>
          intro w9
          refine AWl.put (R_move rfl (.no rfl) rfl (.tmp rfl fun _ => rfl)) rfl ?_
          refine AWl.nil ?_
          exact Le.sub0 rfl ⟨rfl, rfl, rfl, rfl, rfl, rfl, rfl, rfl, rfl, trivial⟩ ⟨rfl, trivial⟩
        apply Dag.old (i := 1)
        case ha => rfl
        case ho => rfl
        case hb => rfl
        case hE =>
          intro w9
          refine AWl.put (R_move rfl (.no rfl) rfl (.tmp rfl fun _ => rfl)) rfl ?_
          refine AWl.nil ?_
          exact Le.sub0 rfl ⟨rfl, rfl, rfl, rfl, rfl, rfl, rfl, rfl, rfl, trivial⟩ ⟨rfl, trivial⟩
        apply Dag.new (i := 6)
        case ha => rfl
        case ho => rfl
        case hb => rfl
        case hE =>
          intro w9
          refine AWl.put (R_strIndex rfl (.no rfl) rfl (.tmp rfl fun _ => rfl) (.const rfl) Tryd.underlying9 (fun _ => ⟨by omega, (by rw [bs_get, hab]; rfl)⟩)) rfl ?_
          refine AWl.nil ?_
          exact Le.sub0 (σ' := ⟨_, [(0, _), (4, _), (6, _), (12, _), (13, _), (14, _), (21, _), (27, _)], [(7, _)]⟩) rfl ⟨rfl, rfl, rfl, rfl, rfl, rfl, rfl, rfl, trivial⟩ ⟨rfl, trivial⟩
        apply Dag.old (i := 0)
        case ha => rfl
        case ho => rfl
        case hb => rfl
        case hE =>
          intro w9
          refine AWl.put (R_move rfl (.no rfl) rfl (.tmp rfl fun _ => rfl)) rfl ?_
          refine AWl.nil ?_
          exact Le.sub0 rfl ⟨rfl, rfl, rfl, rfl, rfl, rfl, rfl, rfl, trivial⟩ ⟨rfl, trivial⟩
        apply Dag.new (i := 3)
        case ha => rfl
        case ho => rfl
        case hb => rfl
        case hE =>
          intro w9
          refine AWl.put (R_conv rfl (.no rfl) rfl (.tmp rfl fun _ => rfl) (by rw [Tryd.underlying5]; rfl) Tryd.underlying3 (fun _ => (show IntKind.i64.wrap (a.toNat : Int) = (a.toNat : Int) by simp [IntKind.wrap, IntKind.bits]; omega))) rfl ?_
          refine AWl.nil ?_
          exact Le.sub0 (σ' := ⟨_, [(0, _), (4, _), (6, _), (12, _), (13, _), (14, _), (24, _)], [(7, _)]⟩) rfl ⟨rfl, rfl, rfl, rfl, rfl, rfl, rfl, trivial⟩ ⟨rfl, trivial⟩
        apply Dag.new (i := 5)
        case ha => rfl
        case ho => rfl
        case hb => rfl
        case hE =>
          intro w9
          refine AWl.put (R_move rfl (.no rfl) rfl (.tmp rfl fun _ => rfl)) rfl ?_
          refine AWl.nil ?_
          exact Le.sub0 (σ' := ⟨_, [(0, _), (4, _), (6, _), (12, _), (13, _), (14, _), (23, _), (26, _)], [(7, _)]⟩) rfl ⟨rfl, rfl, rfl, rfl, rfl, rfl, rfl, rfl, trivial⟩ ⟨rfl, trivial⟩
        apply Dag.old (i := 2)
        case ha => rfl
        case ho => rfl
        case hb => rfl
        case hE =>
          intro w9
          refine AWl.put (R_strIndex rfl (.no rfl) rfl (.tmp rfl fun _ => rfl) (.const rfl) Tryd.underlying9 (fun _ => ⟨by omega, (by rw [bs_get, hab]; rfl)⟩)) rfl ?_
          refine AWl.nil ?_
          exact Le.sub0 rfl ⟨rfl, rfl, rfl, rfl, rfl, rfl, rfl, rfl, trivial⟩ ⟨rfl, trivial⟩
        apply Dag.new (i := 6)
        case ha => rfl
        case ho => rfl
        case hb => rfl
        case hE =>
          intro w9
          refine AWl.put (R_strIndex rfl (.no rfl) rfl (.tmp rfl fun _ => rfl) (.const rfl) Tryd.underlying9 (fun _ => ⟨by omega, (by rw [bs_get, hab]; rfl)⟩)) rfl ?_
          refine AWl.nil ?_
          exact Le.sub0 (σ' := ⟨_, [(0, _), (4, _), (6, _), (12, _), (13, _), (14, _), (22, _), (27, _)], [(7, _)]⟩) rfl ⟨rfl, rfl, rfl, rfl, rfl, rfl, rfl, rfl, trivial⟩ ⟨rfl, trivial⟩
        apply Dag.old (i := 1)
        case ha => rfl
        case ho => rfl
        case hb => rfl
        case hE =>
          intro w9
          refine AWl.put (R_move rfl (.no rfl) rfl (.tmp rfl fun _ => rfl)) rfl ?_
          refine AWl.nil ?_
          exact Le.sub0 rfl ⟨rfl, rfl, rfl, rfl, rfl, rfl, rfl, rfl, trivial⟩ ⟨rfl, trivial⟩
        apply Dag.new (i := 7)
        case ha => rfl
        case ho => rfl
        case hb => rfl
        case hE =>
          intro w9
          refine AWl.put (R_conv rfl (.no rfl) rfl (.tmp rfl fun _ => rfl) (by rw [Tryd.underlying5]; rfl) Tryd.underlying3 (fun _ => (show IntKind.i64.wrap (b.toNat : Int) = (b.toNat : Int) by simp [IntKind.wrap, IntKind.bits]; omega))) rfl ?_
          refine AWl.nil ?_
          exact Le.sub0 (σ' := ⟨_, [(0, _), (4, _), (6, _), (12, _), (13, _), (14, _), (28, _)], [(7, _)]⟩) rfl ⟨rfl, rfl, rfl, rfl, rfl, rfl, rfl, trivial⟩ ⟨rfl, trivial⟩
        apply Dag.new (i := 3)
        case ha => rfl
        case ho => rfl
        case hb => rfl
        case hE =>
          intro w9
          refine AWl.put (R_conv rfl (.no rfl) rfl (.tmp rfl fun _ => rfl) (by rw [Tryd.underlying5]; rfl) Tryd.underlying3 (fun _ => (show IntKind.i64.wrap (a.toNat : Int) = (a.toNat : Int) by simp [IntKind.wrap, IntKind.bits]; omega))) rfl ?_
          refine AWl.nil ?_
          exact Le.sub0 (σ' := ⟨_, [(0, _), (4, _), (6, _), (12, _), (13, _), (14, _), (21, _), (24, _)], [(7, _)]⟩) rfl ⟨rfl, rfl, rfl, rfl, rfl, rfl, rfl, rfl, trivial⟩ ⟨rfl, trivial⟩
        apply Dag.old (i := 0)
        case ha => rfl
        case ho => rfl
        case hb => rfl
        case hE =>
          intro w9
          refine AWl.put (R_move rfl (.no rfl) rfl (.tmp rfl fun _ => rfl)) rfl ?_
          refine AWl.nil ?_
          exact Le.sub0 rfl ⟨rfl, rfl, rfl, rfl, rfl, rfl, rfl, rfl, trivial⟩ ⟨rfl, trivial⟩
        apply Dag.new (i := 5)
        case ha => rfl
        case ho => rfl
        case hb => rfl
        case hE =>
          intro w9
          refine AWl.put (R_move rfl (.no rfl) rfl (.tmp rfl fun _ => rfl)) rfl ?_
          refine AWl.nil ?_
          exact Le.sub0 (σ' := ⟨_, [(0, _), (4, _), (6, _), (12, _), (13, _), (14, _), (21, _), (23, _), (26, _)], [(7, _)]⟩) rfl ⟨rfl, rfl, rfl, rfl, rfl, rfl, rfl, rfl, rfl, trivial⟩ ⟨rfl, trivial⟩
        apply Dag.old (i := 0)
        case ha => rfl
        case ho => rfl
        case hb => rfl
        case hE =>
          intro w9
          refine AWl.put (R_move rfl (.no rfl) rfl (.tmp rfl fun _ => rfl)) rfl ?_
          refine AWl.nil ?_
          exact Le.sub0 rfl ⟨rfl, rfl, rfl, rfl, rfl, rfl, rfl, rfl, rfl, trivial⟩ ⟨rfl, trivial⟩
        apply Dag.old (i := 2)
        case ha => rfl
        case ho => rfl
        case hb => rfl
        case hE =>
          intro w9
          refine AWl.put (R_strIndex rfl (.no rfl) rfl (.tmp rfl fun _ => rfl) (.const rfl) Tryd.underlying9 (fun _ => ⟨by omega, (by rw [bs_get, hab]; rfl)⟩)) rfl ?_
          refine AWl.nil ?_
          exact Le.sub0 rfl ⟨rfl, rfl, rfl, rfl, rfl, rfl, rfl, rfl, rfl, trivial⟩ ⟨rfl, trivial⟩
        apply Dag.new (i := 6)
        case ha => rfl
        case ho => rfl
        case hb => rfl
        case hE =>
          intro w9
          refine AWl.put (R_strIndex rfl (.no rfl) rfl (.tmp rfl fun _ => rfl) (.const rfl) Tryd.underlying9 (fun _ => ⟨by omega, (by rw [bs_get, hab]; rfl)⟩)) rfl ?_
          refine AWl.nil ?_
          exact Le.sub0 (σ' := ⟨_, [(0, _), (4, _), (6, _), (12, _), (13, _), (14, _), (21, _), (22, _), (27, _)], [(7, _)]⟩) rfl ⟨rfl, rfl, rfl, rfl, rfl, rfl, rfl, rfl, rfl, trivial⟩ ⟨rfl, trivial⟩
        apply Dag.old (i := 0)
        case ha => rfl
        case ho => rfl
        case hb => rfl
        case hE =>
          intro w9
          refine AWl.put (R_move rfl (.no rfl) rfl (.tmp rfl fun _ => rfl)) rfl ?_
          refine AWl.nil ?_
          exact Le.sub0 rfl ⟨rfl, rfl, rfl, rfl, rfl, rfl, rfl, rfl, rfl, trivial⟩ ⟨rfl, trivial⟩
        apply Dag.old (i := 1)
        case ha => rfl
        case ho => rfl
        case hb => rfl
        case hE =>
          intro w9
          refine AWl.put (R_move rfl (.no rfl) rfl (.tmp rfl fun _ => rfl)) rfl ?_
          refine AWl.nil ?_
          exact Le.sub0 rfl ⟨rfl, rfl, rfl, rfl, rfl, rfl, rfl, rfl, rfl, trivial⟩ ⟨rfl, trivial⟩
        apply Dag.new (i := 7)
        case ha => rfl
        case ho => rfl
        case hb => rfl
        case hE =>
          intro w9
          refine AWl.put (R_conv rfl (.no rfl) rfl (.tmp rfl fun _ => rfl) (by rw [Tryd.underlying5]; rfl) Tryd.underlying3 (fun _ => (show IntKind.i64.wrap (b.toNat : Int) = (b.toNat : Int) by simp [IntKind.wrap, IntKind.bits]; omega))) rfl ?_
          refine AWl.nil ?_
          exact Le.sub0 (σ' := ⟨_, [(0, _), (4, _), (6, _), (12, _), (13, _), (14, _), (21, _), (28, _)], [(7, _)]⟩) rfl ⟨rfl, rfl, rfl, rfl, rfl, rfl, rfl, rfl, trivial⟩ ⟨rfl, trivial⟩
        apply Dag.old (i := 0)
        case ha => rfl
        case ho => rfl
        case hb => rfl
        case hE =>
          intro w9
          refine AWl.put (R_move rfl (.no rfl) rfl (.tmp rfl fun _ => rfl)) rfl ?_
          refine AWl.nil ?_
          exact Le.sub0 rfl ⟨rfl, rfl, rfl, rfl, rfl, rfl, rfl, rfl, trivial⟩ ⟨rfl, trivial⟩
        apply Dag.new (i := 4)
        case ha => rfl
        case ho => rfl
        case hb => rfl
        case hE =>
          intro w9
          refine AWl.put (R_sub rfl (.no rfl) rfl (.tmp rfl fun _ => rfl) (.const rfl) (fun _ => by omega)) rfl ?_
          refine AWl.nil ?_
          exact Le.sub0 (σ' := ⟨_, [(0, _), (4, _), (6, _), (12, _), (13, _), (14, _), (25, _)], [(7, _)]⟩) rfl ⟨rfl, rfl, rfl, rfl, rfl, rfl, rfl, trivial⟩ ⟨rfl, trivial⟩
        apply Dag.new (i := 5)
        case ha => rfl
        case ho => rfl
        case hb => rfl
        case hE =>
          intro w9
          refine AWl.put (R_move rfl (.no rfl) rfl (.tmp rfl fun _ => rfl)) rfl ?_
          refine AWl.nil ?_
          exact Le.sub0 (σ' := ⟨_, [(0, _), (4, _), (6, _), (12, _), (13, _), (14, _), (24, _), (26, _)], [(7, _)]⟩) rfl ⟨rfl, rfl, rfl, rfl, rfl, rfl, rfl, rfl, trivial⟩ ⟨rfl, trivial⟩
        apply Dag.old (i := 3)
        case ha => rfl
        case ho => rfl
        case hb => rfl
        case hE =>
          intro w9
          refine AWl.put (R_conv rfl (.no rfl) rfl (.tmp rfl fun _ => rfl) (by rw [Tryd.underlying5]; rfl) Tryd.underlying3 (fun _ => (show IntKind.i64.wrap (a.toNat : Int) = (a.toNat : Int) by simp [IntKind.wrap, IntKind.bits]; omega))) rfl ?_
          refine AWl.nil ?_
          exact Le.sub0 rfl ⟨rfl, rfl, rfl, rfl, rfl, rfl, rfl, rfl, trivial⟩ ⟨rfl, trivial⟩
        apply Dag.new (i := 6)
        case ha => rfl
        case ho => rfl
        case hb => rfl
        case hE =>
          intro w9
          refine AWl.put (R_strIndex rfl (.no rfl) rfl (.tmp rfl fun _ => rfl) (.const rfl) Tryd.underlying9 (fun _ => ⟨by omega, (by rw [bs_get, hab]; rfl)⟩)) rfl ?_
          refine AWl.nil ?_
          exact Le.sub0 (σ' := ⟨_, [(0, _), (4, _), (6, _), (12, _), (13, _), (14, _), (23, _), (27, _)], [(7, _)]⟩) rfl ⟨rfl, rfl, rfl, rfl, rfl, rfl, rfl, rfl, trivial⟩ ⟨rfl, trivial⟩
        apply Dag.old (i := 2)
        case ha => rfl
        case ho => rfl
        case hb => rfl
        case hE =>
          intro w9
          refine AWl.put (R_strIndex rfl (.no rfl) rfl (.tmp rfl fun _ => rfl) (.const rfl) Tryd.underlying9 (fun _ => ⟨by omega, (by rw [bs_get, hab]; rfl)⟩)) rfl ?_
          refine AWl.nil ?_
          exact Le.sub0 rfl ⟨rfl, rfl, rfl, rfl, rfl, rfl, rfl, rfl, trivial⟩ ⟨rfl, trivial⟩
        apply Dag.new (i := 7)
        case ha => rfl
        case ho => rfl
        case hb => rfl
        case hE =>
          intro w9
          refine AWl.put (R_conv rfl (.no rfl) rfl (.tmp rfl fun _ => rfl) (by rw [Tryd.underlying5]; rfl) Tryd.underlying3 (fun _ => (show IntKind.i64.wrap (b.toNat : Int) = (b.toNat : Int) by simp [IntKind.wrap, IntKind.bits]; omega))) rfl ?_
          refine AWl.nil ?_
          exact Le.sub0 (σ' := ⟨_, [(0, _), (4, _), (6, _), (12, _), (13, _), (14, _), (22, _), (28, _)], [(7, _)]⟩) rfl ⟨rfl, rfl, rfl, rfl, rfl, rfl, rfl, rfl, trivial⟩ ⟨rfl, trivial⟩
        apply Dag.old (i := 1)
        case ha => rfl
        case ho => rfl
        case hb => rfl
        case hE =>
          intro w9
          refine AWl.put (R_move rfl (.no rfl) rfl (.tmp rfl fun _ => rfl)) rfl ?_
          refine AWl.nil ?_
          exact Le.sub0 rfl ⟨rfl, rfl, rfl, rfl, rfl, rfl, rfl, rfl, trivial⟩ ⟨rfl, trivial⟩
        apply Dag.new (i := 8)
        case ha => rfl
        case ho => rfl
        case hb => rfl
        case hE =>
          intro w9
          refine AWl.put (R_sub rfl (.no rfl) rfl (.tmp rfl fun _ => rfl) (.const rfl) (fun _ => by omega)) rfl ?_
          refine AWl.nil ?_
          exact Le.sub0 (σ' := ⟨_, [(0, _), (4, _), (6, _), (12, _), (13, _), (14, _), (29, _)], [(7, _)]⟩) rfl ⟨rfl, rfl, rfl, rfl, rfl, rfl, rfl, trivial⟩ ⟨rfl, trivial⟩
        apply Dag.new (i := 4)
        case ha => rfl
        case ho => rfl
        case hb => rfl
        case hE =>
          intro w9
          refine AWl.put (R_sub rfl (.no rfl) rfl (.tmp rfl fun _ => rfl) (.const rfl) (fun _ => by omega)) rfl ?_
          refine AWl.nil ?_
          exact Le.sub0 (σ' := ⟨_, [(0, _), (4, _), (6, _), (12, _), (13, _), (14, _), (21, _), (25, _)], [(7, _)]⟩) rfl ⟨rfl, rfl, rfl, rfl, rfl, rfl, rfl, rfl, trivial⟩ ⟨rfl, trivial⟩
        apply Dag.old (i := 0)
        case ha => rfl
        case ho => rfl
        case hb => rfl
        case hE =>
          intro w9
          refine AWl.put (R_move rfl (.no rfl) rfl (.tmp rfl fun _ => rfl)) rfl ?_
          refine AWl.nil ?_
          exact Le.sub0 rfl ⟨rfl, rfl, rfl, rfl, rfl, rfl, rfl, rfl, trivial⟩ ⟨rfl, trivial⟩
        apply Dag.new (i := 5)
        case ha => rfl
        case ho => rfl
        case hb => rfl
        case hE =>
          intro w9
          refine AWl.put (R_move rfl (.no rfl) rfl (.tmp rfl fun _ => rfl)) rfl ?_
          refine AWl.nil ?_
          exact Le.sub0 (σ' := ⟨_, [(0, _), (4, _), (6, _), (12, _), (13, _), (14, _), (21, _), (24, _), (26, _)], [(7, _)]⟩) rfl ⟨rfl, rfl, rfl, rfl, rfl, rfl, rfl, rfl, rfl, trivial⟩ ⟨rfl, trivial⟩
        apply Dag.old (i := 0)
        case ha => rfl
        case ho => rfl
        case hb => rfl
        case hE =>
          intro w9
          refine AWl.put (R_move rfl (.no rfl) rfl (.tmp rfl fun _ => rfl)) rfl ?_
          refine AWl.nil ?_
          exact Le.sub0 rfl ⟨rfl, rfl, rfl, rfl, rfl, rfl, rfl, rfl, rfl, trivial⟩ ⟨rfl, trivial⟩
        apply Dag.old (i := 3)
        case ha => rfl
        case ho => rfl
        case hb => rfl
        case hE =>
          intro w9
          refine AWl.put (R_conv rfl (.no rfl) rfl (.tmp rfl fun _ => rfl) (by rw [Tryd.underlying5]; rfl) Tryd.underlying3 (fun _ => (show IntKind.i64.wrap (a.toNat : Int) = (a.toNat : Int) by simp [IntKind.wrap, IntKind.bits]; omega))) rfl ?_
          refine AWl.nil ?_
          exact Le.sub0 rfl ⟨rfl, rfl, rfl, rfl, rfl, rfl, rfl, rfl, rfl, trivial⟩ ⟨rfl, trivial⟩
        apply Dag.new (i := 6)
        case ha => rfl
        case ho => rfl
        case hb => rfl
        case hE =>
          intro w9
          refine AWl.put (R_strIndex rfl (.no rfl) rfl (.tmp rfl fun _ => rfl) (.const rfl) Tryd.underlying9 (fun _ => ⟨by omega, (by rw [bs_get, hab]; rfl)⟩)) rfl ?_
          refine AWl.nil ?_
          exact Le.sub0 (σ' := ⟨_, [(0, _), (4, _), (6, _), (12, _), (13, _), (14, _), (21, _), (23, _), (27, _)], [(7, _)]⟩) rfl ⟨rfl, rfl, rfl, rfl, rfl, rfl, rfl, rfl, rfl, trivial⟩ ⟨rfl, trivial⟩
        apply Dag.old (i := 0)
        case ha => rfl
        case ho => rfl
        case hb => rfl
        case hE =>
          intro w9
          refine AWl.put (R_move rfl (.no rfl) rfl (.tmp rfl fun _ => rfl)) rfl ?_
          refine AWl.nil ?_
          exact Le.sub0 rfl ⟨rfl, rfl, rfl, rfl, rfl, rfl, rfl, rfl, rfl, trivial⟩ ⟨rfl, trivial⟩
        apply Dag.old (i := 2)
        case ha => rfl
        case ho => rfl
        case hb => rfl
        case hE =>
          intro w9
          refine AWl.put (R_strIndex rfl (.no rfl) rfl (.tmp rfl fun _ => rfl) (.const rfl) Tryd.underlying9 (fun _ => ⟨by omega, (by rw [bs_get, hab]; rfl)⟩)) rfl ?_
          refine AWl.nil ?_
          exact Le.sub0 rfl ⟨rfl, rfl, rfl, rfl, rfl, rfl, rfl, rfl, rfl, trivial⟩ ⟨rfl, trivial⟩
        apply Dag.new (i := 7)
        case ha => rfl
        case ho => rfl
        case hb => rfl
        case hE =>
          intro w9
          refine AWl.put (R_conv rfl (.no rfl) rfl (.tmp rfl fun _ => rfl) (by rw [Tryd.underlying5]; rfl) Tryd.underlying3 (fun _ => (show IntKind.i64.wrap (b.toNat : Int) = (b.toNat : Int) by simp [IntKind.wrap, IntKind.bits]; omega))) rfl ?_
          refine AWl.nil ?_
          exact Le.sub0 (σ' := ⟨_, [(0, _), (4, _), (6, _), (12, _), (13, _), (14, _), (21, _), (22, _), (28, _)], [(7, _)]⟩) rfl ⟨rfl, rfl, rfl, rfl, rfl, rfl, rfl, rfl, rfl, trivial⟩ ⟨rfl, trivial⟩
        apply Dag.old (i := 0)
        case ha => rfl
        case ho => rfl
        case hb => rfl
        case hE =>
          intro w9
          refine AWl.put (R_move rfl (.no rfl) rfl (.tmp rfl fun _ => rfl)) rfl ?_
          refine AWl.nil ?_
          exact Le.sub0 rfl ⟨rfl, rfl, rfl, rfl, rfl, rfl, rfl, rfl, rfl, trivial⟩ ⟨rfl, trivial⟩
        apply Dag.old (i := 1)
        case ha => rfl
        case ho => rfl
        case hb => rfl
        case hE =>
          intro w9
          refine AWl.put (R_move rfl (.no rfl) rfl (.tmp rfl fun _ => rfl)) rfl ?_
          refine AWl.nil ?_
          exact Le.sub0 rfl ⟨rfl, rfl, rfl, rfl, rfl, rfl, rfl, rfl, rfl, trivial⟩ ⟨rfl, trivial⟩
        apply Dag.new (i := 8)
        case ha => rfl
        case ho => rfl
        case hb => rfl
        case hE =>
          intro w9
          refine AWl.put (R_sub rfl (.no rfl) rfl (.tmp rfl fun _ => rfl) (.const rfl) (fun _ => by omega)) rfl ?_
          refine AWl.nil ?_
          exact Le.sub0 (σ' := ⟨_, [(0, _), (4, _), (6, _), (12, _), (13, _), (14, _), (21, _), (29, _)], [(7, _)]⟩) rfl ⟨rfl, rfl, rfl, rfl, rfl, rfl, rfl, rfl, trivial⟩ ⟨rfl, trivial⟩
        apply Dag.old (i := 0)
        case ha => rfl
        case ho => rfl
        case hb => rfl
        case hE =>
          intro w9
          refine AWl.put (R_move rfl (.no rfl) rfl (.tmp rfl fun _ => rfl)) rfl ?_
          refine AWl.nil ?_
          exact Le.sub0 rfl ⟨rfl, rfl, rfl, rfl, rfl, rfl, rfl, rfl, trivial⟩ ⟨rfl, trivial⟩
        apply Dag.new (i := 5)
        case ha => rfl
        case ho => rfl
        case hb => rfl
        case hE =>
          intro w9
          refine AWl.put (R_move rfl (.no rfl) rfl (.tmp rfl fun _ => rfl)) rfl ?_
          refine AWl.nil ?_
          exact Le.sub0 (σ' := ⟨_, [(0, _), (4, _), (6, _), (12, _), (13, _), (14, _), (25, _), (26, _)], [(7, _)]⟩) rfl ⟨rfl, rfl, rfl, rfl, rfl, rfl, rfl, rfl, trivial⟩ ⟨rfl, trivial⟩
        apply Dag.old (i := 4)
        case ha => rfl
        case ho => rfl
        case hb => rfl
        case hE =>
          intro w9
          refine AWl.put (R_sub rfl (.no rfl) rfl (.tmp rfl fun _ => rfl) (.const rfl) (fun _ => by omega)) rfl ?_
          refine AWl.nil ?_
          exact Le.sub0 rfl ⟨rfl, rfl, rfl, rfl, rfl, rfl, rfl, rfl, trivial⟩ ⟨rfl, trivial⟩
        apply Dag.new (i := 6)
        case ha => rfl
        case ho => rfl
        case hb => rfl
        case hE =>
          intro w9
          refine AWl.put (R_strIndex rfl (.no rfl) rfl (.tmp rfl fun _ => rfl) (.const rfl) Tryd.underlying9 (fun _ => ⟨by omega, (by rw [bs_get, hab]; rfl)⟩)) rfl ?_
          refine AWl.nil ?_
          exact Le.sub0 (σ' := ⟨_, [(0, _), (4, _), (6, _), (12, _), (13, _), (14, _), (24, _), (27, _)], [(7, _)]⟩) rfl ⟨rfl, rfl, rfl, rfl, rfl, rfl, rfl, rfl, trivial⟩ ⟨rfl, trivial⟩
        apply Dag.old (i := 3)
        case ha => rfl
        case ho => rfl
        case hb => rfl
        case hE =>
          intro w9
          refine AWl.put (R_conv rfl (.no rfl) rfl (.tmp rfl fun _ => rfl) (by rw [Tryd.underlying5]; rfl) Tryd.underlying3 (fun _ => (show IntKind.i64.wrap (a.toNat : Int) = (a.toNat : Int) by simp [IntKind.wrap, IntKind.bits]; omega))) rfl ?_
          refine AWl.nil ?_
          exact Le.sub0 rfl ⟨rfl, rfl, rfl, rfl, rfl, rfl, rfl, rfl, trivial⟩ ⟨rfl, trivial⟩
        apply Dag.new (i := 7)
        case ha => rfl
        case ho => rfl
        case hb => rfl
        case hE =>
          intro w9
          refine AWl.put (R_conv rfl (.no rfl) rfl (.tmp rfl fun _ => rfl) (by rw [Tryd.underlying5]; rfl) Tryd.underlying3 (fun _ => (show IntKind.i64.wrap (b.toNat : Int) = (b.toNat : Int) by simp [IntKind.wrap, IntKind.bits]; omega))) rfl ?_
          refine AWl.nil ?_
          exact Le.sub0 (σ' := ⟨_, [(0, _), (4, _), (6, _), (12, _), (13, _), (14, _), (23, _), (28, _)], [(7, _)]⟩) rfl ⟨rfl, rfl, rfl, rfl, rfl, rfl, rfl, rfl, trivial⟩ ⟨rfl, trivial⟩
        apply Dag.old (i := 2)
        case ha => rfl
        case ho => rfl
        case hb => rfl
        case hE =>
          intro w9
          refine AWl.put (R_strIndex rfl (.no rfl) rfl (.tmp rfl fun _ => rfl) (.const rfl) Tryd.underlying9 (fun _ => ⟨by omega, (by rw [bs_get, hab]; rfl)⟩)) rfl ?_
          refine AWl.nil ?_
          exact Le.sub0 rfl ⟨rfl, rfl, rfl, rfl, rfl, rfl, rfl, rfl, trivial⟩ ⟨rfl, trivial⟩
        apply Dag.new (i := 8)
        case ha => rfl
        case ho => rfl
        case hb => rfl
        case hE =>
          intro w9
          refine AWl.put (R_sub rfl (.no rfl) rfl (.tmp rfl fun _ => rfl) (.const rfl) (fun _ => by omega)) rfl ?_
          refine AWl.nil ?_
          exact Le.sub0 (σ' := ⟨_, [(0, _), (4, _), (6, _), (12, _), (13, _), (14, _), (22, _), (29, _)], [(7, _)]⟩) rfl ⟨rfl, rfl, rfl, rfl, rfl, rfl, rfl, rfl, trivial⟩ ⟨rfl, trivial⟩
        apply Dag.old (i := 1)
        case ha => rfl
        case ho => rfl
        case hb => rfl
        case hE =>
          intro w9
          refine AWl.put (R_move rfl (.no rfl) rfl (.tmp rfl fun _ => rfl)) rfl ?_
          refine AWl.nil ?_
          exact Le.sub0 rfl ⟨rfl, rfl, rfl, rfl, rfl, rfl, rfl, rfl, trivial⟩ ⟨rfl, trivial⟩
        apply Dag.new (i := 5)
        case ha => rfl
        case ho => rfl
        case hb => rfl
        case hE =>
          intro w9
          refine AWl.put (R_move rfl (.no rfl) rfl (.tmp rfl fun _ => rfl)) rfl ?_
          refine AWl.nil ?_
          exact Le.sub0 (σ' := ⟨_, [(0, _), (4, _), (6, _), (12, _), (13, _), (14, _), (21, _), (25, _), (26, _)], [(7, _)]⟩) rfl ⟨rfl, rfl, rfl, rfl, rfl, rfl, rfl, rfl, rfl, trivial⟩ ⟨rfl, trivial⟩
        apply Dag.old (i := 0)
        case ha => rfl
        case ho => rfl
        case hb => rfl
        case hE =>
          intro w9
          refine AWl.put (R_move rfl (.no rfl) rfl (.tmp rfl fun _ => rfl)) rfl ?_
          refine AWl.nil ?_
          exact Le.sub0 rfl ⟨rfl, rfl, rfl, rfl, rfl, rfl, rfl, rfl, rfl, trivial⟩ ⟨rfl, trivial⟩
        apply Dag.old (i := 4)
        case ha => rfl
        case ho => rfl
        case hb => rfl
        case hE =>
          intro w9
          refine AWl.put (R_sub rfl (.no rfl) rfl (.tmp rfl fun _ => rfl) (.const rfl) (fun _ => by omega)) rfl ?_
          refine AWl.nil ?_
          exact Le.sub0 rfl ⟨rfl, rfl, rfl, rfl, rfl, rfl, rfl, rfl, rfl, trivial⟩ ⟨rfl, trivial⟩
        apply Dag.new (i := 6)
        case ha => rfl
        case ho => rfl
        case hb => rfl
        case hE =>
          intro w9
          refine AWl.put (R_strIndex rfl (.no rfl) rfl (.tmp rfl fun _ => rfl) (.const rfl) Tryd.underlying9 (fun _ => ⟨by omega, (by rw [bs_get, hab]; rfl)⟩)) rfl ?_
          refine AWl.nil ?_
          exact Le.sub0 (σ' := ⟨_, [(0, _), (4, _), (6, _), (12, _), (13, _), (14, _), (21, _), (24, _), (27, _)], [(7, _)]⟩) rfl ⟨rfl, rfl, rfl, rfl, rfl, rfl, rfl, rfl, rfl, trivial⟩ ⟨rfl, trivial⟩
        apply Dag.old (i := 0)
        case ha => rfl
        case ho => rfl
        case hb => rfl
        case hE =>
          intro w9
          refine AWl.put (R_move rfl (.no rfl) rfl (.tmp rfl fun _ => rfl)) rfl ?_
          refine AWl.nil ?_
          exact Le.sub0 rfl ⟨rfl, rfl, rfl, rfl, rfl, rfl, rfl, rfl, rfl, trivial⟩ ⟨rfl, trivial⟩
        apply Dag.old (i := 3)
        case ha => rfl
        case ho => rfl
        case hb => rfl
        case hE =>
          intro w9
          refine AWl.put (R_conv rfl (.no rfl) rfl (.tmp rfl fun _ => rfl) (by rw [Tryd.underlying5]; rfl) Tryd.underlying3 (fun _ => (show IntKind.i64.wrap (a.toNat : Int) = (a.toNat : Int) by simp [IntKind.wrap, IntKind.bits]; omega))) rfl ?_
          refine AWl.nil ?_
          exact Le.sub0 rfl ⟨rfl, rfl, rfl, rfl, rfl, rfl, rfl, rfl, rfl, trivial⟩ ⟨rfl, trivial⟩
        apply Dag.new (i := 7)
        case ha => rfl
        case ho => rfl
        case hb => rfl
        case hE =>
          intro w9
          refine AWl.put (R_conv rfl (.no rfl) rfl (.tmp rfl fun _ => rfl) (by rw [Tryd.underlying5]; rfl) Tryd.underlying3 (fun _ => (show IntKind.i64.wrap (b.toNat : Int) = (b.toNat : Int) by simp [IntKind.wrap, IntKind.bits]; omega))) rfl ?_
          refine AWl.nil ?_
          exact Le.sub0 (σ' := ⟨_, [(0, _), (4, _), (6, _), (12, _), (13, _), (14, _), (21, _), (23, _), (28, _)], [(7, _)]⟩) rfl ⟨rfl, rfl, rfl, rfl, rfl, rfl, rfl, rfl, rfl, trivial⟩ ⟨rfl, trivial⟩
        apply Dag.old (i := 0)
        case ha => rfl
        case ho => rfl
        case hb => rfl
        case hE =>
          intro w9
          refine AWl.put (R_move rfl (.no rfl) rfl (.tmp rfl fun _ => rfl)) rfl ?_
          refine AWl.nil ?_
          exact Le.sub0 rfl ⟨rfl, rfl, rfl, rfl, rfl, rfl, rfl, rfl, rfl, trivial⟩ ⟨rfl, trivial⟩
        apply Dag.old (i := 2)
        case ha => rfl
        case ho => rfl
        case hb => rfl
        case hE =>
          intro w9
          refine AWl.put (R_strIndex rfl (.no rfl) rfl (.tmp rfl fun _ => rfl) (.const rfl) Tryd.underlying9 (fun _ => ⟨by omega, (by rw [bs_get, hab]; rfl)⟩)) rfl ?_
          refine AWl.nil ?_
          exact Le.sub0 rfl ⟨rfl, rfl, rfl, rfl, rfl, rfl, rfl, rfl, rfl, trivial⟩ ⟨rfl, trivial⟩
        apply Dag.new (i := 8)
        case ha => rfl
        case ho => rfl
        case hb => rfl
        case hE =>
          intro w9
          refine AWl.put (R_sub rfl (.no rfl) rfl (.tmp rfl fun _ => rfl) (.const rfl) (fun _ => by omega)) rfl ?_
          refine AWl.nil ?_
          exact Le.sub0 (σ' := ⟨_, [(0, _), (4, _), (6, _), (12, _), (13, _), (14, _), (21, _), (22, _), (29, _)], [(7, _)]⟩) rfl ⟨rfl, rfl, rfl, rfl, rfl, rfl, rfl, rfl, rfl, trivial⟩ ⟨rfl, trivial⟩
        apply Dag.old (i := 0)
        case ha => rfl
        case ho => rfl
        case hb => rfl
        case hE =>
          intro w9
          refine AWl.put (R_move rfl (.no rfl) rfl (.tmp rfl fun _ => rfl)) rfl ?_
          refine AWl.nil ?_
          exact Le.sub0 rfl ⟨rfl, rfl, rfl, rfl, rfl, rfl, rfl, rfl, rfl, trivial⟩ ⟨rfl, trivial⟩
        apply Dag.old (i := 1)
        case ha => rfl
        case ho => rfl
        case hb => rfl
        case hE =>
          intro w9
          refine AWl.put (R_move rfl (.no rfl) rfl (.tmp rfl fun _ => rfl)) rfl ?_
          refine AWl.nil ?_
          exact Le.sub0 rfl ⟨rfl, rfl, rfl, rfl, rfl, rfl, rfl, rfl, rfl, trivial⟩ ⟨rfl, trivial⟩
        apply Dag.new (i := 6)
        case ha => rfl
        case ho => rfl
        case hb => rfl
        case hE =>
          intro w9
          refine AWl.put (R_strIndex rfl (.no rfl) rfl (.tmp rfl fun _ => rfl) (.const rfl) Tryd.underlying9 (fun _ => ⟨by omega, (by rw [bs_get, hab]; rfl)⟩)) rfl ?_
          refine AWl.nil ?_
          exact Le.sub0 (σ' := ⟨_, [(0, _), (4, _), (6, _), (12, _), (13, _), (14, _), (25, _), (27, _)], [(7, _)]⟩) rfl ⟨rfl, rfl, rfl, rfl, rfl, rfl, rfl, rfl, trivial⟩ ⟨rfl, trivial⟩
        apply Dag.old (i := 4)
        case ha => rfl
        case ho => rfl
        case hb => rfl
        case hE =>
          intro w9
          refine AWl.put (R_sub rfl (.no rfl) rfl (.tmp rfl fun _ => rfl) (.const rfl) (fun _ => by omega)) rfl ?_
          refine AWl.nil ?_
          exact Le.sub0 rfl ⟨rfl, rfl, rfl, rfl, rfl, rfl, rfl, rfl, trivial⟩ ⟨rfl, trivial⟩
        apply Dag.new (i := 7)
        case ha => rfl
        case ho => rfl
        case hb => rfl
        case hE =>
          intro w9
          refine AWl.put (R_conv rfl (.no rfl) rfl (.tmp rfl fun _ => rfl) (by rw [Tryd.underlying5]; rfl) Tryd.underlying3 (fun _ => (show IntKind.i64.wrap (b.toNat : Int) = (b.toNat : Int) by simp [IntKind.wrap, IntKind.bits]; omega))) rfl ?_
          refine AWl.nil ?_
          exact Le.sub0 (σ' := ⟨_, [(0, _), (4, _), (6, _), (12, _), (13, _), (14, _), (24, _), (28, _)], [(7, _)]⟩) rfl ⟨rfl, rfl, rfl, rfl, rfl, rfl, rfl, rfl, trivial⟩ ⟨rfl, trivial⟩
        apply Dag.old (i := 3)
        case ha => rfl
        case ho => rfl
        case hb => rfl
        case hE =>
          intro w9
          refine AWl.put (R_conv rfl (.no rfl) rfl (.tmp rfl fun _ => rfl) (by rw [Tryd.underlying5]; rfl) Tryd.underlying3 (fun _ => (show IntKind.i64.wrap (a.toNat : Int) = (a.toNat : Int) by simp [IntKind.wrap, IntKind.bits]; omega))) rfl ?_
          refine AWl.nil ?_
          exact Le.sub0 rfl ⟨rfl, rfl, rfl, rfl, rfl, rfl, rfl, rfl, trivial⟩ ⟨rfl, trivial⟩
        apply Dag.new (i := 8)
        case ha => rfl
        case ho => rfl
        case hb => rfl
        case hE =>
          intro w9
          refine AWl.put (R_sub rfl (.no rfl) rfl (.tmp rfl fun _ => rfl) (.const rfl) (fun _ => by omega)) rfl ?_
          refine AWl.nil ?_
          exact Le.sub0 (σ' := ⟨_, [(0, _), (4, _), (6, _), (12, _), (13, _), (14, _), (23, _), (29, _)], [(7, _)]⟩) rfl ⟨rfl, rfl, rfl, rfl, rfl, rfl, rfl, rfl, trivial⟩ ⟨rfl, trivial⟩
        apply Dag.old (i := 2)
        case ha => rfl
        case ho => rfl
        case hb => rfl
        case hE =>
          intro w9
          refine AWl.put (R_strIndex rfl (.no rfl) rfl (.tmp rfl fun _ => rfl) (.const rfl) Tryd.underlying9 (fun _ => ⟨by omega, (by rw [bs_get, hab]; rfl)⟩)) rfl ?_
          refine AWl.nil ?_
          exact Le.sub0 rfl ⟨rfl, rfl, rfl, rfl, rfl, rfl, rfl, rfl, trivial⟩ ⟨rfl, trivial⟩
        apply Dag.new (i := 6)
        case ha => rfl
        case ho => rfl
        case hb => rfl
        case hE =>
          intro w9
          refine AWl.put (R_strIndex rfl (.no rfl) rfl (.tmp rfl fun _ => rfl) (.const rfl) Tryd.underlying9 (fun _ => ⟨by omega, (by rw [bs_get, hab]; rfl)⟩)) rfl ?_
          refine AWl.nil ?_
          exact Le.sub0 (σ' := ⟨_, [(0, _), (4, _), (6, _), (12, _), (13, _), (14, _), (21, _), (25, _), (27, _)], [(7, _)]⟩) rfl ⟨rfl, rfl, rfl, rfl, rfl, rfl, rfl, rfl, rfl, trivial⟩ ⟨rfl, trivial⟩
        apply Dag.old (i := 0)
        case ha => rfl
        case ho => rfl
        case hb => rfl
        case hE =>
          intro w9
          refine AWl.put (R_move rfl (.no rfl) rfl (.tmp rfl fun _ => rfl)) rfl ?_
          refine AWl.nil ?_
          exact Le.sub0 rfl ⟨rfl, rfl, rfl, rfl, rfl, rfl, rfl, rfl, rfl, trivial⟩ ⟨rfl, trivial⟩
        apply Dag.old (i := 4)
        case ha => rfl
        case ho => rfl
        case hb => rfl
        case hE =>
          intro w9
          refine AWl.put (R_sub rfl (.no rfl) rfl (.tmp rfl fun _ => rfl) (.const rfl) (fun _ => by omega)) rfl ?_
          refine AWl.nil ?_
          exact Le.sub0 rfl ⟨rfl, rfl, rfl, rfl, rfl, rfl, rfl, rfl, rfl, trivial⟩ ⟨rfl, trivial⟩
        apply Dag.new (i := 7)
        case ha => rfl
        case ho => rfl
        case hb => rfl
        case hE =>
          intro w9
          refine AWl.put (R_conv rfl (.no rfl) rfl (.tmp rfl fun _ => rfl) (by rw [Tryd.underlying5]; rfl) Tryd.underlying3 (fun _ => (show IntKind.i64.wrap (b.toNat : Int) = (b.toNat : Int) by simp [IntKind.wrap, IntKind.bits]; omega))) rfl ?_
          refine AWl.nil ?_
          exact Le.sub0 (σ' := ⟨_, [(0, _), (4, _), (6, _), (12, _), (13, _), (14, _), (21, _), (24, _), (28, _)], [(7, _)]⟩) rfl ⟨rfl, rfl, rfl, rfl, rfl, rfl, rfl, rfl, rfl, trivial⟩ ⟨rfl, trivial⟩
        apply Dag.old (i := 0)
        case ha => rfl
        case ho => rfl
        case hb => rfl
        case hE =>
          intro w9
          refine AWl.put (R_move rfl (.no rfl) rfl (.tmp rfl fun _ => rfl)) rfl ?_
          refine AWl.nil ?_
          exact Le.sub0 rfl ⟨rfl, rfl, rfl, rfl, rfl, rfl, rfl, rfl, rfl, trivial⟩ ⟨rfl, trivial⟩
        apply Dag.old (i := 3)
        case ha => rfl
        case ho => rfl
        case hb => rfl
        case hE =>
          intro w9
          refine AWl.put (R_conv rfl (.no rfl) rfl (.tmp rfl fun _ => rfl) (by rw [Tryd.underlying5]; rfl) Tryd.underlying3 (fun _ => (show IntKind.i64.wrap (a.toNat : Int) = (a.toNat : Int) by simp [IntKind.wrap, IntKind.bits]; omega))) rfl ?_
          refine AWl.nil ?_
          exact Le.sub0 rfl ⟨rfl, rfl, rfl, rfl, rfl, rfl, rfl, rfl, rfl, trivial⟩ ⟨rfl, trivial⟩
        apply Dag.new (i := 8)
        case ha => rfl
        case ho => rfl
        case hb => rfl
        case hE =>
          intro w9
          refine AWl.put (R_sub rfl (.no rfl) rfl (.tmp rfl fun _ => rfl) (.const rfl) (fun _ => by omega)) rfl ?_
          refine AWl.nil ?_
          exact Le.sub0 (σ' := ⟨_, [(0, _), (4, _), (6, _), (12, _), (13, _), (14, _), (21, _), (23, _), (29, _)], [(7, _)]⟩) rfl ⟨rfl, rfl, rfl, rfl, rfl, rfl, rfl, rfl, rfl, trivial⟩ ⟨rfl, trivial⟩
        apply Dag.old (i := 0)
        case ha => rfl
        case ho => rfl
        case hb => rfl
        case hE =>
          intro w9
          refine AWl.put (R_move rfl (.no rfl) rfl (.tmp rfl fun _ => rfl)) rfl ?_
          refine AWl.nil ?_
          exact Le.sub0 rfl ⟨rfl, rfl, rfl, rfl, rfl, rfl, rfl, rfl, rfl, trivial⟩ ⟨rfl, trivial⟩
        apply Dag.old (i := 2)
        case ha => rfl
        case ho => rfl
        case hb => rfl
        case hE =>
          intro w9
          refine AWl.put (R_strIndex rfl (.no rfl) rfl (.tmp rfl fun _ => rfl) (.const rfl) Tryd.underlying9 (fun _ => ⟨by omega, (by rw [bs_get, hab]; rfl)⟩)) rfl ?_
          refine AWl.nil ?_
          exact Le.sub0 rfl ⟨rfl, rfl, rfl, rfl, rfl, rfl, rfl, rfl, rfl, trivial⟩ ⟨rfl, trivial⟩
        apply Dag.new (i := 7)
        case ha => rfl
        case ho => rfl
        case hb => rfl
        case hE =>
          intro w9
          refine AWl.put (R_conv rfl (.no rfl) rfl (.tmp rfl fun _ => rfl) (by rw [Tryd.underlying5]; rfl) Tryd.underlying3 (fun _ => (show IntKind.i64.wrap (b.toNat : Int) = (b.toNat : Int) by simp [IntKind.wrap, IntKind.bits]; omega))) rfl ?_
          refine AWl.nil ?_
          exact Le.sub0 (σ' := ⟨_, [(0, _), (4, _), (6, _), (12, _), (13, _), (14, _), (25, _), (28, _)], [(7, _)]⟩) rfl ⟨rfl, rfl, rfl, rfl, rfl, rfl, rfl, rfl, trivial⟩ ⟨rfl, trivial⟩
        apply Dag.old (i := 4)
        case ha => rfl
        case ho => rfl
        case hb => rfl
        case hE =>
          intro w9
          refine AWl.put (R_sub rfl (.no rfl) rfl (.tmp rfl fun _ => rfl) (.const rfl) (fun _ => by omega)) rfl ?_
          refine AWl.nil ?_
          exact Le.sub0 rfl ⟨rfl, rfl, rfl, rfl, rfl, rfl, rfl, rfl, trivial⟩ ⟨rfl, trivial⟩
        apply Dag.new (i := 8)
        case ha => rfl
        case ho => rfl
        case hb => rfl
        case hE =>
          intro w9
          refine AWl.put (R_sub rfl (.no rfl) rfl (.tmp rfl fun _ => rfl) (.const rfl) (fun _ => by omega)) rfl ?_
          refine AWl.nil ?_
          exact Le.sub0 (σ' := ⟨_, [(0, _), (4, _), (6, _), (12, _), (13, _), (14, _), (24, _), (29, _)], [(7, _)]⟩) rfl ⟨rfl, rfl, rfl, rfl, rfl, rfl, rfl, rfl, trivial⟩ ⟨rfl, trivial⟩
        apply Dag.old (i := 3)
        case ha => rfl
        case ho => rfl
        case hb => rfl
        case hE =>
          intro w9
          refine AWl.put (R_conv rfl (.no rfl) rfl (.tmp rfl fun _ => rfl) (by rw [Tryd.underlying5]; rfl) Tryd.underlying3 (fun _ => (show IntKind.i64.wrap (a.toNat : Int) = (a.toNat : Int) by simp [IntKind.wrap, IntKind.bits]; omega))) rfl ?_
          refine AWl.nil ?_
          exact Le.sub0 rfl ⟨rfl, rfl, rfl, rfl, rfl, rfl, rfl, rfl, trivial⟩ ⟨rfl, trivial⟩
        apply Dag.new (i := 7)
        case ha => rfl
        case ho => rfl
        case hb => rfl
        case hE =>
          intro w9
          refine AWl.put (R_conv rfl (.no rfl) rfl (.tmp rfl fun _ => rfl) (by rw [Tryd.underlying5]; rfl) Tryd.underlying3 (fun _ => (show IntKind.i64.wrap (b.toNat : Int) = (b.toNat : Int) by simp [IntKind.wrap, IntKind.bits]; omega))) rfl ?_
          refine AWl.nil ?_
          exact Le.sub0 (σ' := ⟨_, [(0, _), (4, _), (6, _), (12, _), (13, _), (14, _), (21, _), (25, _), (28, _)], [(7, _)]⟩) rfl ⟨rfl, rfl, rfl, rfl, rfl, rfl, rfl, rfl, rfl, trivial⟩ ⟨rfl, trivial⟩
        apply Dag.old (i := 0)
        case ha => rfl
        case ho => rfl
        case hb => rfl
        case hE =>
          intro w9
          refine AWl.put (R_move rfl (.no rfl) rfl (.tmp rfl fun _ => rfl)) rfl ?_
          refine AWl.nil ?_
          exact Le.sub0 rfl ⟨rfl, rfl, rfl, rfl, rfl, rfl, rfl, rfl, rfl, trivial⟩ ⟨rfl, trivial⟩
        apply Dag.old (i := 4)
        case ha => rfl
        case ho => rfl
        case hb => rfl
        case hE =>
          intro w9
          refine AWl.put (R_sub rfl (.no rfl) rfl (.tmp rfl fun _ => rfl) (.const rfl) (fun _ => by omega)) rfl ?_
          refine AWl.nil ?_
          exact Le.sub0 rfl ⟨rfl, rfl, rfl, rfl, rfl, rfl, rfl, rfl, rfl, trivial⟩ ⟨rfl, trivial⟩
        apply Dag.new (i := 8)
        case ha => rfl
        case ho => rfl
        case hb => rfl
        case hE =>
          intro w9
          refine AWl.put (R_sub rfl (.no rfl) rfl (.tmp rfl fun _ => rfl) (.const rfl) (fun _ => by omega)) rfl ?_
          refine AWl.nil ?_
          exact Le.sub0 (σ' := ⟨_, [(0, _), (4, _), (6, _), (12, _), (13, _), (14, _), (21, _), (24, _), (29, _)], [(7, _)]⟩) rfl ⟨rfl, rfl, rfl, rfl, rfl, rfl, rfl, rfl, rfl, trivial⟩ ⟨rfl, trivial⟩
        apply Dag.old (i := 0)
        case ha => rfl
        case ho => rfl
        case hb => rfl
        case hE =>
          intro w9
          refine AWl.put (R_move rfl (.no rfl) rfl (.tmp rfl fun _ => rfl)) rfl ?_
          refine AWl.nil ?_
          exact Le.sub0 rfl ⟨rfl, rfl, rfl, rfl, rfl, rfl, rfl, rfl, rfl, trivial⟩ ⟨rfl, trivial⟩
        apply Dag.old (i := 3)
        case ha => rfl
        case ho => rfl
        case hb => rfl
        case hE =>
          intro w9
          refine AWl.put (R_conv rfl (.no rfl) rfl (.tmp rfl fun _ => rfl) (by rw [Tryd.underlying5]; rfl) Tryd.underlying3 (fun _ => (show IntKind.i64.wrap (a.toNat : Int) = (a.toNat : Int) by simp [IntKind.wrap, IntKind.bits]; omega))) rfl ?_
          refine AWl.nil ?_
          exact Le.sub0 rfl ⟨rfl, rfl, rfl, rfl, rfl, rfl, rfl, rfl, rfl, trivial⟩ ⟨rfl, trivial⟩
        apply Dag.new (i := 8)
        case ha => rfl
        case ho => rfl
        case hb => rfl
        case hE =>
          intro w9
          refine AWl.put (R_sub rfl (.no rfl) rfl (.tmp rfl fun _ => rfl) (.const rfl) (fun _ => by omega)) rfl ?_
          refine AWl.nil ?_
          exact Le.sub0 (σ' := ⟨_, [(0, _), (4, _), (6, _), (12, _), (13, _), (14, _), (25, _), (29, _)], [(7, _)]⟩) rfl ⟨rfl, rfl, rfl, rfl, rfl, rfl, rfl, rfl, trivial⟩ ⟨rfl, trivial⟩
        apply Dag.old (i := 4)
        case ha => rfl
        case ho => rfl
        case hb => rfl
        case hE =>
          intro w9
          refine AWl.put (R_sub rfl (.no rfl) rfl (.tmp rfl fun _ => rfl) (.const rfl) (fun _ => by omega)) rfl ?_
          refine AWl.nil ?_
          exact Le.sub0 rfl ⟨rfl, rfl, rfl, rfl, rfl, rfl, rfl, rfl, trivial⟩ ⟨rfl, trivial⟩
        apply Dag.new (i := 8)
        case ha => rfl
        case ho => rfl
        case hb => rfl
        case hE =>
          intro w9
          refine AWl.put (R_sub rfl (.no rfl) rfl (.tmp rfl fun _ => rfl) (.const rfl) (fun _ => by omega)) rfl ?_
          refine AWl.nil ?_
          exact Le.sub0 (σ' := ⟨_, [(0, _), (4, _), (6, _), (12, _), (13, _), (14, _), (21, _), (25, _), (29, _)], [(7, _)]⟩) rfl ⟨rfl, rfl, rfl, rfl, rfl, rfl, rfl, rfl, rfl, trivial⟩ ⟨rfl, trivial⟩
        apply Dag.old (i := 0)
        case ha => rfl
        case ho => rfl
        case hb => rfl
        case hE =>
          intro w9
          refine AWl.put (R_move rfl (.no rfl) rfl (.tmp rfl fun _ => rfl)) rfl ?_
          refine AWl.nil ?_
          exact Le.sub0 rfl ⟨rfl, rfl, rfl, rfl, rfl, rfl, rfl, rfl, rfl, trivial⟩ ⟨rfl, trivial⟩
        apply Dag.old (i := 4)
        case ha => rfl
        case ho => rfl
        case hb => rfl
        case hE =>
          intro w9
          refine AWl.put (R_sub rfl (.no rfl) rfl (.tmp rfl fun _ => rfl) (.const rfl) (fun _ => by omega)) rfl ?_
          refine AWl.nil ?_
          exact Le.sub0 rfl ⟨rfl, rfl, rfl, rfl, rfl, rfl, rfl, rfl, rfl, trivial⟩ ⟨rfl, trivial⟩
        apply Dag.new (i := 9)
        case ha => rfl
        case ho => rfl
        case hb => rfl
        case hE =>
          intro w9
          refine AWl.put (R_build (ps := [(0, .tmp 25), (1, .tmp 29)]) rfl rfl rfl in90 rfl rfl st90 (.cons (.tmp rfl fun _ => rfl) rfl rfl fp90_0 (.cons (.tmp rfl fun _ => rfl) rfl rfl fp90_1 .nil)) rfl) rfl ?_
          refine AWl.nil ?_
          exact Le.sub0 (σ' := ⟨_, [(0, _), (4, _), (6, _), (12, _), (13, _), (14, _), (30, _)], [(7, _)]⟩) rfl ⟨rfl, rfl, rfl, rfl, rfl, rfl, rfl, trivial⟩ ⟨rfl, trivial⟩
        apply Dag.new (i := 9)
        case ha => rfl
        case ho => rfl
        case hb => rfl
        case hE =>
          intro w9
          refine AWl.put (R_build (ps := [(0, .tmp 25), (1, .tmp 29)]) rfl rfl rfl in90 rfl rfl st90 (.cons (.tmp rfl fun _ => rfl) rfl rfl fp90_0 (.cons (.tmp rfl fun _ => rfl) rfl rfl fp90_1 .nil)) rfl) rfl ?_
          refine AWl.nil ?_
          exact Le.sub0 (σ' := ⟨_, [(0, _), (4, _), (6, _), (12, _), (13, _), (14, _), (21, _), (30, _)], [(7, _)]⟩) rfl ⟨rfl, rfl, rfl, rfl, rfl, rfl, rfl, rfl, trivial⟩ ⟨rfl, trivial⟩
        apply Dag.old (i := 0)
        case ha => rfl
        case ho => rfl
        case hb => rfl
        case hE =>
          intro w9
          refine AWl.put (R_move rfl (.no rfl) rfl (.tmp rfl fun _ => rfl)) rfl ?_
          refine AWl.nil ?_
          exact Le.sub0 rfl ⟨rfl, rfl, rfl, rfl, rfl, rfl, rfl, rfl, trivial⟩ ⟨rfl, trivial⟩
        apply Dag.new (i := 10)
        case ha => rfl
        case ho => rfl
        case hb => rfl
        case hE =>
          intro w9
          refine AWl.absadd (R_list (xs := [.tmp 30]) 31 rfl rfl rfl (.cons (.tmp rfl fun _ => rfl) rfl rfl .nil) Tryd.underlying33 in90 rfl rfl rfl rfl) rfl ?_
          refine AWl.nil ?_
          exact Le.sub0 (σ' := ⟨_, [(0, _), (4, _), (6, _), (12, _), (13, _), (14, _), (31, _)], [(7, _), (31, _)]⟩) rfl ⟨rfl, rfl, rfl, rfl, rfl, rfl, rfl, trivial⟩ ⟨rfl, rfl, trivial⟩
        apply Dag.new (i := 10)
        case ha => rfl
        case ho => rfl
        case hb => rfl
        case hE =>
          intro w9
          refine AWl.absadd (R_list (xs := [.tmp 30]) 31 rfl rfl rfl (.cons (.tmp rfl fun _ => rfl) rfl rfl .nil) Tryd.underlying33 in90 rfl rfl rfl rfl) rfl ?_
          refine AWl.nil ?_
          exact Le.sub0 (σ' := ⟨_, [(0, _), (4, _), (6, _), (12, _), (13, _), (14, _), (21, _), (31, _)], [(7, _), (31, _)]⟩) rfl ⟨rfl, rfl, rfl, rfl, rfl, rfl, rfl, rfl, trivial⟩ ⟨rfl, rfl, trivial⟩
        apply Dag.old (i := 0)
        case ha => rfl
        case ho => rfl
        case hb => rfl
        case hE =>
          intro w9
          refine AWl.put (R_move rfl (.no rfl) rfl (.tmp rfl fun _ => rfl)) rfl ?_
          refine AWl.nil ?_
          exact Le.sub0 rfl ⟨rfl, rfl, rfl, rfl, rfl, rfl, rfl, rfl, trivial⟩ ⟨rfl, rfl, trivial⟩
        apply Dag.new (i := 11)
        case ha => rfl
        case ho => rfl
        case hb => rfl
        case hE =>
          intro w9
          refine AWl.chgput (R_append rfl rfl rfl (.tmp rfl fun _ => rfl) rfl (.tmp rfl fun _ => rfl) (by first | exact .t | exact .rf rfl | exact .vw | exact .nil) (by first | rfl | exact isV_map (fun _ => rfl) _ | exact isV_part (fun _ => rfl) _ _ _) Tryd.underlying33 in90 rfl (by first | omega | (simp [chunk]; omega) | (simp only [List.length_map, List.length_append, List.length_cons, List.length_nil, chunk]; omega)) (by first | omega | (unfold maxLen; omega) | (unfold maxLen; simp [chunk]; omega) | (unfold maxLen; simp only [List.length_map, List.length_append, List.length_cons, List.length_nil, chunk]; omega))) rfl ?_
          refine AWl.nil ?_
          exact Le.sub0 (σ' := ⟨_, [(0, _), (4, _), (6, _), (12, _), (13, _), (14, _), (32, _)], [(7, _), (31, _)]⟩) rfl ⟨rfl, rfl, rfl, rfl, rfl, rfl, rfl, trivial⟩ ⟨rfl, rfl, trivial⟩
        apply Dag.new (i := 12)
        case ha => rfl
        case ho => rfl
        case hb => rfl
        case hE =>
          intro w9
          refine AWl.put (R_assign rfl (.no rfl) rfl (.tmp rfl fun _ => rfl)) rfl ?_
          refine AWl.nil ?_
          exact Le.sub0 (σ' := ⟨_, [(0, _), (4, _), (6, _), (12, _), (13, _), (14, _)], [(7, _), (31, _)]⟩) rfl ⟨rfl, rfl, rfl, rfl, rfl, rfl, trivial⟩ ⟨rfl, rfl, trivial⟩
        refine Dag.fin (k := 55) rfl ?_
        refine AWl.nil ?_
        refine AW.region ?_
        refine AWl.put (R_add rfl (.no rfl) rfl (.tmp rfl fun _ => rfl) (.const rfl) (fun _ => by omega)) rfl ?_
        refine AWl.put (R_move rfl (.no rfl) rfl (.tmp rfl fun _ => rfl)) rfl ?_
        refine AWl.nil ?_
        repeat (with_reducible refine BlockQ.nor ?_)
        refine Round1.next (k + 1) ⟨⟨by omega, all2_more hk.2 hx h2⟩, trivial⟩ (by omega) (Le.sub0 rfl ⟨rfl, rfl, rfl, rfl, rfl, trivial⟩ ⟨(by refine congrArg (fun r => some (R.row 2 r)) ?_; rw [take_at hx, hab]; simp [chunk, cPair, toP]; done), trivial⟩)
    · skip
      try simp at h15
      refine AW.exit ?_
      refine AW.seq ?_
      refine AW.seq ?_
      refine AW.le (σ' := ⟨_, [(0, _), (4, _), (12, _), (13, _), (14, _)], [(7, .row 2 (((splitL 32 l).map toP).map cPair))]⟩) (Le.sub0 rfl ⟨rfl, rfl, rfl, rfl, rfl, trivial⟩ ⟨by rw [List.take_of_length_le (l := splitL 32 l) (by omega)]; rfl, trivial⟩) ?_
      refine AW.region ?_
      refine AWl.put (R_move rfl (.no rfl) rfl (.tmp rfl fun _ => rfl)) rfl ?_
      refine AWl.put (R_callz (FnT.fr (implFormatPairs ((splitL 32 l).map toP) (by rw [List.length_map]; omega))) rfl (.no rfl) rfl (.cons (.tmp rfl fun _ => rfl) rfl .nil)) rfl ?_
      refine AWl.put (R_move rfl (.no rfl) rfl (.tmp rfl fun _ => rfl)) rfl ?_
      refine AWl.put (R_nestr rfl (.no rfl) rfl (.tmp rfl fun _ => rfl) (.tmp rfl fun _ => rfl)) rfl ?_
      refine AWl.nil ?_
      refine AW.cond (.tmp rfl fun _ => rfl) (fun h37 => ?_) (fun h37 => ?_)
      · skip
        try simp at h37
        refine AW.seq ?_
        refine AW.region ?_
        refine AWl.put (R_assign rfl (.no rfl) rfl (.const rfl)) rfl ?_
        refine AWl.nilS (i := 2) 20003 2 rfl rfl ?_
        refine AWl.put (R_assign rfl (.no rfl) rfl (.const rfl)) rfl ?_
        refine AWl.nil ?_
        refine AW.ret ?_
        refine Res.many rfl (.tmp rfl (.tmp rfl .nil)) rfl ?_ (by simp)
        have hall := all2_all hk.2 (by omega); cases hap : arePairs ((splitL 32 l).map toP) with | true => exact absurd (congrArg bs (read_back hall hap)) (by simpa using h37) | false => rw [parseP_nap hne hap]; rfl
      · skip
        try simp at h37
        refine AW.skip ?_
        refine AW.seq ?_
        refine AW.region ?_
        refine AWl.put (R_move rfl (.no rfl) rfl (.tmp rfl fun _ => rfl)) rfl ?_
        refine AWl.put (R_assign rfl (.no rfl) rfl (.tmp rfl fun _ => rfl)) rfl ?_
        refine AWl.put (R_assign rfl (.no rfl) rfl (.const rfl)) rfl ?_
        refine AWl.nil ?_
        refine AW.ret ?_
        refine Res.many rfl (.tmp rfl (.tmp rfl .nil)) rfl ?_ (by simp)
        have hall := all2_all hk.2 (by omega); cases hap : arePairs ((splitL 32 l).map toP) with | true => rw [parseP_yes hne hall hap]; rfl | false => exact absurd (bs_inj (by simpa using h37)) (read_not hall hap)
end Go.Proofs.YtibjbmjgmfiecaaDoor
