/- Numbers, pieces, checksums, pairs and deltas, written and read: both texts. -/
import Derived.Test.YtoealglkenhphaaGreatDoorB81xa
import Derived.Test.YtoealglkenhphaaGreatDoorB77xa
set_option linter.unusedVariables false
set_option linter.unusedSimpArgs false
set_option maxHeartbeats 1000000
set_option maxRecDepth 100000
namespace Go.Proofs.YtoealglkenhphaaGreatDoor
open Go.RowKit Go.Q Go.D
theorem specl2Cut (l : List UInt8) (c : UInt8) (hz : l.length ≤ 1073741824) : FnT Tryz.prog 9 [.one (.v (.string (bs l))), .one (.v (.int .u8 c.toNat))] (.a (.one (.sl 1 ((splitL c l).map cStr)))) := by
  refine FnT.walk Tryz.func9 rfl (by kernel_rfl) Tryz.ntmps9 rfl fun hlen w0 => ?_
  try simp [cPair, cToken, cExpr, cEdge, cGraph, cStep, cWalk, cChange, cBatch, cHistory, cPositions, cAutomaton, cProductStep, cPathAtom, cConjunction, cView, cDelta, cRegistered, cRegistry] at hlen
  have hsz := bs_size l
  refine AW.seq ?_
  refine AW.region ?_
  refine AWl.put (R_assign rfl (.no rfl) rfl (.const rfl)) rfl ?_
  refine AWl.nilS (i := 4) 20001 1 rfl rfl ?_
  refine AWl.nil ?_
  refine AW.seq ?_
  refine AW.region ?_
  refine AWl.add (R_empty 8 rfl rfl rfl Tryz.underlying30 ty9 rfl) rfl ?_
  refine AWl.put (R_assign rfl (.no rfl) rfl (.tmp rfl fun _ => rfl)) rfl ?_
  refine AWl.nil ?_
  refine AW.seq ?_
  refine AW.region ?_
  refine AWl.put (R_assign rfl (.no rfl) rfl (.const rfl)) rfl ?_
  refine AWl.nil ?_
  refine AW.seq ?_
  refine AW.seq ?_
  refine AW.region ?_
  refine AWl.put (R_assign rfl (.no rfl) rfl (.const rfl)) rfl ?_
  refine AWl.nil ?_
  refine AW.block ?_
  refine AW.loop3 (fun (i : Nat) (F : Nat) (O : List (List UInt8)) => (F ≤ i ∧ i ≤ l.length ∧ c ∉ (l.take i).drop F ∧ O.length ≤ i) ∧ splitL c l = O ++ splitL c (l.drop F)) (fun (i : Nat) (F : Nat) (O : List (List UInt8)) => ⟨_, [(6, (true, .a (.one (.t (.v (.int .i64 F)))))), (7, (true, .a (.one (.t (.v (.int .i64 i)))))), (5, (true, .a (.one (.rf 8)))), (0, _), (1, _), (4, _)], [(8, .row 1 (O.map cStr))]⟩) (fun (i : Nat) (F : Nat) (O : List (List UInt8)) => l.length - i) (0) (0) ([]) ⟨⟨by omega, by omega, by simp, by simp⟩, (by simp)⟩ (Le.sub0 rfl ⟨rfl, rfl, rfl, rfl, rfl, rfl, trivial⟩ ⟨rfl, trivial⟩) ?_
  rintro i F O ⟨hk, he⟩
  refine AW.seq ?_
  refine AW.seq ?_
  refine AW.region ?_
  refine AWl.put (R_move rfl (.no rfl) rfl (.tmp rfl fun _ => rfl)) rfl ?_
  refine AWl.put (R_move rfl (.no rfl) rfl (.tmp rfl fun _ => rfl)) rfl ?_
  refine AWl.put (R_len_s rfl (.no rfl) rfl (.tmp rfl fun _ => rfl) Tryz.underlying9) rfl ?_
  refine AWl.put (R_lt rfl (.no rfl) rfl (.tmp rfl fun _ => rfl) (.tmp rfl fun _ => rfl)) rfl ?_
  refine AWl.nil ?_
  refine AW.cond (.tmp rfl fun _ => rfl) (fun h12 => ?_) (fun h12 => ?_)
  · skip
    try simp at h12
    obtain ⟨b, hb⟩ : ∃ ξ, l[i]? = some ξ := ⟨_, List.getElem?_eq_getElem (by omega)⟩
    refine AW.skip ?_
    refine AW.seq ?_
    refine AW.block ?_
    refine AW.seq ?_
    refine AW.region ?_
    refine AWl.put (R_move rfl (.no rfl) rfl (.tmp rfl fun _ => rfl)) rfl ?_
    refine AWl.put (R_move rfl (.no rfl) rfl (.tmp rfl fun _ => rfl)) rfl ?_
    refine AWl.put (R_strIndex rfl (.no rfl) rfl (.tmp rfl fun _ => rfl) (.tmp rfl fun _ => rfl) Tryz.underlying9 (fun _ => ⟨by omega, (by rw [bs_get]; exact hb)⟩)) rfl ?_
    refine AWl.put (R_move rfl (.no rfl) rfl (.tmp rfl fun _ => rfl)) rfl ?_
    refine AWl.put (R_eq rfl (.no rfl) rfl (.tmp rfl fun _ => rfl) (.tmp rfl fun _ => rfl)) rfl ?_
    refine AWl.nil ?_
    refine AW.cond (.tmp rfl fun _ => rfl) (fun h19 => ?_) (fun h19 => ?_)
    · skip
      try simp at h19
      refine AW.seq ?_
      refine AW.le (σ' := ⟨_, [(0, _), (1, _), (4, _), (5, _), (6, _), (7, _)], [(8, _)]⟩) (Le.sub0 rfl ⟨rfl, rfl, rfl, rfl, rfl, rfl, trivial⟩ ⟨rfl, trivial⟩) ?_
      refine AW.region ?_
      refine AWl.put (R_move rfl (.no rfl) rfl (.tmp rfl fun _ => rfl)) rfl ?_
      refine AWl.put (R_move rfl (.no rfl) rfl (.tmp rfl fun _ => rfl)) rfl ?_
      refine AWl.put (R_move rfl (.no rfl) rfl (.tmp rfl fun _ => rfl)) rfl ?_
      refine AWl.put (R_move rfl (.no rfl) rfl (.tmp rfl fun _ => rfl)) rfl ?_
      refine AWl.put (R_strSlice (n := F) (m := i) rfl (.no rfl) rfl (.tmp rfl fun _ => rfl) (.yes (.tmp rfl fun _ => rfl) (fun _ => by first | omega | (simp <;> omega))) (.yes (.tmp rfl fun _ => rfl) (fun _ => by first | omega | (simp <;> omega))) Tryz.underlying9 (fun _ => ⟨by omega, by first | omega | (simp; omega)⟩)) rfl ?_
      refine AWl.absadd (R_list (xs := [.tmp 24]) 25 rfl rfl rfl (.cons (.tmp rfl fun _ => rfl) rfl rfl .nil) Tryz.underlying30 in9 rfl rfl rfl rfl) rfl ?_
      refine AWl.chgput (R_append rfl rfl rfl (.tmp rfl fun _ => rfl) rfl (.tmp rfl fun _ => rfl) (by first | exact .t | exact .rf rfl | exact .vw | exact .nil) (by first | rfl | exact isV_map (fun _ => rfl) _ | exact isV_part (fun _ => rfl) _ _ _) Tryz.underlying30 in9 rfl (by first | omega | (simp [chunk]; omega) | (simp only [List.length_map, List.length_append, List.length_cons, List.length_nil, chunk]; omega)) (by first | omega | (unfold maxLen; omega) | (unfold maxLen; simp [chunk]; omega) | (unfold maxLen; simp only [List.length_map, List.length_append, List.length_cons, List.length_nil, chunk]; omega))) rfl ?_
      refine AWl.le (σ' := ⟨_, [(0, _), (1, _), (4, _), (5, _), (6, _), (7, _), (26, _)], [(8, _), (25, _)]⟩) (Le.sub0 rfl ⟨rfl, rfl, rfl, rfl, rfl, rfl, rfl, trivial⟩ ⟨rfl, rfl, trivial⟩) ?_
      refine AWl.put (R_assign rfl (.no rfl) rfl (.tmp rfl fun _ => rfl)) rfl ?_
      refine AWl.nil ?_
      refine AW.region ?_
      refine AWl.put (R_move rfl (.no rfl) rfl (.tmp rfl fun _ => rfl)) rfl ?_
      refine AWl.put (R_add rfl (.no rfl) rfl (.tmp rfl fun _ => rfl) (.const rfl) (fun _ => by omega)) rfl ?_
      refine AWl.put (R_assign rfl (.no rfl) rfl (.tmp rfl fun _ => rfl)) rfl ?_
      refine AWl.nil ?_
      refine AW.region ?_
      refine AWl.put (R_move rfl (.no rfl) rfl (.tmp rfl fun _ => rfl)) rfl ?_
      refine AWl.put (R_add rfl (.no rfl) rfl (.tmp rfl fun _ => rfl) (.const rfl) (fun _ => by omega)) rfl ?_
      refine AWl.put (R_assign rfl (.no rfl) rfl (.tmp rfl fun _ => rfl)) rfl ?_
      refine AWl.nil ?_
      repeat (with_reducible refine BlockQ.nor ?_)
      refine Round3.next (i + 1) (i + 1) (O ++ [(l.take i).drop F]) ⟨⟨by omega, by omega, (by simp), (by rw [List.length_append, List.length_singleton]; omega)⟩, (cut_step hb hk (UInt8.toNat_inj.1 (by omega)) he)⟩ (by omega) (Le.sub0 rfl ⟨rfl, rfl, rfl, rfl, rfl, rfl, trivial⟩ ⟨(by refine congrArg (fun r => some (R.row 1 r)) ?_; simp [chunk, cStr, bs_extract]; done), trivial⟩)
    · skip
      try simp at h19
      refine AW.skip ?_
      refine AW.le (σ' := ⟨_, [(0, _), (1, _), (4, _), (5, _), (6, _), (7, _)], [(8, _)]⟩) (Le.sub0 rfl ⟨rfl, rfl, rfl, rfl, rfl, rfl, trivial⟩ ⟨rfl, trivial⟩) ?_
      refine AW.region ?_
      refine AWl.put (R_move rfl (.no rfl) rfl (.tmp rfl fun _ => rfl)) rfl ?_
      refine AWl.put (R_add rfl (.no rfl) rfl (.tmp rfl fun _ => rfl) (.const rfl) (fun _ => by omega)) rfl ?_
      refine AWl.put (R_assign rfl (.no rfl) rfl (.tmp rfl fun _ => rfl)) rfl ?_
      refine AWl.nil ?_
      repeat (with_reducible refine BlockQ.nor ?_)
      refine Round3.next (i + 1) (F) (O) ⟨⟨by omega, by omega, cut_keep hb hk (fun e => h19 (by rw [e])), by omega⟩, he⟩ (by omega) (Le.sub0 rfl ⟨rfl, rfl, rfl, rfl, rfl, rfl, trivial⟩ ⟨(by refine congrArg (fun r => some (R.row 1 r)) ?_; simp [chunk, cStr, bs_extract]; done), trivial⟩)
  · skip
    try simp at h12
    refine AW.exit ?_
    refine AW.seq ?_
    refine AW.region ?_
    refine AWl.put (R_move rfl (.no rfl) rfl (.tmp rfl fun _ => rfl)) rfl ?_
    refine AWl.put (R_move rfl (.no rfl) rfl (.tmp rfl fun _ => rfl)) rfl ?_
    refine AWl.put (R_move rfl (.no rfl) rfl (.tmp rfl fun _ => rfl)) rfl ?_
    refine AWl.put (R_strSlice (n := F) rfl (.no rfl) rfl (.tmp rfl fun _ => rfl) (.yes (.tmp rfl fun _ => rfl) (fun _ => by first | omega | (simp <;> omega))) .no Tryz.underlying9 (fun _ => ⟨by omega, by first | omega | (simp; omega)⟩)) rfl ?_
    refine AWl.absadd (R_list (xs := [.tmp 32]) 33 rfl rfl rfl (.cons (.tmp rfl fun _ => rfl) rfl rfl .nil) Tryz.underlying30 in9 rfl rfl rfl rfl) rfl ?_
    refine AWl.chgput (R_append rfl rfl rfl (.tmp rfl fun _ => rfl) rfl (.tmp rfl fun _ => rfl) (by first | exact .t | exact .rf rfl | exact .vw | exact .nil) (by first | rfl | exact isV_map (fun _ => rfl) _ | exact isV_part (fun _ => rfl) _ _ _) Tryz.underlying30 in9 rfl (by first | omega | (simp [chunk]; omega) | (simp only [List.length_map, List.length_append, List.length_cons, List.length_nil, chunk]; omega)) (by first | omega | (unfold maxLen; omega) | (unfold maxLen; simp [chunk]; omega) | (unfold maxLen; simp only [List.length_map, List.length_append, List.length_cons, List.length_nil, chunk]; omega))) rfl ?_
    refine AWl.le (σ' := ⟨_, [(0, _), (1, _), (4, _), (5, _), (6, _), (7, _), (12, _), (34, _)], [(8, _), (33, _)]⟩) (Le.sub0 rfl ⟨rfl, rfl, rfl, rfl, rfl, rfl, rfl, rfl, trivial⟩ ⟨rfl, rfl, trivial⟩) ?_
    refine AWl.put (R_assign rfl (.no rfl) rfl (.tmp rfl fun _ => rfl)) rfl ?_
    refine AWl.nil ?_
    refine AW.ret ?_
    refine Res.one rfl (.tmp rfl .nil) rfl ?_
    (have hi : i = l.length := (by omega); subst hi; rw [he, splitL_no (by rw [List.take_of_length_le (Nat.le_refl _)] at hk; exact hk.2.2.1)]; refine congrArg (fun r => [V0.one (T.sl 1 r)]) ?_; simp [chunk, cStr, bs_extract, hsz]; done)
end Go.Proofs.YtoealglkenhphaaGreatDoor
