/- Shortest words: both texts. -/
import Derived.Test.YtjnekafkdellkaaTr2
set_option linter.unusedVariables false
set_option linter.unusedSimpArgs false
set_option maxHeartbeats 1000000
set_option maxRecDepth 100000
namespace Go.Q
open Go.D
def shortG (k low : Int) : List Int → Int
  | [] => if k = 3 then 1 else if k = 2 then 0 else -1
  | [a] => if k = 6 then 0 else if low = 0 then 0 else if a < 0 then -1 else min 1000000 (a * low)
  | a :: b :: _ => if k = 4 then (if a < 0 ∨ b < 0 then -1 else min 1000000 (a + b)) else if a < 0 ∨ (0 ≤ b ∧ b < a) then b else a
def shortest : Tr → Int
  | .leaf t => shortG t.Kind t.Low []
  | .un t x => shortG t.Kind t.Low [shortest x]
  | .bin t x y => shortG t.Kind t.Low [shortest x, shortest y]
theorem shortest_eq (x : Tr) : shortest x = shortG x.tok.Kind x.tok.Low (x.kids.map shortest) := by cases x <;> rfl
theorem shortG_r {k low : Int} {l : List Int} (hl : 0 ≤ low) (h : ∀ a ∈ l, -1 ≤ a ∧ a ≤ 1000000) : -1 ≤ shortG k low l ∧ shortG k low l ≤ 1000000 := by
  match l, h with
  | [], _ => simp only [shortG]; split <;> (try split) <;> omega
  | [a], h =>
    have := h a (by simp)
    simp only [shortG]
    split
    · omega
    · split
      · omega
      · split
        · omega
        · have : 0 ≤ a * low := Int.mul_nonneg (by omega) hl
          omega
  | a :: b :: r, h =>
    have h1 := h a (by simp)
    have h2 := h b (by simp)
    simp only [shortG]
    split
    · split <;> omega
    · split <;> omega
theorem good_cases {x : Tr} (hg : good x) : 0 ≤ x.tok.Low ∧ x.tok.Low ≤ 3 ∧ ((x.kids = [] ∧ (x.tok.Kind = 1 ∨ x.tok.Kind = 2 ∨ x.tok.Kind = 3)) ∨ (∃ y, x.kids = [y] ∧ (x.tok.Kind = 6 ∨ x.tok.Kind = 7)) ∨ (∃ y z, x.kids = [y, z] ∧ (x.tok.Kind = 4 ∨ x.tok.Kind = 5))) := by
  have ha := good_arity hg
  have hk := kids_le x
  have hl : x.kids.length = 0 ∨ x.kids.length = 1 ∨ x.kids.length = 2 := by omega
  have harr : arity x.tok ≥ 0 := by omega
  have key : 0 ≤ x.tok.Low ∧ x.tok.Low ≤ 3 ∧ (arity x.tok = 0 → x.tok.Kind = 1 ∨ x.tok.Kind = 2 ∨ x.tok.Kind = 3) ∧ (arity x.tok = 1 → x.tok.Kind = 6 ∨ x.tok.Kind = 7) ∧ (arity x.tok = 2 → x.tok.Kind = 4 ∨ x.tok.Kind = 5) := by
    revert harr
    unfold arity zerT inB
    intro harr
    repeat' split at harr
    all_goals first | omega | (simp_all <;> omega)
  refine ⟨key.1, key.2.1, ?_⟩
  rcases hl with h | h | h
  · exact .inl ⟨List.eq_nil_of_length_eq_zero h, key.2.2.1 (by omega)⟩
  · obtain ⟨y, hy, _⟩ := kids_one hg (by omega)
    exact .inr (.inl ⟨y, hy, key.2.2.2.1 (by omega)⟩)
  · obtain ⟨y, z, hy, _⟩ := kids_two hg (by omega)
    exact .inr (.inr ⟨y, z, hy, key.2.2.2.2 (by omega)⟩)
theorem shortest_r : ∀ x : Tr, good x → -1 ≤ shortest x ∧ shortest x ≤ 1000000 :=
  Tr.ind fun x ih hg => by
    rw [shortest_eq]
    refine shortG_r (good_cases hg).1 fun a ha => ?_
    obtain ⟨y, hy, rfl⟩ := List.mem_map.1 ha
    exact ih y hy (good_kids hg y hy)
def shortestWord (e : TExpr) : Int := if isValidExpr e then (match treeM e.Tokens with | some x => shortest x | none => -1) else -1
theorem kind_two' {x : Tr} (hg : good x) (h : x.tok.Kind = 4 ∨ x.tok.Kind = 5) : ∃ y z, x.kids = [y, z] ∧ toks x = toks y ++ toks z ++ [x.tok] ∧ good y ∧ good z := by
  rcases (good_cases hg).2.2 with ⟨_, h1⟩ | ⟨y, _, h1⟩ | ⟨y, z, h1, _⟩
  · omega
  · omega
  · exact kids_two hg (by rw [good_arity hg, h1]; rfl)
theorem kind_one' {x : Tr} (hg : good x) (h : x.tok.Kind = 6 ∨ x.tok.Kind = 7) : ∃ y, x.kids = [y] ∧ toks x = toks y ++ [x.tok] ∧ good y := by
  rcases (good_cases hg).2.2 with ⟨_, h1⟩ | ⟨y, h1, _⟩ | ⟨y, z, _, h1⟩
  · omega
  · exact kids_one hg (by rw [good_arity hg, h1]; rfl)
  · omega
theorem kind_no' {x : Tr} (hg : good x) (h : x.tok.Kind ≠ 4 ∧ x.tok.Kind ≠ 5 ∧ x.tok.Kind ≠ 6 ∧ x.tok.Kind ≠ 7) : x.kids = [] := by
  rcases (good_cases hg).2.2 with ⟨h1, _⟩ | ⟨y, _, h1⟩ | ⟨y, z, _, h1⟩
  · exact h1
  · omega
  · omega
theorem mul_low {a low : Int} (h0 : 0 ≤ a) (h1 : a ≤ 1000000) (h2 : 0 ≤ low) (h3 : low ≤ 3) : 0 ≤ a * low ∧ a * low ≤ 3000000 :=
  ⟨Int.mul_nonneg h0 h2, Int.le_trans (Int.mul_le_mul h1 h3 h2 (by omega)) (by omega)⟩
end Go.Q
namespace Go.Proofs.Ytjnekafkdellkaa
open Go.RowKit Go.Q Go.D
theorem implshortest1 (x : Tr) (hg : good x) (ih : ∀ y ∈ x.kids, FnT Try.prog 88 [.one (.ad (treeCells y))] (.a (.one (.v (.int .i64 (shortest y)))))) : FnT Try.prog 88 [.one (.ad (treeCells x))] (.a (.one (.v (.int .i64 (shortest x))))) := by
  refine FnT.walk Try.func88 rfl (by kernel_rfl) Try.ntmps88 rfl fun hlen w0 => ?_
  try simp [cPair, cToken, cExpr, cEdge, cGraph, cStep, cWalk, cChange, cBatch, cHistory, cPositions, cAutomaton, cProductStep, cPathAtom, cConjunction, cView, cDelta, cRegistered, cRegistry] at hlen
  clear hlen; rw [treeCells_eq, shortest_eq]; obtain ⟨hlow, hlow3, -⟩ := good_cases hg
  refine AW.seq ?_
  -- region 0
  refine AW.region ?_
  refine AWl.put (R_assign rfl (.no rfl) rfl (.const rfl)) rfl ?_
  refine AWl.nil ?_
  refine AW.seq ?_
  refine AW.seq ?_
  -- region 1
  refine AW.region ?_
  refine AWl.put (R_move rfl (.no rfl) rfl (.tmp rfl fun _ => rfl)) rfl ?_
  refine AWl.put ((by first | exact R_nilCheck rfl (.no rfl) rfl (.tmp rfl fun _ => rfl) | exact R_nilCheck_pp rfl (.no rfl) rfl (.tmp rfl fun _ => rfl))) rfl ?_
  refine AWl.put ((by first | exact R_fieldAddr rfl (.no rfl) rfl (.tmp rfl fun _ => rfl) fl161_0 | exact R_fieldAddr_pp rfl (.no rfl) rfl (.tmp rfl fun _ => rfl) fl161_0 | exact R_fieldAddr_vw rfl (.no rfl) rfl (.tmp rfl fun _ => rfl) fl161_0 | exact R_fieldAddr_pr rfl (.no rfl) rfl (.tmp rfl fun _ => rfl) fl161_0)) rfl ?_
  refine AWl.put ((by first | exact R_fieldAddr rfl (.no rfl) rfl (.tmp rfl fun _ => rfl) fl154_0 | exact R_fieldAddr_pp rfl (.no rfl) rfl (.tmp rfl fun _ => rfl) fl154_0 | exact R_fieldAddr_vw rfl (.no rfl) rfl (.tmp rfl fun _ => rfl) fl154_0 | exact R_fieldAddr_pr rfl (.no rfl) rfl (.tmp rfl fun _ => rfl) fl154_0)) rfl ?_
  refine AWl.put ((by first | exact R_load rfl (.no rfl) rfl (.tmp rfl fun _ => rfl) ty3 rfl rfl | exact R_load_pp rfl (.no rfl) rfl (.tmp rfl fun _ => rfl) rfl ty3 rfl rfl | exact R_load_vw rfl (.no rfl) rfl (.tmp rfl fun _ => rfl) ty3 rfl rfl | exact R_load_pr rfl (.no rfl) rfl (.tmp rfl fun _ => rfl) rfl (by first | assumption | exact map_get (by assumption)) ty3 rfl rfl)) rfl ?_
  refine AWl.nil ?_
  refine AW.block ?_
  refine AW.seq ?_
  refine AW.seq ?_
  -- region 2
  refine AW.region ?_
  refine AWl.put (R_eq rfl (.no rfl) rfl (.tmp rfl fun _ => rfl) (.const rfl)) rfl ?_
  refine AWl.put (R_assign rfl (.no rfl) rfl (.tmp rfl fun _ => rfl)) rfl ?_
  refine AWl.nil ?_
  refine AW.cond (.tmp rfl fun _ => rfl) (fun h11 => ?_) (fun h11 => ?_)
  · skip
    try simp at h11
    refine AW.skip ?_
    refine AW.cond (.tmp rfl fun _ => rfl) (fun h11 => ?_) (fun h11 => ?_)
    · skip
      try simp at h11
      refine AW.seq ?_
      -- region 4
      refine AW.region ?_
      refine AWl.put (R_assign rfl (.no rfl) rfl (.const rfl)) rfl ?_
      refine AWl.nil ?_
      refine AW.ret ?_
      refine Res.v rfl rfl ?_
      congr 1; first | (rw [hk2]; simp only [List.map, shortG]; (repeat' split) <;> omega) | (rw [hk2, Int.mul_comm]; simp only [List.map, shortG]; (repeat' split) <;> omega) | (rw [kind_no' hg (by omega)]; simp only [List.map, shortG]; (repeat' split) <;> omega) | (obtain ⟨y, hk3, -⟩ := kind_one' hg (by omega); rw [hk3]; simp only [List.map, shortG]; (repeat' split) <;> omega) | (rcases (good_cases hg).2.2 with ⟨hk3, hk4⟩ | ⟨y, hk3, hk4⟩ | ⟨y, z, hk3, hk4⟩ <;> rw [hk3] <;> simp only [List.map, shortG] <;> (repeat' split) <;> omega)
    · exfalso; (try simp at h11); first | contradiction | omega | simp_all | grind
  · skip
    try simp at h11
    -- region 3
    refine AW.region ?_
    refine AWl.put (R_eq rfl (.no rfl) rfl (.tmp rfl fun _ => rfl) (.const rfl)) rfl ?_
    refine AWl.put (R_assign rfl (.no rfl) rfl (.tmp rfl fun _ => rfl)) rfl ?_
    refine AWl.nil ?_
    refine AW.cond (.tmp rfl fun _ => rfl) (fun h11 => ?_) (fun h11 => ?_)
    · skip
      try simp at h11
      refine AW.seq ?_
      -- region 4
      refine AW.le (σ' := ⟨_, [(0, _), (2, _), (10, _), (11, _)], []⟩) (Le.sub0 rfl ⟨rfl, rfl, rfl, rfl, trivial⟩ trivial) ?_
      refine AW.region ?_
      refine AWl.put (R_assign rfl (.no rfl) rfl (.const rfl)) rfl ?_
      refine AWl.nil ?_
      refine AW.ret ?_
      refine Res.v rfl rfl ?_
      congr 1; first | (rw [hk2]; simp only [List.map, shortG]; (repeat' split) <;> omega) | (rw [hk2, Int.mul_comm]; simp only [List.map, shortG]; (repeat' split) <;> omega) | (rw [kind_no' hg (by omega)]; simp only [List.map, shortG]; (repeat' split) <;> omega) | (obtain ⟨y, hk3, -⟩ := kind_one' hg (by omega); rw [hk3]; simp only [List.map, shortG]; (repeat' split) <;> omega) | (rcases (good_cases hg).2.2 with ⟨hk3, hk4⟩ | ⟨y, hk3, hk4⟩ | ⟨y, z, hk3, hk4⟩ <;> rw [hk3] <;> simp only [List.map, shortG] <;> (repeat' split) <;> omega)
    · skip
      try simp at h11
      refine AW.seq ?_
      -- region 5
      refine AW.le (σ' := ⟨_, [(0, _), (2, _), (10, _), (11, _)], []⟩) (Le.sub0 rfl ⟨rfl, rfl, rfl, rfl, trivial⟩ trivial) ?_
      refine AW.region ?_
      refine AWl.put (R_eq rfl (.no rfl) rfl (.tmp rfl fun _ => rfl) (.const rfl)) rfl ?_
      refine AWl.put (R_assign rfl (.no rfl) rfl (.tmp rfl fun _ => rfl)) rfl ?_
      refine AWl.nil ?_
      refine AW.cond (.tmp rfl fun _ => rfl) (fun h14 => ?_) (fun h14 => ?_)
      · skip
        try simp at h14
        refine AW.seq ?_
        -- region 6
        refine AW.region ?_
        refine AWl.put (R_assign rfl (.no rfl) rfl (.const rfl)) rfl ?_
        refine AWl.nil ?_
        refine AW.ret ?_
        refine Res.v rfl rfl ?_
        congr 1; first | (rw [hk2]; simp only [List.map, shortG]; (repeat' split) <;> omega) | (rw [hk2, Int.mul_comm]; simp only [List.map, shortG]; (repeat' split) <;> omega) | (rw [kind_no' hg (by omega)]; simp only [List.map, shortG]; (repeat' split) <;> omega) | (obtain ⟨y, hk3, -⟩ := kind_one' hg (by omega); rw [hk3]; simp only [List.map, shortG]; (repeat' split) <;> omega) | (rcases (good_cases hg).2.2 with ⟨hk3, hk4⟩ | ⟨y, hk3, hk4⟩ | ⟨y, z, hk3, hk4⟩ <;> rw [hk3] <;> simp only [List.map, shortG] <;> (repeat' split) <;> omega)
      · skip
        try simp at h14
        refine AW.seq ?_
        refine AW.seq ?_
        -- region 7
        refine AW.region ?_
        refine AWl.put (R_eq rfl (.no rfl) rfl (.tmp rfl fun _ => rfl) (.const rfl)) rfl ?_
        refine AWl.put (R_assign rfl (.no rfl) rfl (.tmp rfl fun _ => rfl)) rfl ?_
        refine AWl.nil ?_
        refine AW.cond (.tmp rfl fun _ => rfl) (fun h16 => ?_) (fun h16 => ?_)
        · skip
          try simp at h16
          obtain ⟨y, z, hk2, -, hgy, hgz⟩ := kind_two' hg (by omega)
          have hi0 : (x.kids.map cKid)[(0 : Int).toNat]? = some (cKid y) := by rw [hk2]; rfl
          have hi1 : (x.kids.map cKid)[(1 : Int).toNat]? = some (cKid z) := by rw [hk2]; rfl
          have hry := shortest_r y hgy
          have hrz := shortest_r z hgz
          have hln : x.kids.length = 2 := by rw [hk2]; rfl
          refine AW.skip ?_
          refine AW.cond (.tmp rfl fun _ => rfl) (fun h16 => ?_) (fun h16 => ?_)
          · skip
            try simp at h16
            obtain ⟨y, z, hk2, -, hgy, hgz⟩ := kind_two' hg (by omega)
            have hi0 : (x.kids.map cKid)[(0 : Int).toNat]? = some (cKid y) := by rw [hk2]; rfl
            have hi1 : (x.kids.map cKid)[(1 : Int).toNat]? = some (cKid z) := by rw [hk2]; rfl
            have hry := shortest_r y hgy
            have hrz := shortest_r z hgz
            have hln : x.kids.length = 2 := by rw [hk2]; rfl
            refine AW.seq ?_
            -- region 9
            refine AW.drawn 16 (nthB [[], [0], [0, 1], [0, 1, 2], [0, 1, 2, 3], [0, 1, 2, 3, 4], [0, 1, 2, 3, 4, 5], [], [7], [7, 8], [7, 8, 9], [7, 8, 9, 10], [7, 8, 9, 10, 11], [0, 1, 2, 3, 4, 5, 6, 7, 8, 9, 10, 11, 12], [0, 1, 2, 3, 4, 5, 6, 7, 8, 9, 10, 11, 12, 13], [0, 1, 2, 3, 4, 5, 6, 7, 8, 9, 10, 11, 12, 13, 14]]) (by kernel_rfl) (by kernel_rfl) (by kernel_rfl) ?_
            refine DrawC.step rfl rfl rfl (Loc.of rfl fun σ' hs => R_move rfl (.no rfl) (hd_sup hs rfl) (.tmp (hs.slots _ _ rfl) fun _ => rfl)) ?_
            refine DrawC.step rfl rfl rfl (Loc.of rfl fun σ' hs => (by first | exact R_nilCheck rfl (.no rfl) (hd_sup hs rfl) (.tmp (hs.slots _ _ rfl) fun _ => rfl) | exact R_nilCheck_pp rfl (.no rfl) (hd_sup hs rfl) (.tmp (hs.slots _ _ rfl) fun _ => rfl))) ?_
            refine DrawC.step rfl rfl rfl (Loc.of rfl fun σ' hs => (by first | exact R_fieldAddr rfl (.no rfl) (hd_sup hs rfl) (.tmp (hs.slots _ _ rfl) fun _ => rfl) fl161_1 | exact R_fieldAddr_pp rfl (.no rfl) (hd_sup hs rfl) (.tmp (hs.slots _ _ rfl) fun _ => rfl) fl161_1 | exact R_fieldAddr_vw rfl (.no rfl) (hd_sup hs rfl) (.tmp (hs.slots _ _ rfl) fun _ => rfl) fl161_1 | exact R_fieldAddr_pr rfl (.no rfl) (hd_sup hs rfl) (.tmp (hs.slots _ _ rfl) fun _ => rfl) fl161_1)) ?_
            refine DrawC.step rfl rfl rfl (Loc.of rfl fun σ' hs => (by first | exact R_load rfl (.no rfl) (hd_sup hs rfl) (.tmp (hs.slots _ _ rfl) fun _ => rfl) ty157 rfl rfl | exact R_load_pp rfl (.no rfl) (hd_sup hs rfl) (.tmp (hs.slots _ _ rfl) fun _ => rfl) (hs.res _ _ rfl) ty157 rfl rfl | exact R_load_vw rfl (.no rfl) (hd_sup hs rfl) (.tmp (hs.slots _ _ rfl) fun _ => rfl) ty157 rfl rfl | exact R_load_pr rfl (.no rfl) (hd_sup hs rfl) (.tmp (hs.slots _ _ rfl) fun _ => rfl) (hs.res _ _ rfl) (by first | assumption | exact map_get (by assumption)) ty157 rfl rfl)) ?_
            refine DrawC.step rfl rfl rfl (Loc.of rfl fun σ' hs => (by first | exact R_indexAddr rfl (.no rfl) (hd_sup hs rfl) (.tmp (hs.slots _ _ rfl) fun _ => rfl) (.const rfl) Try.underlying157 ty114 (fun _ => ⟨by omega, (by first | assumption | exact map_get (by assumption))⟩) | exact R_indexAddr_vw rfl (.no rfl) (hd_sup hs rfl) (.tmp (hs.slots _ _ rfl) fun _ => rfl) (.const rfl) Try.underlying157 ty114 (fun _ => ⟨by omega, (by first | assumption | exact map_get (by assumption))⟩) | exact R_indexAddr_rf rfl (.no rfl) (hd_sup hs rfl) (.tmp (hs.slots _ _ rfl) fun _ => rfl) (hs.res _ _ rfl) (.const rfl) Try.underlying157 ty114 (fun _ => ⟨by omega, (by first | assumption | exact map_get (by assumption))⟩))) ?_
            refine DrawC.step rfl rfl rfl (Loc.of rfl fun σ' hs => (by first | exact R_load rfl (.no rfl) (hd_sup hs rfl) (.tmp (hs.slots _ _ rfl) fun _ => rfl) ty114 rfl rfl | exact R_load_pp rfl (.no rfl) (hd_sup hs rfl) (.tmp (hs.slots _ _ rfl) fun _ => rfl) (hs.res _ _ rfl) ty114 rfl rfl | exact R_load_vw rfl (.no rfl) (hd_sup hs rfl) (.tmp (hs.slots _ _ rfl) fun _ => rfl) ty114 rfl rfl | exact R_load_pr rfl (.no rfl) (hd_sup hs rfl) (.tmp (hs.slots _ _ rfl) fun _ => rfl) (hs.res _ _ rfl) (by first | assumption | exact map_get (by assumption)) ty114 rfl rfl)) ?_
            refine DrawC.step rfl rfl rfl (Loc.of rfl fun σ' hs => R_callz (FnT.fr (ih y (by rw [hk2]; simp))) rfl (.no rfl) (hd_sup hs rfl) (.cons (.tmp (hs.slots _ _ rfl) fun _ => rfl) (readA_sup hs rfl) .nil)) ?_
            refine DrawC.step rfl rfl rfl (Loc.of rfl fun σ' hs => R_move rfl (.no rfl) (hd_sup hs rfl) (.tmp (hs.slots _ _ rfl) fun _ => rfl)) ?_
            refine DrawC.step rfl rfl rfl (Loc.of rfl fun σ' hs => (by first | exact R_nilCheck rfl (.no rfl) (hd_sup hs rfl) (.tmp (hs.slots _ _ rfl) fun _ => rfl) | exact R_nilCheck_pp rfl (.no rfl) (hd_sup hs rfl) (.tmp (hs.slots _ _ rfl) fun _ => rfl))) ?_
            refine DrawC.step rfl rfl rfl (Loc.of rfl fun σ' hs => (by first | exact R_fieldAddr rfl (.no rfl) (hd_sup hs rfl) (.tmp (hs.slots _ _ rfl) fun _ => rfl) fl161_1 | exact R_fieldAddr_pp rfl (.no rfl) (hd_sup hs rfl) (.tmp (hs.slots _ _ rfl) fun _ => rfl) fl161_1 | exact R_fieldAddr_vw rfl (.no rfl) (hd_sup hs rfl) (.tmp (hs.slots _ _ rfl) fun _ => rfl) fl161_1 | exact R_fieldAddr_pr rfl (.no rfl) (hd_sup hs rfl) (.tmp (hs.slots _ _ rfl) fun _ => rfl) fl161_1)) ?_
            refine DrawC.step rfl rfl rfl (Loc.of rfl fun σ' hs => (by first | exact R_load rfl (.no rfl) (hd_sup hs rfl) (.tmp (hs.slots _ _ rfl) fun _ => rfl) ty157 rfl rfl | exact R_load_pp rfl (.no rfl) (hd_sup hs rfl) (.tmp (hs.slots _ _ rfl) fun _ => rfl) (hs.res _ _ rfl) ty157 rfl rfl | exact R_load_vw rfl (.no rfl) (hd_sup hs rfl) (.tmp (hs.slots _ _ rfl) fun _ => rfl) ty157 rfl rfl | exact R_load_pr rfl (.no rfl) (hd_sup hs rfl) (.tmp (hs.slots _ _ rfl) fun _ => rfl) (hs.res _ _ rfl) (by first | assumption | exact map_get (by assumption)) ty157 rfl rfl)) ?_
            refine DrawC.step rfl rfl rfl (Loc.of rfl fun σ' hs => (by first | exact R_indexAddr rfl (.no rfl) (hd_sup hs rfl) (.tmp (hs.slots _ _ rfl) fun _ => rfl) (.const rfl) Try.underlying157 ty114 (fun _ => ⟨by omega, (by first | assumption | exact map_get (by assumption))⟩) | exact R_indexAddr_vw rfl (.no rfl) (hd_sup hs rfl) (.tmp (hs.slots _ _ rfl) fun _ => rfl) (.const rfl) Try.underlying157 ty114 (fun _ => ⟨by omega, (by first | assumption | exact map_get (by assumption))⟩) | exact R_indexAddr_rf rfl (.no rfl) (hd_sup hs rfl) (.tmp (hs.slots _ _ rfl) fun _ => rfl) (hs.res _ _ rfl) (.const rfl) Try.underlying157 ty114 (fun _ => ⟨by omega, (by first | assumption | exact map_get (by assumption))⟩))) ?_
            refine DrawC.step rfl rfl rfl (Loc.of rfl fun σ' hs => (by first | exact R_load rfl (.no rfl) (hd_sup hs rfl) (.tmp (hs.slots _ _ rfl) fun _ => rfl) ty114 rfl rfl | exact R_load_pp rfl (.no rfl) (hd_sup hs rfl) (.tmp (hs.slots _ _ rfl) fun _ => rfl) (hs.res _ _ rfl) ty114 rfl rfl | exact R_load_vw rfl (.no rfl) (hd_sup hs rfl) (.tmp (hs.slots _ _ rfl) fun _ => rfl) ty114 rfl rfl | exact R_load_pr rfl (.no rfl) (hd_sup hs rfl) (.tmp (hs.slots _ _ rfl) fun _ => rfl) (hs.res _ _ rfl) (by first | assumption | exact map_get (by assumption)) ty114 rfl rfl)) ?_
            refine DrawC.step rfl rfl rfl (Loc.of rfl fun σ' hs => R_callz (FnT.fr (ih z (by rw [hk2]; simp))) rfl (.no rfl) (hd_sup hs rfl) (.cons (.tmp (hs.slots _ _ rfl) fun _ => rfl) (readA_sup hs rfl) .nil)) ?_
            refine DrawC.step rfl rfl rfl (Loc.of rfl fun σ' hs => R_assign rfl (.no rfl) (hd_sup hs rfl) (.tmp (hs.slots _ _ rfl) fun _ => rfl)) ?_
            refine DrawC.step rfl rfl rfl (Loc.of rfl fun σ' hs => R_assign rfl (.no rfl) (hd_sup hs rfl) (.tmp (hs.slots _ _ rfl) fun _ => rfl)) ?_
            refine DrawC.fin rfl rfl ?_
            refine AWl.nil ?_
            refine AW.seq ?_
            refine AW.block ?_
            refine AW.seq ?_
            -- region 10
            refine AW.le (σ' := ⟨_, [(0, _), (2, _), (3, _), (4, _), (10, _), (11, _), (16, _)], []⟩) (Le.sub0 rfl ⟨rfl, rfl, rfl, rfl, rfl, rfl, rfl, trivial⟩ trivial) ?_
            refine AW.region ?_
            refine AWl.put (R_move rfl (.no rfl) rfl (.tmp rfl fun _ => rfl)) rfl ?_
            refine AWl.put ((by first | exact R_nilCheck rfl (.no rfl) rfl (.tmp rfl fun _ => rfl) | exact R_nilCheck_pp rfl (.no rfl) rfl (.tmp rfl fun _ => rfl))) rfl ?_
            refine AWl.put ((by first | exact R_fieldAddr rfl (.no rfl) rfl (.tmp rfl fun _ => rfl) fl161_0 | exact R_fieldAddr_pp rfl (.no rfl) rfl (.tmp rfl fun _ => rfl) fl161_0 | exact R_fieldAddr_vw rfl (.no rfl) rfl (.tmp rfl fun _ => rfl) fl161_0 | exact R_fieldAddr_pr rfl (.no rfl) rfl (.tmp rfl fun _ => rfl) fl161_0)) rfl ?_
            refine AWl.put ((by first | exact R_fieldAddr rfl (.no rfl) rfl (.tmp rfl fun _ => rfl) fl154_0 | exact R_fieldAddr_pp rfl (.no rfl) rfl (.tmp rfl fun _ => rfl) fl154_0 | exact R_fieldAddr_vw rfl (.no rfl) rfl (.tmp rfl fun _ => rfl) fl154_0 | exact R_fieldAddr_pr rfl (.no rfl) rfl (.tmp rfl fun _ => rfl) fl154_0)) rfl ?_
            refine AWl.put ((by first | exact R_load rfl (.no rfl) rfl (.tmp rfl fun _ => rfl) ty3 rfl rfl | exact R_load_pp rfl (.no rfl) rfl (.tmp rfl fun _ => rfl) rfl ty3 rfl rfl | exact R_load_vw rfl (.no rfl) rfl (.tmp rfl fun _ => rfl) ty3 rfl rfl | exact R_load_pr rfl (.no rfl) rfl (.tmp rfl fun _ => rfl) rfl (by first | assumption | exact map_get (by assumption)) ty3 rfl rfl)) rfl ?_
            refine AWl.put (R_eq rfl (.no rfl) rfl (.tmp rfl fun _ => rfl) (.const rfl)) rfl ?_
            refine AWl.put (R_move rfl (.no rfl) rfl (.tmp rfl fun _ => rfl)) rfl ?_
            refine AWl.put (R_move rfl (by first | exact .yes1 rfl rfl rfl rfl | exact .yes rfl rfl rfl rfl) rfl (.tmp rfl (by first | exact fun _ => rfl | exact id | simp))) rfl ?_
            refine AWl.put (R_lt rfl (by first | exact .yes1 rfl rfl rfl rfl | exact .yes rfl rfl rfl rfl) rfl (.tmp rfl (by first | exact fun _ => rfl | exact id | simp)) (.const rfl)) rfl ?_
            refine AWl.put (R_move rfl (by first | exact .yes1 rfl rfl rfl rfl | exact .yes rfl rfl rfl rfl) rfl (.tmp rfl (by first | exact fun _ => rfl | exact id | simp))) rfl ?_
            refine AWl.put (R_move rfl (by first | exact .not1 rfl rfl rfl rfl | exact .not rfl rfl rfl rfl) rfl (.tmp rfl (by first | exact fun _ => rfl | exact id | simp))) rfl ?_
            refine AWl.put (R_ge rfl (by first | exact .not1 rfl rfl rfl rfl | exact .not rfl rfl rfl rfl) rfl (.tmp rfl (by first | exact fun _ => rfl | exact id | simp)) (.const rfl)) rfl ?_
            refine AWl.put (R_move rfl (by first | exact .not1 rfl rfl rfl rfl | exact .not rfl rfl rfl rfl) rfl (.tmp rfl (by first | exact fun _ => rfl | exact id | simp))) rfl ?_
            refine AWl.put (R_move rfl (by first | exact .yes1 rfl rfl rfl rfl | exact .yes rfl rfl rfl rfl) rfl (.tmp rfl (by first | exact fun _ => rfl | exact id | simp))) rfl ?_
            refine AWl.put (R_move rfl (by first | exact .yes1 rfl rfl rfl rfl | exact .yes rfl rfl rfl rfl) rfl (.tmp rfl (by first | exact fun _ => rfl | exact id | simp))) rfl ?_
            refine AWl.put (R_lt rfl (by first | exact .yes1 rfl rfl rfl rfl | exact .yes rfl rfl rfl rfl) rfl (.tmp rfl (by first | exact fun _ => rfl | exact id | simp)) (.tmp rfl (by first | exact fun _ => rfl | exact id | simp))) rfl ?_
            refine AWl.put (R_and rfl (by first | exact .not1 rfl rfl rfl rfl | exact .not rfl rfl rfl rfl) rfl (.tmp rfl (by first | exact fun _ => rfl | exact id | simp)) (.tmp rfl (by first | exact fun _ => rfl | exact id | simp))) rfl ?_
            refine AWl.put (R_or rfl (by first | exact .yes1 rfl rfl rfl rfl | exact .yes rfl rfl rfl rfl) rfl (.tmp rfl (by first | exact fun _ => rfl | exact id | simp)) (.tmp rfl (by first | exact fun _ => rfl | exact id | simp))) rfl ?_
            refine AWl.put (R_and rfl (.no rfl) rfl (.tmp rfl fun _ => rfl) (.tmp rfl (by first | exact fun _ => rfl | exact id | simp))) rfl ?_
            refine AWl.put (R_assign rfl (.no rfl) rfl (.tmp rfl fun _ => rfl)) rfl ?_
            refine AWl.nil ?_
            refine AW.cond (.tmp rfl fun _ => rfl) (fun h33 => ?_) (fun h33 => ?_)
            · skip
              try simp at h33
              refine AW.seq ?_
              -- region 11
              refine AW.le (σ' := ⟨_, [(0, _), (2, _), (3, _), (4, _), (10, _), (11, _), (16, _)], []⟩) (Le.sub0 rfl ⟨rfl, rfl, rfl, rfl, rfl, rfl, rfl, trivial⟩ trivial) ?_
              refine AW.region ?_
              refine AWl.put (R_move rfl (.no rfl) rfl (.tmp rfl fun _ => rfl)) rfl ?_
              refine AWl.put (R_assign rfl (.no rfl) rfl (.tmp rfl fun _ => rfl)) rfl ?_
              refine AWl.nil ?_
              refine AW.ret ?_
              refine Res.v rfl rfl ?_
              congr 1; first | (rw [hk2]; simp only [List.map, shortG]; (repeat' split) <;> omega) | (rw [hk2, Int.mul_comm]; simp only [List.map, shortG]; (repeat' split) <;> omega) | (rw [kind_no' hg (by omega)]; simp only [List.map, shortG]; (repeat' split) <;> omega) | (obtain ⟨y, hk3, -⟩ := kind_one' hg (by omega); rw [hk3]; simp only [List.map, shortG]; (repeat' split) <;> omega) | (rcases (good_cases hg).2.2 with ⟨hk3, hk4⟩ | ⟨y, hk3, hk4⟩ | ⟨y, z, hk3, hk4⟩ <;> rw [hk3] <;> simp only [List.map, shortG] <;> (repeat' split) <;> omega)
            · skip
              try simp at h33
              refine AW.seq ?_
              -- region 12
              refine AW.le (σ' := ⟨_, [(0, _), (2, _), (3, _), (4, _), (10, _), (11, _), (16, _)], []⟩) (Le.sub0 rfl ⟨rfl, rfl, rfl, rfl, rfl, rfl, rfl, trivial⟩ trivial) ?_
              refine AW.region ?_
              refine AWl.put (R_move rfl (.no rfl) rfl (.tmp rfl fun _ => rfl)) rfl ?_
              refine AWl.put ((by first | exact R_nilCheck rfl (.no rfl) rfl (.tmp rfl fun _ => rfl) | exact R_nilCheck_pp rfl (.no rfl) rfl (.tmp rfl fun _ => rfl))) rfl ?_
              refine AWl.put ((by first | exact R_fieldAddr rfl (.no rfl) rfl (.tmp rfl fun _ => rfl) fl161_0 | exact R_fieldAddr_pp rfl (.no rfl) rfl (.tmp rfl fun _ => rfl) fl161_0 | exact R_fieldAddr_vw rfl (.no rfl) rfl (.tmp rfl fun _ => rfl) fl161_0 | exact R_fieldAddr_pr rfl (.no rfl) rfl (.tmp rfl fun _ => rfl) fl161_0)) rfl ?_
              refine AWl.put ((by first | exact R_fieldAddr rfl (.no rfl) rfl (.tmp rfl fun _ => rfl) fl154_0 | exact R_fieldAddr_pp rfl (.no rfl) rfl (.tmp rfl fun _ => rfl) fl154_0 | exact R_fieldAddr_vw rfl (.no rfl) rfl (.tmp rfl fun _ => rfl) fl154_0 | exact R_fieldAddr_pr rfl (.no rfl) rfl (.tmp rfl fun _ => rfl) fl154_0)) rfl ?_
              refine AWl.put ((by first | exact R_load rfl (.no rfl) rfl (.tmp rfl fun _ => rfl) ty3 rfl rfl | exact R_load_pp rfl (.no rfl) rfl (.tmp rfl fun _ => rfl) rfl ty3 rfl rfl | exact R_load_vw rfl (.no rfl) rfl (.tmp rfl fun _ => rfl) ty3 rfl rfl | exact R_load_pr rfl (.no rfl) rfl (.tmp rfl fun _ => rfl) rfl (by first | assumption | exact map_get (by assumption)) ty3 rfl rfl)) rfl ?_
              refine AWl.put (R_eq rfl (.no rfl) rfl (.tmp rfl fun _ => rfl) (.const rfl)) rfl ?_
              refine AWl.put (R_assign rfl (.no rfl) rfl (.tmp rfl fun _ => rfl)) rfl ?_
              refine AWl.nil ?_
              refine AW.cond (.tmp rfl fun _ => rfl) (fun h54 => ?_) (fun h54 => ?_)
              · skip
                try simp at h54
                refine AW.seq ?_
                -- region 13
                refine AW.le (σ' := ⟨_, [(0, _), (2, _), (3, _), (4, _), (10, _), (11, _), (16, _)], []⟩) (Le.sub0 rfl ⟨rfl, rfl, rfl, rfl, rfl, rfl, rfl, trivial⟩ trivial) ?_
                refine AW.region ?_
                refine AWl.put (R_move rfl (.no rfl) rfl (.tmp rfl fun _ => rfl)) rfl ?_
                refine AWl.put (R_assign rfl (.no rfl) rfl (.tmp rfl fun _ => rfl)) rfl ?_
                refine AWl.nil ?_
                refine AW.ret ?_
                refine Res.v rfl rfl ?_
                congr 1; first | (rw [hk2]; simp only [List.map, shortG]; (repeat' split) <;> omega) | (rw [hk2, Int.mul_comm]; simp only [List.map, shortG]; (repeat' split) <;> omega) | (rw [kind_no' hg (by omega)]; simp only [List.map, shortG]; (repeat' split) <;> omega) | (obtain ⟨y, hk3, -⟩ := kind_one' hg (by omega); rw [hk3]; simp only [List.map, shortG]; (repeat' split) <;> omega) | (rcases (good_cases hg).2.2 with ⟨hk3, hk4⟩ | ⟨y, hk3, hk4⟩ | ⟨y, z, hk3, hk4⟩ <;> rw [hk3] <;> simp only [List.map, shortG] <;> (repeat' split) <;> omega)
              · skip
                try simp at h54
                refine AW.seq ?_
                -- region 14
                refine AW.le (σ' := ⟨_, [(0, _), (2, _), (3, _), (4, _), (10, _), (11, _), (16, _)], []⟩) (Le.sub0 rfl ⟨rfl, rfl, rfl, rfl, rfl, rfl, rfl, trivial⟩ trivial) ?_
                refine AW.region ?_
                refine AWl.put (R_move rfl (.no rfl) rfl (.tmp rfl fun _ => rfl)) rfl ?_
                refine AWl.put (R_lt rfl (.no rfl) rfl (.tmp rfl fun _ => rfl) (.const rfl)) rfl ?_
                refine AWl.put (R_move rfl (.no rfl) rfl (.tmp rfl fun _ => rfl)) rfl ?_
                refine AWl.put (R_move rfl (by first | exact .not1 rfl rfl rfl rfl | exact .not rfl rfl rfl rfl) rfl (.tmp rfl (by first | exact fun _ => rfl | exact id | simp))) rfl ?_
                refine AWl.put (R_lt rfl (by first | exact .not1 rfl rfl rfl rfl | exact .not rfl rfl rfl rfl) rfl (.tmp rfl (by first | exact fun _ => rfl | exact id | simp)) (.const rfl)) rfl ?_
                refine AWl.put (R_or rfl (.no rfl) rfl (.tmp rfl fun _ => rfl) (.tmp rfl (by first | exact fun _ => rfl | exact id | simp))) rfl ?_
                refine AWl.put (R_assign rfl (.no rfl) rfl (.tmp rfl fun _ => rfl)) rfl ?_
                refine AWl.nil ?_
                refine AW.cond (.tmp rfl fun _ => rfl) (fun h62 => ?_) (fun h62 => ?_)
                · skip
                  try simp at h62
                  refine AW.seq ?_
                  -- region 15
                  refine AW.le (σ' := ⟨_, [(0, _), (2, _), (3, _), (4, _), (10, _), (11, _), (16, _)], []⟩) (Le.sub0 rfl ⟨rfl, rfl, rfl, rfl, rfl, rfl, rfl, trivial⟩ trivial) ?_
                  refine AW.region ?_
                  refine AWl.put (R_assign rfl (.no rfl) rfl (.const rfl)) rfl ?_
                  refine AWl.nil ?_
                  refine AW.ret ?_
                  refine Res.v rfl rfl ?_
                  congr 1; first | (rw [hk2]; simp only [List.map, shortG]; (repeat' split) <;> omega) | (rw [hk2, Int.mul_comm]; simp only [List.map, shortG]; (repeat' split) <;> omega) | (rw [kind_no' hg (by omega)]; simp only [List.map, shortG]; (repeat' split) <;> omega) | (obtain ⟨y, hk3, -⟩ := kind_one' hg (by omega); rw [hk3]; simp only [List.map, shortG]; (repeat' split) <;> omega) | (rcases (good_cases hg).2.2 with ⟨hk3, hk4⟩ | ⟨y, hk3, hk4⟩ | ⟨y, z, hk3, hk4⟩ <;> rw [hk3] <;> simp only [List.map, shortG] <;> (repeat' split) <;> omega)
                · skip
                  try simp at h62
                  refine AW.skip ?_
                  refine AW.seq ?_
                  -- region 16
                  refine AW.le (σ' := ⟨_, [(0, _), (2, _), (3, _), (4, _), (10, _), (11, _), (16, _)], []⟩) (Le.sub0 rfl ⟨rfl, rfl, rfl, rfl, rfl, rfl, rfl, trivial⟩ trivial) ?_
                  refine AW.region ?_
                  refine AWl.put (R_move rfl (.no rfl) rfl (.tmp rfl fun _ => rfl)) rfl ?_
                  refine AWl.put (R_move rfl (.no rfl) rfl (.tmp rfl fun _ => rfl)) rfl ?_
                  refine AWl.put (R_add rfl (.no rfl) rfl (.tmp rfl fun _ => rfl) (.tmp rfl fun _ => rfl) (fun _ => by omega)) rfl ?_
                  refine AWl.put (R_min rfl (.no rfl) rfl (.const rfl) (.tmp rfl fun _ => rfl)) rfl ?_
                  refine AWl.put (R_assign rfl (.no rfl) rfl (.tmp rfl fun _ => rfl)) rfl ?_
                  refine AWl.nil ?_
                  refine AW.ret ?_
                  refine Res.v rfl rfl ?_
                  congr 1; first | (rw [hk2]; simp only [List.map, shortG]; (repeat' split) <;> omega) | (rw [hk2, Int.mul_comm]; simp only [List.map, shortG]; (repeat' split) <;> omega) | (rw [kind_no' hg (by omega)]; simp only [List.map, shortG]; (repeat' split) <;> omega) | (obtain ⟨y, hk3, -⟩ := kind_one' hg (by omega); rw [hk3]; simp only [List.map, shortG]; (repeat' split) <;> omega) | (rcases (good_cases hg).2.2 with ⟨hk3, hk4⟩ | ⟨y, hk3, hk4⟩ | ⟨y, z, hk3, hk4⟩ <;> rw [hk3] <;> simp only [List.map, shortG] <;> (repeat' split) <;> omega)
          · exfalso; (try simp at h16); first | contradiction | omega | simp_all | grind
        · skip
          try simp at h16
          -- region 8
          refine AW.region ?_
          refine AWl.put (R_eq rfl (.no rfl) rfl (.tmp rfl fun _ => rfl) (.const rfl)) rfl ?_
          refine AWl.put (R_assign rfl (.no rfl) rfl (.tmp rfl fun _ => rfl)) rfl ?_
          refine AWl.nil ?_
          refine AW.cond (.tmp rfl fun _ => rfl) (fun h16 => ?_) (fun h16 => ?_)
          · skip
            try simp at h16
            obtain ⟨y, z, hk2, -, hgy, hgz⟩ := kind_two' hg (by omega)
            have hi0 : (x.kids.map cKid)[(0 : Int).toNat]? = some (cKid y) := by rw [hk2]; rfl
            have hi1 : (x.kids.map cKid)[(1 : Int).toNat]? = some (cKid z) := by rw [hk2]; rfl
            have hry := shortest_r y hgy
            have hrz := shortest_r z hgz
            have hln : x.kids.length = 2 := by rw [hk2]; rfl
            refine AW.seq ?_
            -- region 9
            refine AW.drawn 16 (nthB [[], [0], [0, 1], [0, 1, 2], [0, 1, 2, 3], [0, 1, 2, 3, 4], [0, 1, 2, 3, 4, 5], [], [7], [7, 8], [7, 8, 9], [7, 8, 9, 10], [7, 8, 9, 10, 11], [0, 1, 2, 3, 4, 5, 6, 7, 8, 9, 10, 11, 12], [0, 1, 2, 3, 4, 5, 6, 7, 8, 9, 10, 11, 12, 13], [0, 1, 2, 3, 4, 5, 6, 7, 8, 9, 10, 11, 12, 13, 14]]) (by kernel_rfl) (by kernel_rfl) (by kernel_rfl) ?_
            refine DrawC.step rfl rfl rfl (Loc.of rfl fun σ' hs => R_move rfl (.no rfl) (hd_sup hs rfl) (.tmp (hs.slots _ _ rfl) fun _ => rfl)) ?_
            refine DrawC.step rfl rfl rfl (Loc.of rfl fun σ' hs => (by first | exact R_nilCheck rfl (.no rfl) (hd_sup hs rfl) (.tmp (hs.slots _ _ rfl) fun _ => rfl) | exact R_nilCheck_pp rfl (.no rfl) (hd_sup hs rfl) (.tmp (hs.slots _ _ rfl) fun _ => rfl))) ?_
            refine DrawC.step rfl rfl rfl (Loc.of rfl fun σ' hs => (by first | exact R_fieldAddr rfl (.no rfl) (hd_sup hs rfl) (.tmp (hs.slots _ _ rfl) fun _ => rfl) fl161_1 | exact R_fieldAddr_pp rfl (.no rfl) (hd_sup hs rfl) (.tmp (hs.slots _ _ rfl) fun _ => rfl) fl161_1 | exact R_fieldAddr_vw rfl (.no rfl) (hd_sup hs rfl) (.tmp (hs.slots _ _ rfl) fun _ => rfl) fl161_1 | exact R_fieldAddr_pr rfl (.no rfl) (hd_sup hs rfl) (.tmp (hs.slots _ _ rfl) fun _ => rfl) fl161_1)) ?_
            refine DrawC.step rfl rfl rfl (Loc.of rfl fun σ' hs => (by first | exact R_load rfl (.no rfl) (hd_sup hs rfl) (.tmp (hs.slots _ _ rfl) fun _ => rfl) ty157 rfl rfl | exact R_load_pp rfl (.no rfl) (hd_sup hs rfl) (.tmp (hs.slots _ _ rfl) fun _ => rfl) (hs.res _ _ rfl) ty157 rfl rfl | exact R_load_vw rfl (.no rfl) (hd_sup hs rfl) (.tmp (hs.slots _ _ rfl) fun _ => rfl) ty157 rfl rfl | exact R_load_pr rfl (.no rfl) (hd_sup hs rfl) (.tmp (hs.slots _ _ rfl) fun _ => rfl) (hs.res _ _ rfl) (by first | assumption | exact map_get (by assumption)) ty157 rfl rfl)) ?_
            refine DrawC.step rfl rfl rfl (Loc.of rfl fun σ' hs => (by first | exact R_indexAddr rfl (.no rfl) (hd_sup hs rfl) (.tmp (hs.slots _ _ rfl) fun _ => rfl) (.const rfl) Try.underlying157 ty114 (fun _ => ⟨by omega, (by first | assumption | exact map_get (by assumption))⟩) | exact R_indexAddr_vw rfl (.no rfl) (hd_sup hs rfl) (.tmp (hs.slots _ _ rfl) fun _ => rfl) (.const rfl) Try.underlying157 ty114 (fun _ => ⟨by omega, (by first | assumption | exact map_get (by assumption))⟩) | exact R_indexAddr_rf rfl (.no rfl) (hd_sup hs rfl) (.tmp (hs.slots _ _ rfl) fun _ => rfl) (hs.res _ _ rfl) (.const rfl) Try.underlying157 ty114 (fun _ => ⟨by omega, (by first | assumption | exact map_get (by assumption))⟩))) ?_
            refine DrawC.step rfl rfl rfl (Loc.of rfl fun σ' hs => (by first | exact R_load rfl (.no rfl) (hd_sup hs rfl) (.tmp (hs.slots _ _ rfl) fun _ => rfl) ty114 rfl rfl | exact R_load_pp rfl (.no rfl) (hd_sup hs rfl) (.tmp (hs.slots _ _ rfl) fun _ => rfl) (hs.res _ _ rfl) ty114 rfl rfl | exact R_load_vw rfl (.no rfl) (hd_sup hs rfl) (.tmp (hs.slots _ _ rfl) fun _ => rfl) ty114 rfl rfl | exact R_load_pr rfl (.no rfl) (hd_sup hs rfl) (.tmp (hs.slots _ _ rfl) fun _ => rfl) (hs.res _ _ rfl) (by first | assumption | exact map_get (by assumption)) ty114 rfl rfl)) ?_
            refine DrawC.step rfl rfl rfl (Loc.of rfl fun σ' hs => R_callz (FnT.fr (ih y (by rw [hk2]; simp))) rfl (.no rfl) (hd_sup hs rfl) (.cons (.tmp (hs.slots _ _ rfl) fun _ => rfl) (readA_sup hs rfl) .nil)) ?_
            refine DrawC.step rfl rfl rfl (Loc.of rfl fun σ' hs => R_move rfl (.no rfl) (hd_sup hs rfl) (.tmp (hs.slots _ _ rfl) fun _ => rfl)) ?_
            refine DrawC.step rfl rfl rfl (Loc.of rfl fun σ' hs => (by first | exact R_nilCheck rfl (.no rfl) (hd_sup hs rfl) (.tmp (hs.slots _ _ rfl) fun _ => rfl) | exact R_nilCheck_pp rfl (.no rfl) (hd_sup hs rfl) (.tmp (hs.slots _ _ rfl) fun _ => rfl))) ?_
            refine DrawC.step rfl rfl rfl (Loc.of rfl fun σ' hs => (by first | exact R_fieldAddr rfl (.no rfl) (hd_sup hs rfl) (.tmp (hs.slots _ _ rfl) fun _ => rfl) fl161_1 | exact R_fieldAddr_pp rfl (.no rfl) (hd_sup hs rfl) (.tmp (hs.slots _ _ rfl) fun _ => rfl) fl161_1 | exact R_fieldAddr_vw rfl (.no rfl) (hd_sup hs rfl) (.tmp (hs.slots _ _ rfl) fun _ => rfl) fl161_1 | exact R_fieldAddr_pr rfl (.no rfl) (hd_sup hs rfl) (.tmp (hs.slots _ _ rfl) fun _ => rfl) fl161_1)) ?_
            refine DrawC.step rfl rfl rfl (Loc.of rfl fun σ' hs => (by first | exact R_load rfl (.no rfl) (hd_sup hs rfl) (.tmp (hs.slots _ _ rfl) fun _ => rfl) ty157 rfl rfl | exact R_load_pp rfl (.no rfl) (hd_sup hs rfl) (.tmp (hs.slots _ _ rfl) fun _ => rfl) (hs.res _ _ rfl) ty157 rfl rfl | exact R_load_vw rfl (.no rfl) (hd_sup hs rfl) (.tmp (hs.slots _ _ rfl) fun _ => rfl) ty157 rfl rfl | exact R_load_pr rfl (.no rfl) (hd_sup hs rfl) (.tmp (hs.slots _ _ rfl) fun _ => rfl) (hs.res _ _ rfl) (by first | assumption | exact map_get (by assumption)) ty157 rfl rfl)) ?_
            refine DrawC.step rfl rfl rfl (Loc.of rfl fun σ' hs => (by first | exact R_indexAddr rfl (.no rfl) (hd_sup hs rfl) (.tmp (hs.slots _ _ rfl) fun _ => rfl) (.const rfl) Try.underlying157 ty114 (fun _ => ⟨by omega, (by first | assumption | exact map_get (by assumption))⟩) | exact R_indexAddr_vw rfl (.no rfl) (hd_sup hs rfl) (.tmp (hs.slots _ _ rfl) fun _ => rfl) (.const rfl) Try.underlying157 ty114 (fun _ => ⟨by omega, (by first | assumption | exact map_get (by assumption))⟩) | exact R_indexAddr_rf rfl (.no rfl) (hd_sup hs rfl) (.tmp (hs.slots _ _ rfl) fun _ => rfl) (hs.res _ _ rfl) (.const rfl) Try.underlying157 ty114 (fun _ => ⟨by omega, (by first | assumption | exact map_get (by assumption))⟩))) ?_
            refine DrawC.step rfl rfl rfl (Loc.of rfl fun σ' hs => (by first | exact R_load rfl (.no rfl) (hd_sup hs rfl) (.tmp (hs.slots _ _ rfl) fun _ => rfl) ty114 rfl rfl | exact R_load_pp rfl (.no rfl) (hd_sup hs rfl) (.tmp (hs.slots _ _ rfl) fun _ => rfl) (hs.res _ _ rfl) ty114 rfl rfl | exact R_load_vw rfl (.no rfl) (hd_sup hs rfl) (.tmp (hs.slots _ _ rfl) fun _ => rfl) ty114 rfl rfl | exact R_load_pr rfl (.no rfl) (hd_sup hs rfl) (.tmp (hs.slots _ _ rfl) fun _ => rfl) (hs.res _ _ rfl) (by first | assumption | exact map_get (by assumption)) ty114 rfl rfl)) ?_
            refine DrawC.step rfl rfl rfl (Loc.of rfl fun σ' hs => R_callz (FnT.fr (ih z (by rw [hk2]; simp))) rfl (.no rfl) (hd_sup hs rfl) (.cons (.tmp (hs.slots _ _ rfl) fun _ => rfl) (readA_sup hs rfl) .nil)) ?_
            refine DrawC.step rfl rfl rfl (Loc.of rfl fun σ' hs => R_assign rfl (.no rfl) (hd_sup hs rfl) (.tmp (hs.slots _ _ rfl) fun _ => rfl)) ?_
            refine DrawC.step rfl rfl rfl (Loc.of rfl fun σ' hs => R_assign rfl (.no rfl) (hd_sup hs rfl) (.tmp (hs.slots _ _ rfl) fun _ => rfl)) ?_
            refine DrawC.fin rfl rfl ?_
            refine AWl.nil ?_
            refine AW.seq ?_
            refine AW.block ?_
            refine AW.seq ?_
            -- region 10
            refine AW.le (σ' := ⟨_, [(0, _), (2, _), (3, _), (4, _), (10, _), (11, _), (16, _)], []⟩) (Le.sub0 rfl ⟨rfl, rfl, rfl, rfl, rfl, rfl, rfl, trivial⟩ trivial) ?_
            refine AW.region ?_
            refine AWl.put (R_move rfl (.no rfl) rfl (.tmp rfl fun _ => rfl)) rfl ?_
            refine AWl.put ((by first | exact R_nilCheck rfl (.no rfl) rfl (.tmp rfl fun _ => rfl) | exact R_nilCheck_pp rfl (.no rfl) rfl (.tmp rfl fun _ => rfl))) rfl ?_
            refine AWl.put ((by first | exact R_fieldAddr rfl (.no rfl) rfl (.tmp rfl fun _ => rfl) fl161_0 | exact R_fieldAddr_pp rfl (.no rfl) rfl (.tmp rfl fun _ => rfl) fl161_0 | exact R_fieldAddr_vw rfl (.no rfl) rfl (.tmp rfl fun _ => rfl) fl161_0 | exact R_fieldAddr_pr rfl (.no rfl) rfl (.tmp rfl fun _ => rfl) fl161_0)) rfl ?_
            refine AWl.put ((by first | exact R_fieldAddr rfl (.no rfl) rfl (.tmp rfl fun _ => rfl) fl154_0 | exact R_fieldAddr_pp rfl (.no rfl) rfl (.tmp rfl fun _ => rfl) fl154_0 | exact R_fieldAddr_vw rfl (.no rfl) rfl (.tmp rfl fun _ => rfl) fl154_0 | exact R_fieldAddr_pr rfl (.no rfl) rfl (.tmp rfl fun _ => rfl) fl154_0)) rfl ?_
            refine AWl.put ((by first | exact R_load rfl (.no rfl) rfl (.tmp rfl fun _ => rfl) ty3 rfl rfl | exact R_load_pp rfl (.no rfl) rfl (.tmp rfl fun _ => rfl) rfl ty3 rfl rfl | exact R_load_vw rfl (.no rfl) rfl (.tmp rfl fun _ => rfl) ty3 rfl rfl | exact R_load_pr rfl (.no rfl) rfl (.tmp rfl fun _ => rfl) rfl (by first | assumption | exact map_get (by assumption)) ty3 rfl rfl)) rfl ?_
            refine AWl.put (R_eq rfl (.no rfl) rfl (.tmp rfl fun _ => rfl) (.const rfl)) rfl ?_
            refine AWl.put (R_move rfl (.no rfl) rfl (.tmp rfl fun _ => rfl)) rfl ?_
            refine AWl.put (R_move rfl (by first | exact .yes1 rfl rfl rfl rfl | exact .yes rfl rfl rfl rfl) rfl (.tmp rfl (by first | exact fun _ => rfl | exact id | simp))) rfl ?_
            refine AWl.put (R_lt rfl (by first | exact .yes1 rfl rfl rfl rfl | exact .yes rfl rfl rfl rfl) rfl (.tmp rfl (by first | exact fun _ => rfl | exact id | simp)) (.const rfl)) rfl ?_
            refine AWl.put (R_move rfl (by first | exact .yes1 rfl rfl rfl rfl | exact .yes rfl rfl rfl rfl) rfl (.tmp rfl (by first | exact fun _ => rfl | exact id | simp))) rfl ?_
            refine AWl.put (R_move rfl (by first | exact .not1 rfl rfl rfl rfl | exact .not rfl rfl rfl rfl) rfl (.tmp rfl (by first | exact fun _ => rfl | exact id | simp))) rfl ?_
            refine AWl.put (R_ge rfl (by first | exact .not1 rfl rfl rfl rfl | exact .not rfl rfl rfl rfl) rfl (.tmp rfl (by first | exact fun _ => rfl | exact id | simp)) (.const rfl)) rfl ?_
            refine AWl.put (R_move rfl (by first | exact .not1 rfl rfl rfl rfl | exact .not rfl rfl rfl rfl) rfl (.tmp rfl (by first | exact fun _ => rfl | exact id | simp))) rfl ?_
            refine AWl.put (R_move rfl (by first | exact .yes1 rfl rfl rfl rfl | exact .yes rfl rfl rfl rfl) rfl (.tmp rfl (by first | exact fun _ => rfl | exact id | simp))) rfl ?_
            refine AWl.put (R_move rfl (by first | exact .yes1 rfl rfl rfl rfl | exact .yes rfl rfl rfl rfl) rfl (.tmp rfl (by first | exact fun _ => rfl | exact id | simp))) rfl ?_
            refine AWl.put (R_lt rfl (by first | exact .yes1 rfl rfl rfl rfl | exact .yes rfl rfl rfl rfl) rfl (.tmp rfl (by first | exact fun _ => rfl | exact id | simp)) (.tmp rfl (by first | exact fun _ => rfl | exact id | simp))) rfl ?_
            refine AWl.put (R_and rfl (by first | exact .not1 rfl rfl rfl rfl | exact .not rfl rfl rfl rfl) rfl (.tmp rfl (by first | exact fun _ => rfl | exact id | simp)) (.tmp rfl (by first | exact fun _ => rfl | exact id | simp))) rfl ?_
            refine AWl.put (R_or rfl (by first | exact .yes1 rfl rfl rfl rfl | exact .yes rfl rfl rfl rfl) rfl (.tmp rfl (by first | exact fun _ => rfl | exact id | simp)) (.tmp rfl (by first | exact fun _ => rfl | exact id | simp))) rfl ?_
            refine AWl.put (R_and rfl (.no rfl) rfl (.tmp rfl fun _ => rfl) (.tmp rfl (by first | exact fun _ => rfl | exact id | simp))) rfl ?_
            refine AWl.put (R_assign rfl (.no rfl) rfl (.tmp rfl fun _ => rfl)) rfl ?_
            refine AWl.nil ?_
            refine AW.cond (.tmp rfl fun _ => rfl) (fun h33 => ?_) (fun h33 => ?_)
            · skip
              try simp at h33
              refine AW.seq ?_
              -- region 11
              refine AW.le (σ' := ⟨_, [(0, _), (2, _), (3, _), (4, _), (10, _), (11, _), (16, _)], []⟩) (Le.sub0 rfl ⟨rfl, rfl, rfl, rfl, rfl, rfl, rfl, trivial⟩ trivial) ?_
              refine AW.region ?_
              refine AWl.put (R_move rfl (.no rfl) rfl (.tmp rfl fun _ => rfl)) rfl ?_
              refine AWl.put (R_assign rfl (.no rfl) rfl (.tmp rfl fun _ => rfl)) rfl ?_
              refine AWl.nil ?_
              refine AW.ret ?_
              refine Res.v rfl rfl ?_
              congr 1; first | (rw [hk2]; simp only [List.map, shortG]; (repeat' split) <;> omega) | (rw [hk2, Int.mul_comm]; simp only [List.map, shortG]; (repeat' split) <;> omega) | (rw [kind_no' hg (by omega)]; simp only [List.map, shortG]; (repeat' split) <;> omega) | (obtain ⟨y, hk3, -⟩ := kind_one' hg (by omega); rw [hk3]; simp only [List.map, shortG]; (repeat' split) <;> omega) | (rcases (good_cases hg).2.2 with ⟨hk3, hk4⟩ | ⟨y, hk3, hk4⟩ | ⟨y, z, hk3, hk4⟩ <;> rw [hk3] <;> simp only [List.map, shortG] <;> (repeat' split) <;> omega)
            · skip
              try simp at h33
              refine AW.seq ?_
              -- region 12
              refine AW.le (σ' := ⟨_, [(0, _), (2, _), (3, _), (4, _), (10, _), (11, _), (16, _)], []⟩) (Le.sub0 rfl ⟨rfl, rfl, rfl, rfl, rfl, rfl, rfl, trivial⟩ trivial) ?_
              refine AW.region ?_
              refine AWl.put (R_move rfl (.no rfl) rfl (.tmp rfl fun _ => rfl)) rfl ?_
              refine AWl.put ((by first | exact R_nilCheck rfl (.no rfl) rfl (.tmp rfl fun _ => rfl) | exact R_nilCheck_pp rfl (.no rfl) rfl (.tmp rfl fun _ => rfl))) rfl ?_
              refine AWl.put ((by first | exact R_fieldAddr rfl (.no rfl) rfl (.tmp rfl fun _ => rfl) fl161_0 | exact R_fieldAddr_pp rfl (.no rfl) rfl (.tmp rfl fun _ => rfl) fl161_0 | exact R_fieldAddr_vw rfl (.no rfl) rfl (.tmp rfl fun _ => rfl) fl161_0 | exact R_fieldAddr_pr rfl (.no rfl) rfl (.tmp rfl fun _ => rfl) fl161_0)) rfl ?_
              refine AWl.put ((by first | exact R_fieldAddr rfl (.no rfl) rfl (.tmp rfl fun _ => rfl) fl154_0 | exact R_fieldAddr_pp rfl (.no rfl) rfl (.tmp rfl fun _ => rfl) fl154_0 | exact R_fieldAddr_vw rfl (.no rfl) rfl (.tmp rfl fun _ => rfl) fl154_0 | exact R_fieldAddr_pr rfl (.no rfl) rfl (.tmp rfl fun _ => rfl) fl154_0)) rfl ?_
              refine AWl.put ((by first | exact R_load rfl (.no rfl) rfl (.tmp rfl fun _ => rfl) ty3 rfl rfl | exact R_load_pp rfl (.no rfl) rfl (.tmp rfl fun _ => rfl) rfl ty3 rfl rfl | exact R_load_vw rfl (.no rfl) rfl (.tmp rfl fun _ => rfl) ty3 rfl rfl | exact R_load_pr rfl (.no rfl) rfl (.tmp rfl fun _ => rfl) rfl (by first | assumption | exact map_get (by assumption)) ty3 rfl rfl)) rfl ?_
              refine AWl.put (R_eq rfl (.no rfl) rfl (.tmp rfl fun _ => rfl) (.const rfl)) rfl ?_
              refine AWl.put (R_assign rfl (.no rfl) rfl (.tmp rfl fun _ => rfl)) rfl ?_
              refine AWl.nil ?_
              refine AW.cond (.tmp rfl fun _ => rfl) (fun h54 => ?_) (fun h54 => ?_)
              · skip
                try simp at h54
                refine AW.seq ?_
                -- region 13
                refine AW.le (σ' := ⟨_, [(0, _), (2, _), (3, _), (4, _), (10, _), (11, _), (16, _)], []⟩) (Le.sub0 rfl ⟨rfl, rfl, rfl, rfl, rfl, rfl, rfl, trivial⟩ trivial) ?_
                refine AW.region ?_
                refine AWl.put (R_move rfl (.no rfl) rfl (.tmp rfl fun _ => rfl)) rfl ?_
                refine AWl.put (R_assign rfl (.no rfl) rfl (.tmp rfl fun _ => rfl)) rfl ?_
                refine AWl.nil ?_
                refine AW.ret ?_
                refine Res.v rfl rfl ?_
                congr 1; first | (rw [hk2]; simp only [List.map, shortG]; (repeat' split) <;> omega) | (rw [hk2, Int.mul_comm]; simp only [List.map, shortG]; (repeat' split) <;> omega) | (rw [kind_no' hg (by omega)]; simp only [List.map, shortG]; (repeat' split) <;> omega) | (obtain ⟨y, hk3, -⟩ := kind_one' hg (by omega); rw [hk3]; simp only [List.map, shortG]; (repeat' split) <;> omega) | (rcases (good_cases hg).2.2 with ⟨hk3, hk4⟩ | ⟨y, hk3, hk4⟩ | ⟨y, z, hk3, hk4⟩ <;> rw [hk3] <;> simp only [List.map, shortG] <;> (repeat' split) <;> omega)
              · skip
                try simp at h54
                refine AW.seq ?_
                -- region 14
                refine AW.le (σ' := ⟨_, [(0, _), (2, _), (3, _), (4, _), (10, _), (11, _), (16, _)], []⟩) (Le.sub0 rfl ⟨rfl, rfl, rfl, rfl, rfl, rfl, rfl, trivial⟩ trivial) ?_
                refine AW.region ?_
                refine AWl.put (R_move rfl (.no rfl) rfl (.tmp rfl fun _ => rfl)) rfl ?_
                refine AWl.put (R_lt rfl (.no rfl) rfl (.tmp rfl fun _ => rfl) (.const rfl)) rfl ?_
                refine AWl.put (R_move rfl (.no rfl) rfl (.tmp rfl fun _ => rfl)) rfl ?_
                refine AWl.put (R_move rfl (by first | exact .not1 rfl rfl rfl rfl | exact .not rfl rfl rfl rfl) rfl (.tmp rfl (by first | exact fun _ => rfl | exact id | simp))) rfl ?_
                refine AWl.put (R_lt rfl (by first | exact .not1 rfl rfl rfl rfl | exact .not rfl rfl rfl rfl) rfl (.tmp rfl (by first | exact fun _ => rfl | exact id | simp)) (.const rfl)) rfl ?_
                refine AWl.put (R_or rfl (.no rfl) rfl (.tmp rfl fun _ => rfl) (.tmp rfl (by first | exact fun _ => rfl | exact id | simp))) rfl ?_
                refine AWl.put (R_assign rfl (.no rfl) rfl (.tmp rfl fun _ => rfl)) rfl ?_
                refine AWl.nil ?_
                refine AW.cond (.tmp rfl fun _ => rfl) (fun h62 => ?_) (fun h62 => ?_)
                · skip
                  try simp at h62
                  refine AW.seq ?_
                  -- region 15
                  refine AW.le (σ' := ⟨_, [(0, _), (2, _), (3, _), (4, _), (10, _), (11, _), (16, _)], []⟩) (Le.sub0 rfl ⟨rfl, rfl, rfl, rfl, rfl, rfl, rfl, trivial⟩ trivial) ?_
                  refine AW.region ?_
                  refine AWl.put (R_assign rfl (.no rfl) rfl (.const rfl)) rfl ?_
                  refine AWl.nil ?_
                  refine AW.ret ?_
                  refine Res.v rfl rfl ?_
                  congr 1; first | (rw [hk2]; simp only [List.map, shortG]; (repeat' split) <;> omega) | (rw [hk2, Int.mul_comm]; simp only [List.map, shortG]; (repeat' split) <;> omega) | (rw [kind_no' hg (by omega)]; simp only [List.map, shortG]; (repeat' split) <;> omega) | (obtain ⟨y, hk3, -⟩ := kind_one' hg (by omega); rw [hk3]; simp only [List.map, shortG]; (repeat' split) <;> omega) | (rcases (good_cases hg).2.2 with ⟨hk3, hk4⟩ | ⟨y, hk3, hk4⟩ | ⟨y, z, hk3, hk4⟩ <;> rw [hk3] <;> simp only [List.map, shortG] <;> (repeat' split) <;> omega)
                · skip
                  try simp at h62
                  refine AW.skip ?_
                  refine AW.seq ?_
                  -- region 16
                  refine AW.le (σ' := ⟨_, [(0, _), (2, _), (3, _), (4, _), (10, _), (11, _), (16, _)], []⟩) (Le.sub0 rfl ⟨rfl, rfl, rfl, rfl, rfl, rfl, rfl, trivial⟩ trivial) ?_
                  refine AW.region ?_
                  refine AWl.put (R_move rfl (.no rfl) rfl (.tmp rfl fun _ => rfl)) rfl ?_
                  refine AWl.put (R_move rfl (.no rfl) rfl (.tmp rfl fun _ => rfl)) rfl ?_
                  refine AWl.put (R_add rfl (.no rfl) rfl (.tmp rfl fun _ => rfl) (.tmp rfl fun _ => rfl) (fun _ => by omega)) rfl ?_
                  refine AWl.put (R_min rfl (.no rfl) rfl (.const rfl) (.tmp rfl fun _ => rfl)) rfl ?_
                  refine AWl.put (R_assign rfl (.no rfl) rfl (.tmp rfl fun _ => rfl)) rfl ?_
                  refine AWl.nil ?_
                  refine AW.ret ?_
                  refine Res.v rfl rfl ?_
                  congr 1; first | (rw [hk2]; simp only [List.map, shortG]; (repeat' split) <;> omega) | (rw [hk2, Int.mul_comm]; simp only [List.map, shortG]; (repeat' split) <;> omega) | (rw [kind_no' hg (by omega)]; simp only [List.map, shortG]; (repeat' split) <;> omega) | (obtain ⟨y, hk3, -⟩ := kind_one' hg (by omega); rw [hk3]; simp only [List.map, shortG]; (repeat' split) <;> omega) | (rcases (good_cases hg).2.2 with ⟨hk3, hk4⟩ | ⟨y, hk3, hk4⟩ | ⟨y, z, hk3, hk4⟩ <;> rw [hk3] <;> simp only [List.map, shortG] <;> (repeat' split) <;> omega)
          · skip
            try simp at h16
            refine AW.seq ?_
            -- region 17
            refine AW.region ?_
            refine AWl.put (R_eq rfl (.no rfl) rfl (.tmp rfl fun _ => rfl) (.const rfl)) rfl ?_
            refine AWl.put (R_assign rfl (.no rfl) rfl (.tmp rfl fun _ => rfl)) rfl ?_
            refine AWl.nil ?_
            refine AW.cond (.tmp rfl fun _ => rfl) (fun h73 => ?_) (fun h73 => ?_)
            · skip
              try simp at h73
              obtain ⟨y, hk2, -, hgy⟩ := kind_one' hg (by omega)
              have hi0 : (x.kids.map cKid)[(0 : Int).toNat]? = some (cKid y) := by rw [hk2]; rfl
              have hry := shortest_r y hgy
              have hln : x.kids.length = 1 := by rw [hk2]; rfl
              refine AW.seq ?_
              -- region 18
              refine AW.le (σ' := ⟨_, [(0, _), (2, _), (10, _), (11, _), (16, _)], []⟩) (Le.sub0 rfl ⟨rfl, rfl, rfl, rfl, rfl, trivial⟩ trivial) ?_
              refine AW.region ?_
              refine AWl.put (R_move rfl (.no rfl) rfl (.tmp rfl fun _ => rfl)) rfl ?_
              refine AWl.put ((by first | exact R_nilCheck rfl (.no rfl) rfl (.tmp rfl fun _ => rfl) | exact R_nilCheck_pp rfl (.no rfl) rfl (.tmp rfl fun _ => rfl))) rfl ?_
              refine AWl.put ((by first | exact R_fieldAddr rfl (.no rfl) rfl (.tmp rfl fun _ => rfl) fl161_1 | exact R_fieldAddr_pp rfl (.no rfl) rfl (.tmp rfl fun _ => rfl) fl161_1 | exact R_fieldAddr_vw rfl (.no rfl) rfl (.tmp rfl fun _ => rfl) fl161_1 | exact R_fieldAddr_pr rfl (.no rfl) rfl (.tmp rfl fun _ => rfl) fl161_1)) rfl ?_
              refine AWl.put ((by first | exact R_load rfl (.no rfl) rfl (.tmp rfl fun _ => rfl) ty157 rfl rfl | exact R_load_pp rfl (.no rfl) rfl (.tmp rfl fun _ => rfl) rfl ty157 rfl rfl | exact R_load_vw rfl (.no rfl) rfl (.tmp rfl fun _ => rfl) ty157 rfl rfl | exact R_load_pr rfl (.no rfl) rfl (.tmp rfl fun _ => rfl) rfl (by first | assumption | exact map_get (by assumption)) ty157 rfl rfl)) rfl ?_
              refine AWl.put ((by first | exact R_indexAddr rfl (.no rfl) rfl (.tmp rfl fun _ => rfl) (.const rfl) Try.underlying157 ty114 (fun _ => ⟨by omega, (by first | assumption | exact map_get (by assumption))⟩) | exact R_indexAddr_vw rfl (.no rfl) rfl (.tmp rfl fun _ => rfl) (.const rfl) Try.underlying157 ty114 (fun _ => ⟨by omega, (by first | assumption | exact map_get (by assumption))⟩) | exact R_indexAddr_rf rfl (.no rfl) rfl (.tmp rfl fun _ => rfl) rfl (.const rfl) Try.underlying157 ty114 (fun _ => ⟨by omega, (by first | assumption | exact map_get (by assumption))⟩))) rfl ?_
              refine AWl.put ((by first | exact R_load rfl (.no rfl) rfl (.tmp rfl fun _ => rfl) ty114 rfl rfl | exact R_load_pp rfl (.no rfl) rfl (.tmp rfl fun _ => rfl) rfl ty114 rfl rfl | exact R_load_vw rfl (.no rfl) rfl (.tmp rfl fun _ => rfl) ty114 rfl rfl | exact R_load_pr rfl (.no rfl) rfl (.tmp rfl fun _ => rfl) rfl (by first | assumption | exact map_get (by assumption)) ty114 rfl rfl)) rfl ?_
              refine AWl.put (R_callz (FnT.fr (ih y (by rw [hk2]; simp))) rfl (.no rfl) rfl (.cons (.tmp rfl fun _ => rfl) rfl .nil)) rfl ?_
              refine AWl.put (R_assign rfl (.no rfl) rfl (.tmp rfl fun _ => rfl)) rfl ?_
              refine AWl.nil ?_
              refine AW.seq ?_
              refine AW.block ?_
              refine AW.seq ?_
              -- region 19
              refine AW.le (σ' := ⟨_, [(0, _), (2, _), (5, _), (10, _), (11, _), (16, _)], []⟩) (Le.sub0 rfl ⟨rfl, rfl, rfl, rfl, rfl, rfl, trivial⟩ trivial) ?_
              refine AW.region ?_
              refine AWl.put (R_move rfl (.no rfl) rfl (.tmp rfl fun _ => rfl)) rfl ?_
              refine AWl.put ((by first | exact R_nilCheck rfl (.no rfl) rfl (.tmp rfl fun _ => rfl) | exact R_nilCheck_pp rfl (.no rfl) rfl (.tmp rfl fun _ => rfl))) rfl ?_
              refine AWl.put ((by first | exact R_fieldAddr rfl (.no rfl) rfl (.tmp rfl fun _ => rfl) fl161_0 | exact R_fieldAddr_pp rfl (.no rfl) rfl (.tmp rfl fun _ => rfl) fl161_0 | exact R_fieldAddr_vw rfl (.no rfl) rfl (.tmp rfl fun _ => rfl) fl161_0 | exact R_fieldAddr_pr rfl (.no rfl) rfl (.tmp rfl fun _ => rfl) fl161_0)) rfl ?_
              refine AWl.put ((by first | exact R_fieldAddr rfl (.no rfl) rfl (.tmp rfl fun _ => rfl) fl154_2 | exact R_fieldAddr_pp rfl (.no rfl) rfl (.tmp rfl fun _ => rfl) fl154_2 | exact R_fieldAddr_vw rfl (.no rfl) rfl (.tmp rfl fun _ => rfl) fl154_2 | exact R_fieldAddr_pr rfl (.no rfl) rfl (.tmp rfl fun _ => rfl) fl154_2)) rfl ?_
              refine AWl.put ((by first | exact R_load rfl (.no rfl) rfl (.tmp rfl fun _ => rfl) ty3 rfl rfl | exact R_load_pp rfl (.no rfl) rfl (.tmp rfl fun _ => rfl) rfl ty3 rfl rfl | exact R_load_vw rfl (.no rfl) rfl (.tmp rfl fun _ => rfl) ty3 rfl rfl | exact R_load_pr rfl (.no rfl) rfl (.tmp rfl fun _ => rfl) rfl (by first | assumption | exact map_get (by assumption)) ty3 rfl rfl)) rfl ?_
              refine AWl.put (R_eq rfl (.no rfl) rfl (.tmp rfl fun _ => rfl) (.const rfl)) rfl ?_
              refine AWl.put (R_assign rfl (.no rfl) rfl (.tmp rfl fun _ => rfl)) rfl ?_
              refine AWl.nil ?_
              refine AW.cond (.tmp rfl fun _ => rfl) (fun h82 => ?_) (fun h82 => ?_)
              · skip
                try simp at h82
                refine AW.seq ?_
                -- region 20
                refine AW.le (σ' := ⟨_, [(0, _), (2, _), (5, _), (10, _), (11, _), (16, _)], []⟩) (Le.sub0 rfl ⟨rfl, rfl, rfl, rfl, rfl, rfl, trivial⟩ trivial) ?_
                refine AW.region ?_
                refine AWl.put (R_assign rfl (.no rfl) rfl (.const rfl)) rfl ?_
                refine AWl.nil ?_
                refine AW.ret ?_
                refine Res.v rfl rfl ?_
                congr 1; first | (rw [hk2]; simp only [List.map, shortG]; (repeat' split) <;> omega) | (rw [hk2, Int.mul_comm]; simp only [List.map, shortG]; (repeat' split) <;> omega) | (rw [kind_no' hg (by omega)]; simp only [List.map, shortG]; (repeat' split) <;> omega) | (obtain ⟨y, hk3, -⟩ := kind_one' hg (by omega); rw [hk3]; simp only [List.map, shortG]; (repeat' split) <;> omega) | (rcases (good_cases hg).2.2 with ⟨hk3, hk4⟩ | ⟨y, hk3, hk4⟩ | ⟨y, z, hk3, hk4⟩ <;> rw [hk3] <;> simp only [List.map, shortG] <;> (repeat' split) <;> omega)
              · skip
                try simp at h82
                refine AW.seq ?_
                -- region 21
                refine AW.le (σ' := ⟨_, [(0, _), (2, _), (5, _), (10, _), (11, _), (16, _)], []⟩) (Le.sub0 rfl ⟨rfl, rfl, rfl, rfl, rfl, rfl, trivial⟩ trivial) ?_
                refine AW.region ?_
                refine AWl.put (R_move rfl (.no rfl) rfl (.tmp rfl fun _ => rfl)) rfl ?_
                refine AWl.put (R_lt rfl (.no rfl) rfl (.tmp rfl fun _ => rfl) (.const rfl)) rfl ?_
                refine AWl.put (R_assign rfl (.no rfl) rfl (.tmp rfl fun _ => rfl)) rfl ?_
                refine AWl.nil ?_
                refine AW.cond (.tmp rfl fun _ => rfl) (fun h89 => ?_) (fun h89 => ?_)
                · skip
                  try simp at h89
                  refine AW.seq ?_
                  -- region 22
                  refine AW.region ?_
                  refine AWl.put (R_assign rfl (.no rfl) rfl (.const rfl)) rfl ?_
                  refine AWl.nil ?_
                  refine AW.ret ?_
                  refine Res.v rfl rfl ?_
                  congr 1; first | (rw [hk2]; simp only [List.map, shortG]; (repeat' split) <;> omega) | (rw [hk2, Int.mul_comm]; simp only [List.map, shortG]; (repeat' split) <;> omega) | (rw [kind_no' hg (by omega)]; simp only [List.map, shortG]; (repeat' split) <;> omega) | (obtain ⟨y, hk3, -⟩ := kind_one' hg (by omega); rw [hk3]; simp only [List.map, shortG]; (repeat' split) <;> omega) | (rcases (good_cases hg).2.2 with ⟨hk3, hk4⟩ | ⟨y, hk3, hk4⟩ | ⟨y, z, hk3, hk4⟩ <;> rw [hk3] <;> simp only [List.map, shortG] <;> (repeat' split) <;> omega)
                · skip
                  try simp at h89
                  have hml := mul_low (a := shortest y) (low := x.tok.Low) (by omega) (by omega) hlow hlow3
                  rw [Int.mul_comm] at hml
                  refine AW.skip ?_
                  refine AW.seq ?_
                  -- region 23
                  refine AW.region ?_
                  refine AWl.put (R_move rfl (.no rfl) rfl (.tmp rfl fun _ => rfl)) rfl ?_
                  refine AWl.put ((by first | exact R_nilCheck rfl (.no rfl) rfl (.tmp rfl fun _ => rfl) | exact R_nilCheck_pp rfl (.no rfl) rfl (.tmp rfl fun _ => rfl))) rfl ?_
                  refine AWl.put ((by first | exact R_fieldAddr rfl (.no rfl) rfl (.tmp rfl fun _ => rfl) fl161_0 | exact R_fieldAddr_pp rfl (.no rfl) rfl (.tmp rfl fun _ => rfl) fl161_0 | exact R_fieldAddr_vw rfl (.no rfl) rfl (.tmp rfl fun _ => rfl) fl161_0 | exact R_fieldAddr_pr rfl (.no rfl) rfl (.tmp rfl fun _ => rfl) fl161_0)) rfl ?_
                  refine AWl.put ((by first | exact R_fieldAddr rfl (.no rfl) rfl (.tmp rfl fun _ => rfl) fl154_2 | exact R_fieldAddr_pp rfl (.no rfl) rfl (.tmp rfl fun _ => rfl) fl154_2 | exact R_fieldAddr_vw rfl (.no rfl) rfl (.tmp rfl fun _ => rfl) fl154_2 | exact R_fieldAddr_pr rfl (.no rfl) rfl (.tmp rfl fun _ => rfl) fl154_2)) rfl ?_
                  refine AWl.put ((by first | exact R_load rfl (.no rfl) rfl (.tmp rfl fun _ => rfl) ty3 rfl rfl | exact R_load_pp rfl (.no rfl) rfl (.tmp rfl fun _ => rfl) rfl ty3 rfl rfl | exact R_load_vw rfl (.no rfl) rfl (.tmp rfl fun _ => rfl) ty3 rfl rfl | exact R_load_pr rfl (.no rfl) rfl (.tmp rfl fun _ => rfl) rfl (by first | assumption | exact map_get (by assumption)) ty3 rfl rfl)) rfl ?_
                  refine AWl.put (R_move rfl (.no rfl) rfl (.tmp rfl fun _ => rfl)) rfl ?_
                  refine AWl.put (R_mul rfl (.no rfl) rfl (.tmp rfl fun _ => rfl) (.tmp rfl fun _ => rfl) (fun _ => by omega)) rfl ?_
                  refine AWl.put (R_min rfl (.no rfl) rfl (.const rfl) (.tmp rfl fun _ => rfl)) rfl ?_
                  refine AWl.put (R_assign rfl (.no rfl) rfl (.tmp rfl fun _ => rfl)) rfl ?_
                  refine AWl.nil ?_
                  refine AW.ret ?_
                  refine Res.v rfl rfl ?_
                  congr 1; first | (rw [hk2]; simp only [List.map, shortG]; (repeat' split) <;> omega) | (rw [hk2, Int.mul_comm]; simp only [List.map, shortG]; (repeat' split) <;> omega) | (rw [kind_no' hg (by omega)]; simp only [List.map, shortG]; (repeat' split) <;> omega) | (obtain ⟨y, hk3, -⟩ := kind_one' hg (by omega); rw [hk3]; simp only [List.map, shortG]; (repeat' split) <;> omega) | (rcases (good_cases hg).2.2 with ⟨hk3, hk4⟩ | ⟨y, hk3, hk4⟩ | ⟨y, z, hk3, hk4⟩ <;> rw [hk3] <;> simp only [List.map, shortG] <;> (repeat' split) <;> omega)
            · skip
              try simp at h73
              refine AW.skip ?_
              refine AW.seq ?_
              -- region 24
              refine AW.le (σ' := ⟨_, [(0, _), (2, _), (10, _), (11, _), (16, _)], []⟩) (Le.sub0 rfl ⟨rfl, rfl, rfl, rfl, rfl, trivial⟩ trivial) ?_
              refine AW.region ?_
              refine AWl.put (R_assign rfl (.no rfl) rfl (.const rfl)) rfl ?_
              refine AWl.nil ?_
              refine AW.ret ?_
              refine Res.v rfl rfl ?_
              congr 1; first | (rw [hk2]; simp only [List.map, shortG]; (repeat' split) <;> omega) | (rw [hk2, Int.mul_comm]; simp only [List.map, shortG]; (repeat' split) <;> omega) | (rw [kind_no' hg (by omega)]; simp only [List.map, shortG]; (repeat' split) <;> omega) | (obtain ⟨y, hk3, -⟩ := kind_one' hg (by omega); rw [hk3]; simp only [List.map, shortG]; (repeat' split) <;> omega) | (rcases (good_cases hg).2.2 with ⟨hk3, hk4⟩ | ⟨y, hk3, hk4⟩ | ⟨y, z, hk3, hk4⟩ <;> rw [hk3] <;> simp only [List.map, shortG] <;> (repeat' split) <;> omega)
theorem implshortest : ∀ x : Tr, good x → FnT Try.prog 88 [.one (.ad (treeCells x))] (.a (.one (.v (.int .i64 (shortest x))))) :=
  Tr.ind fun x ih hg => implshortest1 x hg fun y hy => ih y hy (good_kids hg y hy)
theorem implShortestWordLength (e : TExpr) : FnT Try.prog 37 [.agg (cExpr e)] (.a (.one (.v (.int .i64 (shortestWord e))))) := by
  refine FnT.walk Try.func37 rfl (by kernel_rfl) Try.ntmps37 rfl fun hlen w0 => ?_
  try simp [cPair, cToken, cExpr, cEdge, cGraph, cStep, cWalk, cChange, cBatch, cHistory, cPositions, cAutomaton, cProductStep, cPathAtom, cConjunction, cView, cDelta, cRegistered, cRegistry] at hlen
  refine AW.seq ?_
  -- region 0
  refine AW.region ?_
  refine AWl.put (R_boxz rfl rfl rfl (.tmp rfl fun _ => rfl) (ts := _) (by first | rfl | exact cells_t1 _ | exact cells_t2 _)) rfl ?_
  refine AWl.put (R_assign rfl (.no rfl) rfl (.const rfl)) rfl ?_
  refine AWl.nil ?_
  refine AW.seq ?_
  refine AW.seq ?_
  -- region 1
  refine AW.region ?_
  refine AWl.put ((by first | exact R_load rfl (.no rfl) rfl (.tmp rfl fun _ => rfl) ty41 rfl rfl | exact R_load_pp rfl (.no rfl) rfl (.tmp rfl fun _ => rfl) rfl ty41 rfl rfl | exact R_load_vw rfl (.no rfl) rfl (.tmp rfl fun _ => rfl) ty41 rfl rfl | exact R_load_pr rfl (.no rfl) rfl (.tmp rfl fun _ => rfl) rfl (by first | assumption | exact map_get (by assumption)) ty41 rfl rfl)) rfl ?_
  refine AWl.put (R_callz (FnT.fr (implIsValidExpr _)) rfl (.no rfl) rfl (.cons (.tmp rfl fun _ => rfl) rfl .nil)) rfl ?_
  refine AWl.put (R_not rfl (.no rfl) rfl (.tmp rfl fun _ => rfl)) rfl ?_
  refine AWl.nil ?_
  refine AW.cond (.tmp rfl fun _ => rfl) (fun h5 => ?_) (fun h5 => ?_)
  · skip
    try simp at h5
    refine AW.seq ?_
    -- region 2
    refine AW.region ?_
    refine AWl.put (R_assign rfl (.no rfl) rfl (.const rfl)) rfl ?_
    refine AWl.nil ?_
    refine AW.ret ?_
    refine Res.v rfl rfl ?_
    unfold shortestWord; rw [h5]; rfl
  · skip
    try simp at h5
    obtain ⟨x, hx, htk, hgx, hl⟩ := valid_tree h5
    have htr := impltreeOf e (by omega)
    rw [treeV_some hx] at htr
    refine AW.skip ?_
    refine AW.seq ?_
    -- region 3
    refine AW.region ?_
    refine AWl.put ((by first | exact R_load rfl (.no rfl) rfl (.tmp rfl fun _ => rfl) ty41 rfl rfl | exact R_load_pp rfl (.no rfl) rfl (.tmp rfl fun _ => rfl) rfl ty41 rfl rfl | exact R_load_vw rfl (.no rfl) rfl (.tmp rfl fun _ => rfl) ty41 rfl rfl | exact R_load_pr rfl (.no rfl) rfl (.tmp rfl fun _ => rfl) rfl (by first | assumption | exact map_get (by assumption)) ty41 rfl rfl)) rfl ?_
    refine AWl.put (R_callz (htr) rfl (.no rfl) rfl (.cons (.tmp rfl fun _ => rfl) rfl .nil)) rfl ?_
    refine AWl.put (R_callz (FnT.fr (implshortest x hgx)) rfl (.no rfl) rfl (.cons (.tmp rfl fun _ => rfl) rfl .nil)) rfl ?_
    refine AWl.put (R_assign rfl (.no rfl) rfl (.tmp rfl fun _ => rfl)) rfl ?_
    refine AWl.nil ?_
    refine AW.ret ?_
    refine Res.v rfl rfl ?_
    unfold shortestWord; rw [h5, hx]; rfl
theorem specl30Short1 (x : Tr) (hg : good x) (hz : (toks x).length ≤ 1048576) (ih : ∀ y ∈ x.kids, ∀ L, L = (toks y).map cToken → FnT Try.prog 87 [.one (.sl 4 L)] (.a (.one (.v (.int .i64 (shortest y)))))) : FnT Try.prog 87 [.one (.sl 4 ((toks x).map cToken))] (.a (.one (.v (.int .i64 (shortest x))))) := by
  refine FnT.walk Try.func87 rfl (by kernel_rfl) Try.ntmps87 rfl fun hlen w0 => ?_
  try simp [cPair, cToken, cExpr, cEdge, cGraph, cStep, cWalk, cChange, cBatch, cHistory, cPositions, cAutomaton, cProductStep, cPathAtom, cConjunction, cView, cDelta, cRegistered, cRegistry] at hlen
  clear hlen; rw [shortest_eq]; obtain ⟨hlow, hlow3, -⟩ := good_cases hg; have hlast := tok_last x; have hpos := toks_pos x
  refine AW.seq ?_
  -- region 0
  refine AW.region ?_
  refine AWl.put (R_assign rfl (.no rfl) rfl (.const rfl)) rfl ?_
  refine AWl.nil ?_
  refine AW.seq ?_
  -- region 1
  refine AW.region ?_
  refine AWl.put (R_move rfl (.no rfl) rfl (.tmp rfl fun _ => rfl)) rfl ?_
  refine AWl.put ((by first | exact R_lenm rfl (.no rfl) rfl (.tmp rfl fun _ => rfl) (by first | exact .t | exact .rf rfl | exact .vw | exact .nil) Try.underlying39 | exact R_len rfl (.no rfl) rfl (.tmp rfl fun _ => rfl) (by first | exact .t | exact .rf rfl | exact .vw | exact .nil) Try.underlying39)) rfl ?_
  refine AWl.put (R_sub rfl (.no rfl) rfl (.tmp rfl fun _ => rfl) (.const rfl) (fun _ => by omega)) rfl ?_
  refine AWl.put (R_assign rfl (.no rfl) rfl (.tmp rfl fun _ => rfl)) rfl ?_
  refine AWl.nil ?_
  refine AW.seq ?_
  -- region 2
  refine AW.region ?_
  refine AWl.put (R_move rfl (.no rfl) rfl (.tmp rfl fun _ => rfl)) rfl ?_
  refine AWl.put (R_move rfl (.no rfl) rfl (.tmp rfl fun _ => rfl)) rfl ?_
  refine AWl.put ((by first | exact R_indexAddr rfl (.no rfl) rfl (.tmp rfl fun _ => rfl) (.tmp rfl fun _ => rfl) Try.underlying39 ty154 (fun _ => ⟨by omega, map_get hlast⟩) | exact R_indexAddr_vw rfl (.no rfl) rfl (.tmp rfl fun _ => rfl) (.tmp rfl fun _ => rfl) Try.underlying39 ty154 (fun _ => ⟨by omega, map_get hlast⟩) | exact R_indexAddr_rf rfl (.no rfl) rfl (.tmp rfl fun _ => rfl) rfl (.tmp rfl fun _ => rfl) Try.underlying39 ty154 (fun _ => ⟨by omega, map_get hlast⟩))) rfl ?_
  refine AWl.put ((by first | exact R_load rfl (.no rfl) rfl (.tmp rfl fun _ => rfl) ty154 rfl rfl | exact R_load_pp rfl (.no rfl) rfl (.tmp rfl fun _ => rfl) rfl ty154 rfl rfl | exact R_load_vw rfl (.no rfl) rfl (.tmp rfl fun _ => rfl) ty154 rfl rfl | exact R_load_pr rfl (.no rfl) rfl (.tmp rfl fun _ => rfl) rfl map_get hlast ty154 rfl rfl)) rfl ?_
  refine AWl.add (R_alloc 4 rfl rfl rfl in154 rfl rfl rfl) rfl ?_
  refine AWl.chgb (R_store_pb rfl rfl rfl (.tmp rfl fun _ => rfl) (.tmp rfl fun _ => rfl) rfl ty154 rfl rfl rfl (by kernel_rfl) rfl) ?_
  refine AWl.nil ?_
  refine AW.seq ?_
  refine AW.seq ?_
  -- region 3
  refine AW.le (σ' := ⟨_, [(0, _), (2, _), (3, _), (4, _)], [(4, _)]⟩) (Le.sub0 rfl ⟨rfl, rfl, rfl, rfl, trivial⟩ ⟨rfl, trivial⟩) ?_
  refine AW.region ?_
  refine AWl.put ((by first | exact R_fieldAddr rfl (.no rfl) rfl (.tmp rfl fun _ => rfl) fl154_0 | exact R_fieldAddr_pp rfl (.no rfl) rfl (.tmp rfl fun _ => rfl) fl154_0 | exact R_fieldAddr_vw rfl (.no rfl) rfl (.tmp rfl fun _ => rfl) fl154_0 | exact R_fieldAddr_pr rfl (.no rfl) rfl (.tmp rfl fun _ => rfl) fl154_0)) rfl ?_
  refine AWl.put ((by first | exact R_load rfl (.no rfl) rfl (.tmp rfl fun _ => rfl) ty3 rfl rfl | exact R_load_pp rfl (.no rfl) rfl (.tmp rfl fun _ => rfl) rfl ty3 rfl rfl | exact R_load_vw rfl (.no rfl) rfl (.tmp rfl fun _ => rfl) ty3 rfl rfl | exact R_load_pr rfl (.no rfl) rfl (.tmp rfl fun _ => rfl) rfl map_get hlast ty3 rfl rfl)) rfl ?_
  refine AWl.nil ?_
  refine AW.block ?_
  refine AW.seq ?_
  -- region 4
  refine AW.region ?_
  refine AWl.put (R_eq rfl (.no rfl) rfl (.tmp rfl fun _ => rfl) (.const rfl)) rfl ?_
  refine AWl.put (R_assign rfl (.no rfl) rfl (.tmp rfl fun _ => rfl)) rfl ?_
  refine AWl.nil ?_
  refine AW.cond (.tmp rfl fun _ => rfl) (fun h21 => ?_) (fun h21 => ?_)
  · skip
    try simp at h21
    refine AW.seq ?_
    -- region 5
    refine AW.region ?_
    refine AWl.put (R_assign rfl (.no rfl) rfl (.const rfl)) rfl ?_
    refine AWl.nil ?_
    refine AW.ret ?_
    refine Res.v rfl rfl ?_
    congr 1; first | (rw [hk2]; simp only [List.map, shortG]; (repeat' split) <;> omega) | (rw [hk2, Int.mul_comm]; simp only [List.map, shortG]; (repeat' split) <;> omega) | (rw [kind_no' hg (by omega)]; simp only [List.map, shortG]; (repeat' split) <;> omega) | (obtain ⟨y, hk3, -⟩ := kind_one' hg (by omega); rw [hk3]; simp only [List.map, shortG]; (repeat' split) <;> omega) | (rcases (good_cases hg).2.2 with ⟨hk3, hk4⟩ | ⟨y, hk3, hk4⟩ | ⟨y, z, hk3, hk4⟩ <;> rw [hk3] <;> simp only [List.map, shortG] <;> (repeat' split) <;> omega)
  · skip
    try simp at h21
    refine AW.seq ?_
    -- region 6
    refine AW.region ?_
    refine AWl.put (R_eq rfl (.no rfl) rfl (.tmp rfl fun _ => rfl) (.const rfl)) rfl ?_
    refine AWl.put (R_assign rfl (.no rfl) rfl (.tmp rfl fun _ => rfl)) rfl ?_
    refine AWl.nil ?_
    refine AW.cond (.tmp rfl fun _ => rfl) (fun h23 => ?_) (fun h23 => ?_)
    · skip
      try simp at h23
      refine AW.seq ?_
      -- region 7
      refine AW.region ?_
      refine AWl.put (R_assign rfl (.no rfl) rfl (.const rfl)) rfl ?_
      refine AWl.nil ?_
      refine AW.ret ?_
      refine Res.v rfl rfl ?_
      congr 1; first | (rw [hk2]; simp only [List.map, shortG]; (repeat' split) <;> omega) | (rw [hk2, Int.mul_comm]; simp only [List.map, shortG]; (repeat' split) <;> omega) | (rw [kind_no' hg (by omega)]; simp only [List.map, shortG]; (repeat' split) <;> omega) | (obtain ⟨y, hk3, -⟩ := kind_one' hg (by omega); rw [hk3]; simp only [List.map, shortG]; (repeat' split) <;> omega) | (rcases (good_cases hg).2.2 with ⟨hk3, hk4⟩ | ⟨y, hk3, hk4⟩ | ⟨y, z, hk3, hk4⟩ <;> rw [hk3] <;> simp only [List.map, shortG] <;> (repeat' split) <;> omega)
    · skip
      try simp at h23
      refine AW.seq ?_
      -- region 8
      refine AW.region ?_
      refine AWl.put (R_eq rfl (.no rfl) rfl (.tmp rfl fun _ => rfl) (.const rfl)) rfl ?_
      refine AWl.put (R_assign rfl (.no rfl) rfl (.tmp rfl fun _ => rfl)) rfl ?_
      refine AWl.nil ?_
      refine AW.cond (.tmp rfl fun _ => rfl) (fun h25 => ?_) (fun h25 => ?_)
      · skip
        try simp at h25
        obtain ⟨y, z, hk2, hte, hgy, hgz⟩ := kind_two' hg (by omega)
        have hry := shortest_r y hgy
        have hrz := shortest_r z hgz
        have hln : (toks x).length = (toks y).length + (toks z).length + 1 := by rw [hte]; simp; omega
        refine AW.seq ?_
        -- region 9
        refine AW.le (σ' := ⟨_, [(0, _), (2, _), (3, _), (4, _), (20, _)], [(4, _)]⟩) (Le.sub0 rfl ⟨rfl, rfl, rfl, rfl, rfl, trivial⟩ ⟨rfl, trivial⟩) ?_
        refine AW.region ?_
        refine AWl.put (R_move rfl (.no rfl) rfl (.tmp rfl fun _ => rfl)) rfl ?_
        refine AWl.put (R_move rfl (.no rfl) rfl (.tmp rfl fun _ => rfl)) rfl ?_
        refine AWl.put (R_slice (m := (toks y).length + (toks z).length) rfl (.no rfl) rfl (.tmp rfl fun _ => rfl) .no (.yes (.tmp rfl fun _ => rfl) (fun _ => by first | omega | (simp <;> omega))) Try.underlying39 ty154 (fun _ => ⟨by omega, by first | omega | (simp; omega)⟩)) rfl ?_
        refine AWl.put (R_callz (FnT.fr (l8Start_at hgz (pre := toks y) (by simp; omega) _ (sl_pre2 hte))) rfl (.no rfl) rfl (.cons (.tmp rfl fun _ => rfl) rfl .nil)) rfl ?_
        refine AWl.put (R_assign rfl (.no rfl) rfl (.tmp rfl fun _ => rfl)) rfl ?_
        refine AWl.nil ?_
        refine AW.seq ?_
        -- region 10
        refine AW.region ?_
        refine AWl.put (R_move rfl (.no rfl) rfl (.tmp rfl fun _ => rfl)) rfl ?_
        refine AWl.put (R_move rfl (.no rfl) rfl (.tmp rfl fun _ => rfl)) rfl ?_
        refine AWl.put (R_slice (m := (toks y).length) rfl (.no rfl) rfl (.tmp rfl fun _ => rfl) .no (.yes (.tmp rfl fun _ => rfl) (fun _ => by first | omega | (simp <;> omega))) Try.underlying39 ty154 (fun _ => ⟨by omega, by first | omega | (simp; omega)⟩)) rfl ?_
        refine AWl.put (R_callz (FnT.fr (ih y (by rw [hk2]; simp) _ (sl_pre (by rw [hte, List.append_assoc])))) rfl (.no rfl) rfl (.cons (.tmp rfl fun _ => rfl) rfl .nil)) rfl ?_
        refine AWl.put (R_assign rfl (.no rfl) rfl (.tmp rfl fun _ => rfl)) rfl ?_
        refine AWl.nil ?_
        refine AW.seq ?_
        -- region 11
        refine AW.le (σ' := ⟨_, [(0, _), (2, _), (3, _), (4, _), (5, _), (6, _), (20, _)], [(4, _)]⟩) (Le.sub0 rfl ⟨rfl, rfl, rfl, rfl, rfl, rfl, rfl, trivial⟩ ⟨rfl, trivial⟩) ?_
        refine AW.region ?_
        refine AWl.put (R_move rfl (.no rfl) rfl (.tmp rfl fun _ => rfl)) rfl ?_
        refine AWl.put (R_move rfl (.no rfl) rfl (.tmp rfl fun _ => rfl)) rfl ?_
        refine AWl.put (R_move rfl (.no rfl) rfl (.tmp rfl fun _ => rfl)) rfl ?_
        refine AWl.put (R_slice (n := (toks y).length) (m := (toks y).length + (toks z).length) rfl (.no rfl) rfl (.tmp rfl fun _ => rfl) (.yes (.tmp rfl fun _ => rfl) (fun _ => by first | omega | (simp <;> omega))) (.yes (.tmp rfl fun _ => rfl) (fun _ => by first | omega | (simp <;> omega))) Try.underlying39 ty154 (fun _ => ⟨by omega, by first | omega | (simp; omega)⟩)) rfl ?_
        refine AWl.put (R_callz (FnT.fr (ih z (by rw [hk2]; simp) _ (sl_mid hte))) rfl (.no rfl) rfl (.cons (.tmp rfl fun _ => rfl) rfl .nil)) rfl ?_
        refine AWl.put (R_assign rfl (.no rfl) rfl (.tmp rfl fun _ => rfl)) rfl ?_
        refine AWl.nil ?_
        refine AW.seq ?_
        refine AW.seq ?_
        -- region 12
        refine AW.region ?_
        refine AWl.put (R_move rfl (.no rfl) rfl (.tmp rfl fun _ => rfl)) rfl ?_
        refine AWl.put (R_lt rfl (.no rfl) rfl (.tmp rfl fun _ => rfl) (.const rfl)) rfl ?_
        refine AWl.put (R_move rfl (.no rfl) rfl (.tmp rfl fun _ => rfl)) rfl ?_
        refine AWl.put (R_move rfl (by first | exact .not1 rfl rfl rfl rfl | exact .not rfl rfl rfl rfl) rfl (.tmp rfl (by first | exact fun _ => rfl | exact id | simp))) rfl ?_
        refine AWl.put (R_lt rfl (by first | exact .not1 rfl rfl rfl rfl | exact .not rfl rfl rfl rfl) rfl (.tmp rfl (by first | exact fun _ => rfl | exact id | simp)) (.const rfl)) rfl ?_
        refine AWl.put (R_or rfl (.no rfl) rfl (.tmp rfl fun _ => rfl) (.tmp rfl (by first | exact fun _ => rfl | exact id | simp))) rfl ?_
        refine AWl.nil ?_
        refine AW.cond (.tmp rfl fun _ => rfl) (fun h45 => ?_) (fun h45 => ?_)
        · skip
          try simp at h45
          refine AW.seq ?_
          -- region 13
          refine AW.le (σ' := ⟨_, [(0, _), (2, _), (3, _), (4, _), (5, _), (6, _), (7, _), (20, _)], [(4, _)]⟩) (Le.sub0 rfl ⟨rfl, rfl, rfl, rfl, rfl, rfl, rfl, rfl, trivial⟩ ⟨rfl, trivial⟩) ?_
          refine AW.region ?_
          refine AWl.put (R_assign rfl (.no rfl) rfl (.const rfl)) rfl ?_
          refine AWl.nil ?_
          refine AW.ret ?_
          refine Res.v rfl rfl ?_
          congr 1; first | (rw [hk2]; simp only [List.map, shortG]; (repeat' split) <;> omega) | (rw [hk2, Int.mul_comm]; simp only [List.map, shortG]; (repeat' split) <;> omega) | (rw [kind_no' hg (by omega)]; simp only [List.map, shortG]; (repeat' split) <;> omega) | (obtain ⟨y, hk3, -⟩ := kind_one' hg (by omega); rw [hk3]; simp only [List.map, shortG]; (repeat' split) <;> omega) | (rcases (good_cases hg).2.2 with ⟨hk3, hk4⟩ | ⟨y, hk3, hk4⟩ | ⟨y, z, hk3, hk4⟩ <;> rw [hk3] <;> simp only [List.map, shortG] <;> (repeat' split) <;> omega)
        · skip
          try simp at h45
          refine AW.skip ?_
          refine AW.seq ?_
          -- region 14
          refine AW.le (σ' := ⟨_, [(0, _), (2, _), (3, _), (4, _), (5, _), (6, _), (7, _), (20, _)], [(4, _)]⟩) (Le.sub0 rfl ⟨rfl, rfl, rfl, rfl, rfl, rfl, rfl, rfl, trivial⟩ ⟨rfl, trivial⟩) ?_
          refine AW.region ?_
          refine AWl.put (R_move rfl (.no rfl) rfl (.tmp rfl fun _ => rfl)) rfl ?_
          refine AWl.put (R_move rfl (.no rfl) rfl (.tmp rfl fun _ => rfl)) rfl ?_
          refine AWl.put (R_add rfl (.no rfl) rfl (.tmp rfl fun _ => rfl) (.tmp rfl fun _ => rfl) (fun _ => by omega)) rfl ?_
          refine AWl.put (R_min rfl (.no rfl) rfl (.const rfl) (.tmp rfl fun _ => rfl)) rfl ?_
          refine AWl.put (R_assign rfl (.no rfl) rfl (.tmp rfl fun _ => rfl)) rfl ?_
          refine AWl.nil ?_
          refine AW.ret ?_
          refine Res.v rfl rfl ?_
          congr 1; first | (rw [hk2]; simp only [List.map, shortG]; (repeat' split) <;> omega) | (rw [hk2, Int.mul_comm]; simp only [List.map, shortG]; (repeat' split) <;> omega) | (rw [kind_no' hg (by omega)]; simp only [List.map, shortG]; (repeat' split) <;> omega) | (obtain ⟨y, hk3, -⟩ := kind_one' hg (by omega); rw [hk3]; simp only [List.map, shortG]; (repeat' split) <;> omega) | (rcases (good_cases hg).2.2 with ⟨hk3, hk4⟩ | ⟨y, hk3, hk4⟩ | ⟨y, z, hk3, hk4⟩ <;> rw [hk3] <;> simp only [List.map, shortG] <;> (repeat' split) <;> omega)
      · skip
        try simp at h25
        refine AW.seq ?_
        -- region 15
        refine AW.le (σ' := ⟨_, [(0, _), (2, _), (3, _), (4, _), (20, _)], [(4, _)]⟩) (Le.sub0 rfl ⟨rfl, rfl, rfl, rfl, rfl, trivial⟩ ⟨rfl, trivial⟩) ?_
        refine AW.region ?_
        refine AWl.put (R_eq rfl (.no rfl) rfl (.tmp rfl fun _ => rfl) (.const rfl)) rfl ?_
        refine AWl.put (R_assign rfl (.no rfl) rfl (.tmp rfl fun _ => rfl)) rfl ?_
        refine AWl.nil ?_
        refine AW.cond (.tmp rfl fun _ => rfl) (fun h50 => ?_) (fun h50 => ?_)
        · skip
          try simp at h50
          obtain ⟨y, z, hk2, hte, hgy, hgz⟩ := kind_two' hg (by omega)
          have hry := shortest_r y hgy
          have hrz := shortest_r z hgz
          have hln : (toks x).length = (toks y).length + (toks z).length + 1 := by rw [hte]; simp; omega
          refine AW.seq ?_
          -- region 16
          refine AW.region ?_
          refine AWl.put (R_move rfl (.no rfl) rfl (.tmp rfl fun _ => rfl)) rfl ?_
          refine AWl.put (R_move rfl (.no rfl) rfl (.tmp rfl fun _ => rfl)) rfl ?_
          refine AWl.put (R_slice (m := (toks y).length + (toks z).length) rfl (.no rfl) rfl (.tmp rfl fun _ => rfl) .no (.yes (.tmp rfl fun _ => rfl) (fun _ => by first | omega | (simp <;> omega))) Try.underlying39 ty154 (fun _ => ⟨by omega, by first | omega | (simp; omega)⟩)) rfl ?_
          refine AWl.put (R_callz (FnT.fr (l8Start_at hgz (pre := toks y) (by simp; omega) _ (sl_pre2 hte))) rfl (.no rfl) rfl (.cons (.tmp rfl fun _ => rfl) rfl .nil)) rfl ?_
          refine AWl.put (R_assign rfl (.no rfl) rfl (.tmp rfl fun _ => rfl)) rfl ?_
          refine AWl.nil ?_
          refine AW.seq ?_
          -- region 17
          refine AW.le (σ' := ⟨_, [(0, _), (2, _), (3, _), (4, _), (8, _), (20, _)], [(4, _)]⟩) (Le.sub0 rfl ⟨rfl, rfl, rfl, rfl, rfl, rfl, trivial⟩ ⟨rfl, trivial⟩) ?_
          refine AW.region ?_
          refine AWl.put (R_move rfl (.no rfl) rfl (.tmp rfl fun _ => rfl)) rfl ?_
          refine AWl.put (R_move rfl (.no rfl) rfl (.tmp rfl fun _ => rfl)) rfl ?_
          refine AWl.put (R_slice (m := (toks y).length) rfl (.no rfl) rfl (.tmp rfl fun _ => rfl) .no (.yes (.tmp rfl fun _ => rfl) (fun _ => by first | omega | (simp <;> omega))) Try.underlying39 ty154 (fun _ => ⟨by omega, by first | omega | (simp; omega)⟩)) rfl ?_
          refine AWl.put (R_callz (FnT.fr (ih y (by rw [hk2]; simp) _ (sl_pre (by rw [hte, List.append_assoc])))) rfl (.no rfl) rfl (.cons (.tmp rfl fun _ => rfl) rfl .nil)) rfl ?_
          refine AWl.put (R_assign rfl (.no rfl) rfl (.tmp rfl fun _ => rfl)) rfl ?_
          refine AWl.nil ?_
          refine AW.seq ?_
          -- region 18
          refine AW.region ?_
          refine AWl.put (R_move rfl (.no rfl) rfl (.tmp rfl fun _ => rfl)) rfl ?_
          refine AWl.put (R_move rfl (.no rfl) rfl (.tmp rfl fun _ => rfl)) rfl ?_
          refine AWl.put (R_move rfl (.no rfl) rfl (.tmp rfl fun _ => rfl)) rfl ?_
          refine AWl.put (R_slice (n := (toks y).length) (m := (toks y).length + (toks z).length) rfl (.no rfl) rfl (.tmp rfl fun _ => rfl) (.yes (.tmp rfl fun _ => rfl) (fun _ => by first | omega | (simp <;> omega))) (.yes (.tmp rfl fun _ => rfl) (fun _ => by first | omega | (simp <;> omega))) Try.underlying39 ty154 (fun _ => ⟨by omega, by first | omega | (simp; omega)⟩)) rfl ?_
          refine AWl.put (R_callz (FnT.fr (ih z (by rw [hk2]; simp) _ (sl_mid hte))) rfl (.no rfl) rfl (.cons (.tmp rfl fun _ => rfl) rfl .nil)) rfl ?_
          refine AWl.put (R_assign rfl (.no rfl) rfl (.tmp rfl fun _ => rfl)) rfl ?_
          refine AWl.nil ?_
          refine AW.seq ?_
          refine AW.seq ?_
          -- region 19
          refine AW.le (σ' := ⟨_, [(0, _), (2, _), (3, _), (4, _), (8, _), (9, _), (10, _), (20, _)], [(4, _)]⟩) (Le.sub0 rfl ⟨rfl, rfl, rfl, rfl, rfl, rfl, rfl, rfl, trivial⟩ ⟨rfl, trivial⟩) ?_
          refine AW.region ?_
          refine AWl.put (R_move rfl (.no rfl) rfl (.tmp rfl fun _ => rfl)) rfl ?_
          refine AWl.put (R_lt rfl (.no rfl) rfl (.tmp rfl fun _ => rfl) (.const rfl)) rfl ?_
          refine AWl.put (R_move rfl (.no rfl) rfl (.tmp rfl fun _ => rfl)) rfl ?_
          refine AWl.put (R_move rfl (by first | exact .not1 rfl rfl rfl rfl | exact .not rfl rfl rfl rfl) rfl (.tmp rfl (by first | exact fun _ => rfl | exact id | simp))) rfl ?_
          refine AWl.put (R_ge rfl (by first | exact .not1 rfl rfl rfl rfl | exact .not rfl rfl rfl rfl) rfl (.tmp rfl (by first | exact fun _ => rfl | exact id | simp)) (.const rfl)) rfl ?_
          refine AWl.put (R_move rfl (by first | exact .not1 rfl rfl rfl rfl | exact .not rfl rfl rfl rfl) rfl (.tmp rfl (by first | exact fun _ => rfl | exact id | simp))) rfl ?_
          refine AWl.put (R_move rfl (by first | exact .yes1 rfl rfl rfl rfl | exact .yes rfl rfl rfl rfl) rfl (.tmp rfl (by first | exact fun _ => rfl | exact id | simp))) rfl ?_
          refine AWl.put (R_move rfl (by first | exact .yes1 rfl rfl rfl rfl | exact .yes rfl rfl rfl rfl) rfl (.tmp rfl (by first | exact fun _ => rfl | exact id | simp))) rfl ?_
          refine AWl.put (R_lt rfl (by first | exact .yes1 rfl rfl rfl rfl | exact .yes rfl rfl rfl rfl) rfl (.tmp rfl (by first | exact fun _ => rfl | exact id | simp)) (.tmp rfl (by first | exact fun _ => rfl | exact id | simp))) rfl ?_
          refine AWl.put (R_and rfl (by first | exact .not1 rfl rfl rfl rfl | exact .not rfl rfl rfl rfl) rfl (.tmp rfl (by first | exact fun _ => rfl | exact id | simp)) (.tmp rfl (by first | exact fun _ => rfl | exact id | simp))) rfl ?_
          refine AWl.put (R_or rfl (.no rfl) rfl (.tmp rfl fun _ => rfl) (.tmp rfl (by first | exact fun _ => rfl | exact id | simp))) rfl ?_
          refine AWl.nil ?_
          refine AW.cond (.tmp rfl fun _ => rfl) (fun h75 => ?_) (fun h75 => ?_)
          · skip
            try simp at h75
            refine AW.seq ?_
            -- region 20
            refine AW.le (σ' := ⟨_, [(0, _), (2, _), (3, _), (4, _), (8, _), (9, _), (10, _), (20, _)], [(4, _)]⟩) (Le.sub0 rfl ⟨rfl, rfl, rfl, rfl, rfl, rfl, rfl, rfl, trivial⟩ ⟨rfl, trivial⟩) ?_
            refine AW.region ?_
            refine AWl.put (R_move rfl (.no rfl) rfl (.tmp rfl fun _ => rfl)) rfl ?_
            refine AWl.put (R_assign rfl (.no rfl) rfl (.tmp rfl fun _ => rfl)) rfl ?_
            refine AWl.nil ?_
            refine AW.ret ?_
            refine Res.v rfl rfl ?_
            congr 1; first | (rw [hk2]; simp only [List.map, shortG]; (repeat' split) <;> omega) | (rw [hk2, Int.mul_comm]; simp only [List.map, shortG]; (repeat' split) <;> omega) | (rw [kind_no' hg (by omega)]; simp only [List.map, shortG]; (repeat' split) <;> omega) | (obtain ⟨y, hk3, -⟩ := kind_one' hg (by omega); rw [hk3]; simp only [List.map, shortG]; (repeat' split) <;> omega) | (rcases (good_cases hg).2.2 with ⟨hk3, hk4⟩ | ⟨y, hk3, hk4⟩ | ⟨y, z, hk3, hk4⟩ <;> rw [hk3] <;> simp only [List.map, shortG] <;> (repeat' split) <;> omega)
          · skip
            try simp at h75
            refine AW.skip ?_
            refine AW.seq ?_
            -- region 21
            refine AW.le (σ' := ⟨_, [(0, _), (2, _), (3, _), (4, _), (8, _), (9, _), (10, _), (20, _)], [(4, _)]⟩) (Le.sub0 rfl ⟨rfl, rfl, rfl, rfl, rfl, rfl, rfl, rfl, trivial⟩ ⟨rfl, trivial⟩) ?_
            refine AW.region ?_
            refine AWl.put (R_move rfl (.no rfl) rfl (.tmp rfl fun _ => rfl)) rfl ?_
            refine AWl.put (R_assign rfl (.no rfl) rfl (.tmp rfl fun _ => rfl)) rfl ?_
            refine AWl.nil ?_
            refine AW.ret ?_
            refine Res.v rfl rfl ?_
            congr 1; first | (rw [hk2]; simp only [List.map, shortG]; (repeat' split) <;> omega) | (rw [hk2, Int.mul_comm]; simp only [List.map, shortG]; (repeat' split) <;> omega) | (rw [kind_no' hg (by omega)]; simp only [List.map, shortG]; (repeat' split) <;> omega) | (obtain ⟨y, hk3, -⟩ := kind_one' hg (by omega); rw [hk3]; simp only [List.map, shortG]; (repeat' split) <;> omega) | (rcases (good_cases hg).2.2 with ⟨hk3, hk4⟩ | ⟨y, hk3, hk4⟩ | ⟨y, z, hk3, hk4⟩ <;> rw [hk3] <;> simp only [List.map, shortG] <;> (repeat' split) <;> omega)
        · skip
          try simp at h50
          refine AW.seq ?_
          -- region 22
          refine AW.region ?_
          refine AWl.put (R_eq rfl (.no rfl) rfl (.tmp rfl fun _ => rfl) (.const rfl)) rfl ?_
          refine AWl.put (R_assign rfl (.no rfl) rfl (.tmp rfl fun _ => rfl)) rfl ?_
          refine AWl.nil ?_
          refine AW.cond (.tmp rfl fun _ => rfl) (fun h78 => ?_) (fun h78 => ?_)
          · skip
            try simp at h78
            obtain ⟨y, hk2, hte, hgy⟩ := kind_one' hg (by omega)
            have hry := shortest_r y hgy
            have hln : (toks x).length = (toks y).length + 1 := by rw [hte]; simp
            refine AW.seq ?_
            refine AW.seq ?_
            -- region 23
            refine AW.region ?_
            refine AWl.put ((by first | exact R_fieldAddr rfl (.no rfl) rfl (.tmp rfl fun _ => rfl) fl154_2 | exact R_fieldAddr_pp rfl (.no rfl) rfl (.tmp rfl fun _ => rfl) fl154_2 | exact R_fieldAddr_vw rfl (.no rfl) rfl (.tmp rfl fun _ => rfl) fl154_2 | exact R_fieldAddr_pr rfl (.no rfl) rfl (.tmp rfl fun _ => rfl) fl154_2)) rfl ?_
            refine AWl.put ((by first | exact R_load rfl (.no rfl) rfl (.tmp rfl fun _ => rfl) ty3 rfl rfl | exact R_load_pp rfl (.no rfl) rfl (.tmp rfl fun _ => rfl) rfl ty3 rfl rfl | exact R_load_vw rfl (.no rfl) rfl (.tmp rfl fun _ => rfl) ty3 rfl rfl | exact R_load_pr rfl (.no rfl) rfl (.tmp rfl fun _ => rfl) rfl map_get hlast ty3 rfl rfl)) rfl ?_
            refine AWl.put (R_eq rfl (.no rfl) rfl (.tmp rfl fun _ => rfl) (.const rfl)) rfl ?_
            refine AWl.nil ?_
            refine AW.cond (.tmp rfl fun _ => rfl) (fun h82 => ?_) (fun h82 => ?_)
            · skip
              try simp at h82
              refine AW.seq ?_
              -- region 24
              refine AW.le (σ' := ⟨_, [(0, _), (2, _), (3, _), (4, _), (20, _)], [(4, _)]⟩) (Le.sub0 rfl ⟨rfl, rfl, rfl, rfl, rfl, trivial⟩ ⟨rfl, trivial⟩) ?_
              refine AW.region ?_
              refine AWl.put (R_assign rfl (.no rfl) rfl (.const rfl)) rfl ?_
              refine AWl.nil ?_
              refine AW.ret ?_
              refine Res.v rfl rfl ?_
              congr 1; first | (rw [hk2]; simp only [List.map, shortG]; (repeat' split) <;> omega) | (rw [hk2, Int.mul_comm]; simp only [List.map, shortG]; (repeat' split) <;> omega) | (rw [kind_no' hg (by omega)]; simp only [List.map, shortG]; (repeat' split) <;> omega) | (obtain ⟨y, hk3, -⟩ := kind_one' hg (by omega); rw [hk3]; simp only [List.map, shortG]; (repeat' split) <;> omega) | (rcases (good_cases hg).2.2 with ⟨hk3, hk4⟩ | ⟨y, hk3, hk4⟩ | ⟨y, z, hk3, hk4⟩ <;> rw [hk3] <;> simp only [List.map, shortG] <;> (repeat' split) <;> omega)
            · skip
              try simp at h82
              refine AW.skip ?_
              refine AW.seq ?_
              -- region 25
              refine AW.le (σ' := ⟨_, [(0, _), (2, _), (3, _), (4, _), (20, _)], [(4, _)]⟩) (Le.sub0 rfl ⟨rfl, rfl, rfl, rfl, rfl, trivial⟩ ⟨rfl, trivial⟩) ?_
              refine AW.region ?_
              refine AWl.put (R_move rfl (.no rfl) rfl (.tmp rfl fun _ => rfl)) rfl ?_
              refine AWl.put (R_move rfl (.no rfl) rfl (.tmp rfl fun _ => rfl)) rfl ?_
              refine AWl.put (R_slice (m := (toks y).length) rfl (.no rfl) rfl (.tmp rfl fun _ => rfl) .no (.yes (.tmp rfl fun _ => rfl) (fun _ => by first | omega | (simp <;> omega))) Try.underlying39 ty154 (fun _ => ⟨by omega, by first | omega | (simp; omega)⟩)) rfl ?_
              refine AWl.put (R_callz (FnT.fr (ih y (by rw [hk2]; simp) _ (sl_pre hte))) rfl (.no rfl) rfl (.cons (.tmp rfl fun _ => rfl) rfl .nil)) rfl ?_
              refine AWl.put (R_assign rfl (.no rfl) rfl (.tmp rfl fun _ => rfl)) rfl ?_
              refine AWl.nil ?_
              refine AW.seq ?_
              refine AW.seq ?_
              -- region 26
              refine AW.region ?_
              refine AWl.put (R_move rfl (.no rfl) rfl (.tmp rfl fun _ => rfl)) rfl ?_
              refine AWl.put (R_lt rfl (.no rfl) rfl (.tmp rfl fun _ => rfl) (.const rfl)) rfl ?_
              refine AWl.nil ?_
              refine AW.cond (.tmp rfl fun _ => rfl) (fun h88 => ?_) (fun h88 => ?_)
              · skip
                try simp at h88
                refine AW.seq ?_
                -- region 27
                refine AW.le (σ' := ⟨_, [(0, _), (2, _), (3, _), (4, _), (11, _), (20, _)], [(4, _)]⟩) (Le.sub0 rfl ⟨rfl, rfl, rfl, rfl, rfl, rfl, trivial⟩ ⟨rfl, trivial⟩) ?_
                refine AW.region ?_
                refine AWl.put (R_assign rfl (.no rfl) rfl (.const rfl)) rfl ?_
                refine AWl.nil ?_
                refine AW.ret ?_
                refine Res.v rfl rfl ?_
                congr 1; first | (rw [hk2]; simp only [List.map, shortG]; (repeat' split) <;> omega) | (rw [hk2, Int.mul_comm]; simp only [List.map, shortG]; (repeat' split) <;> omega) | (rw [kind_no' hg (by omega)]; simp only [List.map, shortG]; (repeat' split) <;> omega) | (obtain ⟨y, hk3, -⟩ := kind_one' hg (by omega); rw [hk3]; simp only [List.map, shortG]; (repeat' split) <;> omega) | (rcases (good_cases hg).2.2 with ⟨hk3, hk4⟩ | ⟨y, hk3, hk4⟩ | ⟨y, z, hk3, hk4⟩ <;> rw [hk3] <;> simp only [List.map, shortG] <;> (repeat' split) <;> omega)
              · skip
                try simp at h88
                have hml := mul_low (a := shortest y) (low := x.tok.Low) (by omega) (by omega) hlow hlow3
                refine AW.skip ?_
                refine AW.seq ?_
                -- region 28
                refine AW.le (σ' := ⟨_, [(0, _), (2, _), (3, _), (4, _), (11, _), (20, _)], [(4, _)]⟩) (Le.sub0 rfl ⟨rfl, rfl, rfl, rfl, rfl, rfl, trivial⟩ ⟨rfl, trivial⟩) ?_
                refine AW.region ?_
                refine AWl.put (R_move rfl (.no rfl) rfl (.tmp rfl fun _ => rfl)) rfl ?_
                refine AWl.put ((by first | exact R_fieldAddr rfl (.no rfl) rfl (.tmp rfl fun _ => rfl) fl154_2 | exact R_fieldAddr_pp rfl (.no rfl) rfl (.tmp rfl fun _ => rfl) fl154_2 | exact R_fieldAddr_vw rfl (.no rfl) rfl (.tmp rfl fun _ => rfl) fl154_2 | exact R_fieldAddr_pr rfl (.no rfl) rfl (.tmp rfl fun _ => rfl) fl154_2)) rfl ?_
                refine AWl.put ((by first | exact R_load rfl (.no rfl) rfl (.tmp rfl fun _ => rfl) ty3 rfl rfl | exact R_load_pp rfl (.no rfl) rfl (.tmp rfl fun _ => rfl) rfl ty3 rfl rfl | exact R_load_vw rfl (.no rfl) rfl (.tmp rfl fun _ => rfl) ty3 rfl rfl | exact R_load_pr rfl (.no rfl) rfl (.tmp rfl fun _ => rfl) rfl map_get hlast ty3 rfl rfl)) rfl ?_
                refine AWl.put (R_mul rfl (.no rfl) rfl (.tmp rfl fun _ => rfl) (.tmp rfl fun _ => rfl) (fun _ => by omega)) rfl ?_
                refine AWl.put (R_min rfl (.no rfl) rfl (.const rfl) (.tmp rfl fun _ => rfl)) rfl ?_
                refine AWl.put (R_assign rfl (.no rfl) rfl (.tmp rfl fun _ => rfl)) rfl ?_
                refine AWl.nil ?_
                refine AW.ret ?_
                refine Res.v rfl rfl ?_
                congr 1; first | (rw [hk2]; simp only [List.map, shortG]; (repeat' split) <;> omega) | (rw [hk2, Int.mul_comm]; simp only [List.map, shortG]; (repeat' split) <;> omega) | (rw [kind_no' hg (by omega)]; simp only [List.map, shortG]; (repeat' split) <;> omega) | (obtain ⟨y, hk3, -⟩ := kind_one' hg (by omega); rw [hk3]; simp only [List.map, shortG]; (repeat' split) <;> omega) | (rcases (good_cases hg).2.2 with ⟨hk3, hk4⟩ | ⟨y, hk3, hk4⟩ | ⟨y, z, hk3, hk4⟩ <;> rw [hk3] <;> simp only [List.map, shortG] <;> (repeat' split) <;> omega)
          · skip
            try simp at h78
            refine AW.skip ?_
            refine AW.seq ?_
            -- region 29
            refine AW.region ?_
            refine AWl.put (R_assign rfl (.no rfl) rfl (.const rfl)) rfl ?_
            refine AWl.nil ?_
            refine AW.ret ?_
            refine Res.v rfl rfl ?_
            congr 1; first | (rw [hk2]; simp only [List.map, shortG]; (repeat' split) <;> omega) | (rw [hk2, Int.mul_comm]; simp only [List.map, shortG]; (repeat' split) <;> omega) | (rw [kind_no' hg (by omega)]; simp only [List.map, shortG]; (repeat' split) <;> omega) | (obtain ⟨y, hk3, -⟩ := kind_one' hg (by omega); rw [hk3]; simp only [List.map, shortG]; (repeat' split) <;> omega) | (rcases (good_cases hg).2.2 with ⟨hk3, hk4⟩ | ⟨y, hk3, hk4⟩ | ⟨y, z, hk3, hk4⟩ <;> rw [hk3] <;> simp only [List.map, shortG] <;> (repeat' split) <;> omega)
theorem specl30Short : ∀ x : Tr, good x → (toks x).length ≤ 1048576 → FnT Try.prog 87 [.one (.sl 4 ((toks x).map cToken))] (.a (.one (.v (.int .i64 (shortest x))))) :=
  Tr.ind fun x ih hg hz => specl30Short1 x hg hz fun y hy L hL => by subst hL; exact ih y hy (good_kids hg y hy) (by have := kids_toks hy; omega)
theorem specShortestWordLength (e : TExpr) : FnT Try.prog 36 [.agg (cExpr e)] (.a (.one (.v (.int .i64 (shortestWord e))))) := by
  refine FnT.walk Try.func36 rfl (by kernel_rfl) Try.ntmps36 rfl fun hlen w0 => ?_
  try simp [cPair, cToken, cExpr, cEdge, cGraph, cStep, cWalk, cChange, cBatch, cHistory, cPositions, cAutomaton, cProductStep, cPathAtom, cConjunction, cView, cDelta, cRegistered, cRegistry] at hlen
  refine AW.seq ?_
  -- region 0
  refine AW.region ?_
  refine AWl.put (R_boxz rfl rfl rfl (.tmp rfl fun _ => rfl) (ts := _) (by first | rfl | exact cells_t1 _ | exact cells_t2 _)) rfl ?_
  refine AWl.put (R_assign rfl (.no rfl) rfl (.const rfl)) rfl ?_
  refine AWl.nil ?_
  refine AW.seq ?_
  refine AW.seq ?_
  -- region 1
  refine AW.region ?_
  refine AWl.put ((by first | exact R_load rfl (.no rfl) rfl (.tmp rfl fun _ => rfl) ty41 rfl rfl | exact R_load_pp rfl (.no rfl) rfl (.tmp rfl fun _ => rfl) rfl ty41 rfl rfl | exact R_load_vw rfl (.no rfl) rfl (.tmp rfl fun _ => rfl) ty41 rfl rfl | exact R_load_pr rfl (.no rfl) rfl (.tmp rfl fun _ => rfl) rfl (by first | assumption | exact map_get (by assumption)) ty41 rfl rfl)) rfl ?_
  refine AWl.put (R_callz (FnT.fr (specIsValidExpr _)) rfl (.no rfl) rfl (.cons (.tmp rfl fun _ => rfl) rfl .nil)) rfl ?_
  refine AWl.put (R_not rfl (.no rfl) rfl (.tmp rfl fun _ => rfl)) rfl ?_
  refine AWl.nil ?_
  refine AW.cond (.tmp rfl fun _ => rfl) (fun h5 => ?_) (fun h5 => ?_)
  · skip
    try simp at h5
    refine AW.seq ?_
    -- region 2
    refine AW.region ?_
    refine AWl.put (R_assign rfl (.no rfl) rfl (.const rfl)) rfl ?_
    refine AWl.nil ?_
    refine AW.ret ?_
    refine Res.v rfl rfl ?_
    unfold shortestWord; rw [h5]; rfl
  · skip
    try simp at h5
    obtain ⟨x, hx, htk, hgx, hl⟩ := valid_tree h5
    have hht := specl30Short x hgx (by rw [htk]; omega)
    rw [htk] at hht
    refine AW.skip ?_
    refine AW.seq ?_
    -- region 3
    refine AW.region ?_
    refine AWl.put ((by first | exact R_fieldAddr rfl (.no rfl) rfl (.tmp rfl fun _ => rfl) fl41_0 | exact R_fieldAddr_pp rfl (.no rfl) rfl (.tmp rfl fun _ => rfl) fl41_0 | exact R_fieldAddr_vw rfl (.no rfl) rfl (.tmp rfl fun _ => rfl) fl41_0 | exact R_fieldAddr_pr rfl (.no rfl) rfl (.tmp rfl fun _ => rfl) fl41_0)) rfl ?_
    refine AWl.put ((by first | exact R_load rfl (.no rfl) rfl (.tmp rfl fun _ => rfl) ty39 rfl rfl | exact R_load_pp rfl (.no rfl) rfl (.tmp rfl fun _ => rfl) rfl ty39 rfl rfl | exact R_load_vw rfl (.no rfl) rfl (.tmp rfl fun _ => rfl) ty39 rfl rfl | exact R_load_pr rfl (.no rfl) rfl (.tmp rfl fun _ => rfl) rfl (by first | assumption | exact map_get (by assumption)) ty39 rfl rfl)) rfl ?_
    refine AWl.put (R_callz (FnT.fr (hht)) rfl (.no rfl) rfl (.cons (.tmp rfl fun _ => rfl) rfl .nil)) rfl ?_
    refine AWl.put (R_assign rfl (.no rfl) rfl (.tmp rfl fun _ => rfl)) rfl ?_
    refine AWl.nil ?_
    refine AW.ret ?_
    refine Res.v rfl rfl ?_
    unfold shortestWord; rw [h5, hx]; rfl
end Go.Proofs.Ytjnekafkdellkaa
