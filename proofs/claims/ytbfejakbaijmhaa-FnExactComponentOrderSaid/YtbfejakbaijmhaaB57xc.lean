/- The order of the components: both texts. -/
import Derived.Test.YtbfejakbaijmhaaB48xc
import Derived.Test.YtbfejakbaijmhaaB56xc
set_option linter.unusedVariables false
set_option linter.unusedSimpArgs false
set_option maxHeartbeats 1000000
set_option maxRecDepth 100000
namespace Go.Q
open Go.D
theorem findI_neg (v : Int) (l : List Int) : decide (findI (fun x => decide (v = x)) l 0 < 0) = !decide (v ∈ l) := by
  rw [← findI_mem v l 0, Bool.eq_iff_iff]
  simp
theorem findI_out (v : Int) (l : List Int) : findI (fun x => decide (v = x)) l 0 < 0 ↔ v ∉ l := by
  have := findI_neg v l
  rw [Bool.eq_iff_iff] at this
  simpa using this
theorem all_succ (p : Nat → Bool) (k : Nat) : (List.range (k + 1)).all p = ((List.range k).all p && p k) := by
  rw [List.range_succ, List.all_append]; simp
theorem all_part {p : Nat → Bool} {k N : Nat} (h : k = N ∨ (List.range k).all p = false) (hk : k ≤ N) : (List.range k).all p = (List.range N).all p := by
  rcases h with h | h
  · rw [h]
  · rw [h]
    symm
    rw [Bool.eq_false_iff] at h ⊢
    intro h2
    refine h (List.all_eq_true.2 fun i hi => List.all_eq_true.1 h2 i (List.mem_range.2 ?_))
    have := List.mem_range.1 hi
    omega
section
variable (g : TGraph) (a : TAutomaton)
def cC (p : Nat) : Int := ((numOf (relN (nextsV g a)) p : Nat) : Int)
def cR (i k : Nat) : Bool := (wK (nxL (nextsV g a)) (NP g a) i).testBit k
def cP (out : List Int) (c : Nat) : Bool := freeB (NP g a) (cC g a) (cR g a) out c
def cellB (out : List Int) (c : Int) (i k : Nat) : Bool := !(decide (cC g a k = c) && (!decide (cC g a i = c) && (cR g a i k && !decide (cC g a i ∈ out))))
end
theorem and_part {d : Bool} {p : Nat → Bool} {i N : Nat} (h : i = N ∨ (d && (List.range i).all p) = false) (hi : i ≤ N) : (d && (List.range i).all p) = (d && (List.range N).all p) := by
  cases d with
  | false => rfl
  | true => rw [Bool.true_and, Bool.true_and]; exact all_part (by simpa using h) hi
theorem OI_len {N n : Nat} {C : Nat → Int} {r : Nat → Nat → Bool} {out : List Int} (h : OI N n C r out) : out.length ≤ n := by
  have := nodup_le (l := out) (r := (List.range n).map fun (c : Nat) => (c : Int)) h.nd fun x hx => by
    have := h.rg x hx
    exact List.mem_map.2 ⟨x.toNat, List.mem_range.2 (by omega), by omega⟩
  simpa using this
theorem cnt_le (g : TGraph) (a : TAutomaton) : cntOf g a ≤ NP g a := by
  unfold cntOf
  split
  · exact cntRep_le _
  · omega
theorem cR_eq (g : TGraph) (a : TAutomaton) {i : Nat} (hi : i < NP g a) (k : Nat) : cR g a i k = (wK (nxN g a) (NP g a) i).testBit k := by
  unfold cR; rw [wK_nexts g a hi, nextsV_len]; rfl
theorem cP_eq (g : TGraph) (a : TAutomaton) (out : List Int) (c : Nat) : cP g a out c = (!decide ((c : Int) ∈ out) && (List.range (NP g a)).all fun i => (List.range (NP g a)).all fun k => cellB g a out c i k) := rfl
theorem ord_F {g : TGraph} {a : TAutomaton} (ha : validA a = true) (hg : validG g = true) (hgc : goodC g a = true) : OrdF (NP g a) (cntOf g a) (cC g a) (cR g a) (fun i k => (k : Int) ∈ nxL (nextsV g a) i) := by
  have h := ordF (next := nextsV g a) (nexts_ok ha hg)
  have e : (nextsV g a).length = NP g a := nextsV_len g a
  rw [e] at h
  unfold cntOf; rw [if_pos hgc]; exact h
theorem ord_on {g : TGraph} {a : TAutomaton} (ha : validA a = true) (hg : validG g = true) (hgc : goodC g a = true) {out : List Int} (h : OI (NP g a) (cntOf g a) (cC g a) (cR g a) out) {c : Nat} (hc : c < cntOf g a) (hp : cP g a out c = true) (hno : ∀ d, d < c → cP g a out d = false) : OI (NP g a) (cntOf g a) (cC g a) (cR g a) (out ++ [(c : Int)]) ∧ (out ++ [(c : Int)]).length ≤ cntOf g a ∧ ordG (cP g a) (cntOf g a) (cntOf g a - out.length) out = ordG (cP g a) (cntOf g a) (cntOf g a - (out ++ [(c : Int)]).length) (out ++ [(c : Int)]) := by
  have hf := freeB_iff.1 hp
  have h2 := h.add hf (by omega)
  have hl : (out ++ [(c : Int)]).length ≤ cntOf g a := OI_len h2
  refine ⟨h2, hl, ordG_on (by rw [List.length_append, List.length_singleton] at hl; omega) hc hp hno⟩
theorem ord_ex {g : TGraph} {a : TAutomaton} (ha : validA a = true) (hg : validG g = true) (hgc : goodC g a = true) {out : List Int} (h : OI (NP g a) (cntOf g a) (cC g a) (cR g a) out) (hl : out.length < cntOf g a) (hno : ∀ d, d < cntOf g a → cP g a out d = false) : False := by
  obtain ⟨c, hc, hf⟩ := free_ex (ord_F ha hg hgc) h hl
  have := freeB_iff.2 hf
  have h2 := hno c hc
  unfold cP at h2
  rw [this] at h2; cases h2
theorem ord_I0 (g : TGraph) (a : TAutomaton) : OI (NP g a) (cntOf g a) (cC g a) (cR g a) [] := ⟨List.nodup_nil, fun c hc => (by cases hc), fun c hc => (by cases hc)⟩
theorem ord_ent {g : TGraph} {a : TAutomaton} (ha : validA a = true) (hg : validG g = true) (hgc : goodC g a = true) {out : List Int} (h : OI (NP g a) (cntOf g a) (cC g a) (cR g a) out) (c : Nat) : cP g a out c = (!decide ((c : Int) ∈ out) && !entB (nextsV g a) (cC g a) out c) := by
  have h1 := free_iff (c := (c : Int)) (ord_F ha hg hgc) h
  have h2 := entB_iff (next := nextsV g a) (nexts_ok ha hg) (C := cC g a) (out := out) (c := (c : Int))
  rw [show (nextsV g a).length = NP g a from nextsV_len g a] at h2
  rw [Bool.eq_iff_iff, h2, ← h1]
  exact freeB_iff
def entH (next : List (List Int)) (C : Nat → Int) (out : List Int) (c : Int) (i : Nat) : Bool := !decide (C i = c) && (!decide (C i ∈ out) && (nxL next i).any fun k => decide (C k.toNat = c))
theorem comps_map {g : TGraph} {a : TAutomaton} (hgc : goodC g a = true) : compsOf g a = (List.range (nextsV g a).length).map (cC g a) := by
  unfold compsOf; rw [if_pos hgc, nextsV_len]; rfl
end Go.Q
namespace Go.Proofs.Ytbfejakbaijmhaa
open Go.RowKit Go.Q Go.D
theorem specl11Find (l : List Int) (v : Int) : FnT Try.prog 81 [.one (.sl 1 (l.map cInt)), .one (.v (.int .i64 v))] (.a (.one (.v (.int .i64 (findI (fun x => decide (v = x)) l 0))))) := by
  refine FnT.walk Try.func81 rfl (by kernel_rfl) Try.ntmps81 rfl fun hlen w0 => ?_
  try simp [cPair, cToken, cExpr, cEdge, cGraph, cStep, cWalk, cChange, cBatch, cHistory, cPositions, cAutomaton, cProductStep, cPathAtom, cConjunction, cView, cDelta, cRegistered, cRegistry] at hlen
  refine AW.seq ?_
  refine AW.region ?_
  refine AWl.put (R_assign rfl (.no rfl) rfl (.const rfl)) rfl ?_
  refine AWl.nil ?_
  refine AW.seq ?_
  refine AW.seq ?_
  refine AW.region ?_
  refine AWl.put (R_assign rfl (.no rfl) rfl (.const rfl)) rfl ?_
  refine AWl.nil ?_
  refine AW.block ?_
  refine AW.loop (β := Nat) (fun x => x ≤ (l).length ∧ ∀ j y, j < x → (l)[j]? = some y → (fun x => !decide (v = x)) y = true) (fun x => ⟨_, [(5, (true, .a (.one (.t (.v (.int .i64 (x : Nat))))))), (0, _), (1, _)], []⟩) (fun x => (l).length - x) (0) ⟨Nat.zero_le _, fun j y hj => absurd hj (Nat.not_lt_zero j)⟩ (Le.sub0 rfl ⟨rfl, rfl, rfl, trivial⟩ trivial) ?_
  intro k hk
  refine AW.seq ?_
  refine AW.seq ?_
  refine AW.region ?_
  refine AWl.put (R_move rfl (.no rfl) rfl (.tmp rfl fun _ => rfl)) rfl ?_
  refine AWl.put (R_move rfl (.no rfl) rfl (.tmp rfl fun _ => rfl)) rfl ?_
  refine AWl.put ((by exact R_lenm rfl (.no rfl) rfl (.tmp rfl fun _ => rfl) (by exact .t) Try.underlying22)) rfl ?_
  refine AWl.put (R_lt rfl (.no rfl) rfl (.tmp rfl fun _ => rfl) (.tmp rfl fun _ => rfl)) rfl ?_
  refine AWl.nil ?_
  refine AW.cond (.tmp rfl fun _ => rfl) (fun hlt => ?_) (fun hlt => ?_)
  · skip
    try simp at hlt
    obtain ⟨x, hx⟩ : ∃ ξ, (l)[k]? = some ξ := ⟨_, List.getElem?_eq_getElem (by exact hlt)⟩
    refine AW.skip ?_
    refine AW.seq ?_
    refine AW.block ?_
    refine AW.seq ?_
    refine AW.region ?_
    refine AWl.put (R_move rfl (.no rfl) rfl (.tmp rfl fun _ => rfl)) rfl ?_
    refine AWl.put (R_move rfl (.no rfl) rfl (.tmp rfl fun _ => rfl)) rfl ?_
    refine AWl.put ((by exact R_indexAddr rfl (.no rfl) rfl (.tmp rfl fun _ => rfl) (.tmp rfl fun _ => rfl) Try.underlying22 ty3 (fun _ => ⟨by omega, (by exact map_get (by assumption))⟩))) rfl ?_
    refine AWl.put ((by exact R_load rfl (.no rfl) rfl (.tmp rfl fun _ => rfl) ty3 rfl rfl)) rfl ?_
    refine AWl.put (R_move rfl (.no rfl) rfl (.tmp rfl fun _ => rfl)) rfl ?_
    refine AWl.put (R_eq rfl (.no rfl) rfl (.tmp rfl fun _ => rfl) (.tmp rfl fun _ => rfl)) rfl ?_
    refine AWl.nil ?_
    refine AW.cond (.tmp rfl fun _ => rfl) (fun h17 => ?_) (fun h17 => ?_)
    · skip
      try simp at h17
      refine AW.seq ?_
      refine AW.le (σ' := ⟨_, [(0, _), (1, _), (5, _)], []⟩) (Le.sub0 rfl ⟨rfl, rfl, rfl, trivial⟩ trivial) ?_
      refine AW.region ?_
      refine AWl.put (R_move rfl (.no rfl) rfl (.tmp rfl fun _ => rfl)) rfl ?_
      refine AWl.put (R_assign rfl (.no rfl) rfl (.tmp rfl fun _ => rfl)) rfl ?_
      refine AWl.nil ?_
      refine AW.ret ?_
      refine Res.v rfl rfl ?_
      rw [findI_at (k := k) hk.2 hx (by have h := h17; first | (simp; omega) | (simp at h ⊢; omega))]; simp
    · skip
      try simp at h17
      refine AW.skip ?_
      refine AW.le (σ' := ⟨_, [(0, _), (1, _), (5, _)], []⟩) (Le.sub0 rfl ⟨rfl, rfl, rfl, trivial⟩ trivial) ?_
      refine AW.region ?_
      refine AWl.put (R_move rfl (.no rfl) rfl (.tmp rfl fun _ => rfl)) rfl ?_
      refine AWl.put (R_add rfl (.no rfl) rfl (.tmp rfl fun _ => rfl) (.const rfl) (fun _ => by omega)) rfl ?_
      refine AWl.put (R_assign rfl (.no rfl) rfl (.tmp rfl fun _ => rfl)) rfl ?_
      refine AWl.nil ?_
      refine Round.next (k + 1) ⟨by omega, each_succ hk.2 hx (by (have h := h17; first | (simp; omega) | (simp at h ⊢; omega)))⟩ (by omega) (Le.sub0 rfl ⟨rfl, rfl, rfl, trivial⟩ trivial)
  · skip
    try simp at hlt
    refine AW.exit ?_
    refine AW.seq ?_
    refine AW.region ?_
    refine AWl.put (R_assign rfl (.no rfl) rfl (.const rfl)) rfl ?_
    refine AWl.nil ?_
    refine AW.ret ?_
    refine Res.v rfl rfl ?_
    rw [findI_none hk.2 (by omega)]
theorem specComponentOrder (g : TGraph) (a : TAutomaton) : FnT Try.prog 32 [.agg (cGraph g), .agg (cAutomaton a)] (.a (.one (.sl 1 ((ordOf g a).map cInt)))) := by
  refine FnT.walk Try.func32 rfl (by kernel_rfl) Try.ntmps32 rfl fun hlen w0 => ?_
  try simp [cPair, cToken, cExpr, cEdge, cGraph, cStep, cWalk, cChange, cBatch, cHistory, cPositions, cAutomaton, cProductStep, cPathAtom, cConjunction, cView, cDelta, cRegistered, cRegistry] at hlen
  skip
  refine AW.seq ?_
  refine AW.region ?_
  refine AWl.put (R_boxz rfl rfl rfl (.tmp rfl fun _ => rfl) (ts := _) (by rfl)) rfl ?_
  refine AWl.put (R_boxz rfl rfl rfl (.tmp rfl fun _ => rfl) (ts := _) (by rfl)) rfl ?_
  refine AWl.put (R_assign rfl (.no rfl) rfl (.const rfl)) rfl ?_
  refine AWl.nilS (i := 4) 20001 1 rfl rfl ?_
  refine AWl.nil ?_
  refine AW.seq ?_
  refine AW.region ?_
  refine AWl.add (R_empty 13 rfl rfl rfl Try.underlying22 ty3 rfl) rfl ?_
  refine AWl.put (R_assign rfl (.no rfl) rfl (.tmp rfl fun _ => rfl)) rfl ?_
  refine AWl.nil ?_
  refine AW.seq ?_
  refine AW.seq ?_
  refine AW.region ?_
  refine AWl.put ((by exact R_load rfl (.no rfl) rfl (.tmp rfl fun _ => rfl) ty35 rfl rfl)) rfl ?_
  refine AWl.put ((by exact R_load rfl (.no rfl) rfl (.tmp rfl fun _ => rfl) ty37 rfl rfl)) rfl ?_
  refine AWl.put (R_callz (FnT.fr (specl14Good g a 0 0)) rfl (.no rfl) rfl (.cons (.tmp rfl fun _ => rfl) rfl (.cons (.tmp rfl fun _ => rfl) rfl (.cons (.const rfl) rfl (.cons (.const rfl) rfl .nil))))) rfl ?_
  refine AWl.put (R_not rfl (.no rfl) rfl (.tmp rfl fun _ => rfl)) rfl ?_
  refine AWl.nil ?_
  refine AW.cond (.tmp rfl fun _ => rfl) (fun h17 => ?_) (fun h17 => ?_)
  · skip
    rw [good_c] at h17
    refine AW.seq ?_
    refine AW.region ?_
    refine AWl.put (R_move rfl (.no rfl) rfl (.tmp rfl fun _ => rfl)) rfl ?_
    refine AWl.put (R_assign rfl (.no rfl) rfl (.tmp rfl fun _ => rfl)) rfl ?_
    refine AWl.nil ?_
    refine AW.ret ?_
    refine Res.one rfl (.tmp rfl .nil) rfl ?_
    unfold ordOf; rw [if_neg (by simpa using h17)]; rfl
  · skip
    rw [good_c] at h17
    have hgc : goodC g a = true := by simpa using h17
    obtain ⟨hg, ha⟩ := good_c2 hgc
    have hN : 1 ≤ NP g a ∧ NP g a ≤ 60 := prod_le ha hg
    have hcn := cnt_le g a
    obtain ⟨n, hn⟩ : ∃ n, n = cntOf g a := ⟨_, rfl⟩
    have hcomp := specComps g a ha hg
    refine AW.skip ?_
    refine AW.seq ?_
    refine AW.region ?_
    refine AWl.put ((by exact R_load rfl (.no rfl) rfl (.tmp rfl fun _ => rfl) ty35 rfl rfl)) rfl ?_
    refine AWl.put ((by exact R_load rfl (.no rfl) rfl (.tmp rfl fun _ => rfl) ty37 rfl rfl)) rfl ?_
    refine AWl.put (R_callz (FnT.fr (specl24Reach g a ha hg)) rfl (.no rfl) rfl (.cons (.tmp rfl fun _ => rfl) rfl (.cons (.tmp rfl fun _ => rfl) rfl .nil))) rfl ?_
    refine AWl.put (R_assign rfl (.no rfl) rfl (.tmp rfl fun _ => rfl)) rfl ?_
    refine AWl.nil ?_
    refine AW.seq ?_
    refine AW.le (σ' := ⟨_, [(0, _), (1, _), (2, _), (3, _), (4, _), (5, _), (6, _)], [(20001, _), (13, _)]⟩) (Le.sub0 rfl ⟨rfl, rfl, rfl, rfl, rfl, rfl, rfl, trivial⟩ ⟨rfl, rfl, trivial⟩) ?_
    refine AW.region ?_
    refine AWl.put (R_move rfl (.no rfl) rfl (.tmp rfl fun _ => rfl)) rfl ?_
    refine AWl.put (R_callz (FnT.fr (hcomp)) rfl (.no rfl) rfl (.cons (.tmp rfl fun _ => rfl) rfl .nil)) rfl ?_
    refine AWl.put (R_assign rfl (.no rfl) rfl (.tmp rfl fun _ => rfl)) rfl ?_
    refine AWl.nil ?_
    refine AW.seq ?_
    refine AW.region ?_
    refine AWl.put ((by exact R_load rfl (.no rfl) rfl (.tmp rfl fun _ => rfl) ty35 rfl rfl)) rfl ?_
    refine AWl.put ((by exact R_load rfl (.no rfl) rfl (.tmp rfl fun _ => rfl) ty37 rfl rfl)) rfl ?_
    refine AWl.put (R_callz (FnT.fr (specComponentCount g a)) rfl (.no rfl) rfl (.cons (.tmp rfl fun _ => rfl) rfl (.cons (.tmp rfl fun _ => rfl) rfl .nil))) rfl ?_
    refine AWl.put (R_assign rfl (.no rfl) rfl (.tmp rfl fun _ => rfl)) rfl ?_
    refine AWl.nil ?_
    refine AW.seq ?_
    refine AW.block ?_
    refine AW.loop1 (fun (out : List Int) => (OI (NP g a) (cntOf g a) (cC g a) (cR g a) out ∧ out.length ≤ cntOf g a) ∧ ordG (cP g a) (cntOf g a) (cntOf g a - out.length) out = ordOf g a) (fun (out : List Int) => ⟨_, [(5, (true, .a (.one (.rf 13)))), (4, _), (6, _), (7, _), (8, _)], [(13, .row 1 (out.map cInt))]⟩) (fun (out : List Int) => cntOf g a - out.length) ([]) ⟨⟨ord_I0 g a, by simp⟩, (by unfold ordOf; rw [if_pos hgc]; rfl)⟩ (Le.sub0 rfl ⟨rfl, rfl, rfl, rfl, rfl, trivial⟩ ⟨rfl, trivial⟩) ?_
    rintro out ⟨hk, he⟩
    refine AW.seq ?_
    refine AW.seq ?_
    refine AW.region ?_
    refine AWl.put (R_move rfl (.no rfl) rfl (.tmp rfl fun _ => rfl)) rfl ?_
    refine AWl.put ((by exact R_lenm rfl (.no rfl) rfl (.tmp rfl fun _ => rfl) (by exact .rf rfl) Try.underlying22)) rfl ?_
    refine AWl.put (R_move rfl (.no rfl) rfl (.tmp rfl fun _ => rfl)) rfl ?_
    refine AWl.put (R_lt rfl (.no rfl) rfl (.tmp rfl fun _ => rfl) (.tmp rfl fun _ => rfl)) rfl ?_
    refine AWl.nil ?_
    refine AW.cond (.tmp rfl fun _ => rfl) (fun h30 => ?_) (fun h30 => ?_)
    · skip
      try simp only [bit_at, bit_zero, shr_zero] at h30
      try simp only [Int.toNat_natCast] at h30
      try simp at h30
      have hol : out.length < cntOf g a := by omega
      refine AW.skip ?_
      refine AW.block ?_
      refine AW.seq ?_
      refine AW.region ?_
      refine AWl.put (R_assign rfl (.no rfl) rfl (.const rfl)) rfl ?_
      refine AWl.nil ?_
      refine AW.block ?_
      refine AW.loop1 (fun (c : Nat) => (c ≤ cntOf g a ∧ ∀ d, d < c → cP g a out d = false) ∧ True) (fun (c : Nat) => ⟨_, [(9, (true, .a (.one (.t (.v (.int .i64 (c : Nat))))))), (5, (true, .a (.one (.rf 13)))), (4, _), (6, _), (7, _), (8, _)], [(13, .row 1 (out.map cInt))]⟩) (fun (c : Nat) => cntOf g a - c) (0) ⟨⟨Nat.zero_le _, fun d hd => by omega⟩, trivial⟩ (Le.sub0 rfl ⟨rfl, rfl, rfl, rfl, rfl, rfl, trivial⟩ ⟨rfl, trivial⟩) ?_
      rintro c ⟨hk1, he1⟩
      refine AW.seq ?_
      refine AW.seq ?_
      refine AW.region ?_
      refine AWl.put (R_move rfl (.no rfl) rfl (.tmp rfl fun _ => rfl)) rfl ?_
      refine AWl.put (R_move rfl (.no rfl) rfl (.tmp rfl fun _ => rfl)) rfl ?_
      refine AWl.put (R_lt rfl (.no rfl) rfl (.tmp rfl fun _ => rfl) (.tmp rfl fun _ => rfl)) rfl ?_
      refine AWl.nil ?_
      refine AW.cond (.tmp rfl fun _ => rfl) (fun h33 => ?_) (fun h33 => ?_)
      · skip
        try simp only [bit_at, bit_zero, shr_zero] at h33
        try simp only [Int.toNat_natCast] at h33
        try simp at h33
        refine AW.skip ?_
        refine AW.seq ?_
        refine AW.block ?_
        refine AW.seq ?_
        refine AW.region ?_
        refine AWl.put (R_move rfl (.no rfl) rfl (.tmp rfl fun _ => rfl)) rfl ?_
        refine AWl.put (R_move rfl (.no rfl) rfl (.tmp rfl fun _ => rfl)) rfl ?_
        refine AWl.put (R_callz (FnT.fr (specl11Find out (c : Int))) rfl (.no rfl) rfl (.cons (.tmp rfl fun _ => rfl) rfl (.cons (.tmp rfl fun _ => rfl) rfl .nil))) rfl ?_
        refine AWl.put (R_lt rfl (.no rfl) rfl (.tmp rfl fun _ => rfl) (.const rfl)) rfl ?_
        refine AWl.put (R_assign rfl (.no rfl) rfl (.tmp rfl fun _ => rfl)) rfl ?_
        refine AWl.nil ?_
        refine AW.seq ?_
        refine AW.seq ?_
        refine AW.le (σ' := ⟨_, [(4, _), (5, _), (6, _), (7, _), (8, _), (9, _), (10, _)], [(13, _)]⟩) (Le.sub0 rfl ⟨rfl, rfl, rfl, rfl, rfl, rfl, rfl, trivial⟩ ⟨rfl, trivial⟩) ?_
        refine AW.region ?_
        refine AWl.put (R_assign rfl (.no rfl) rfl (.const rfl)) rfl ?_
        refine AWl.nil ?_
        refine AW.block ?_
        refine AW.loop2 (fun (i : Nat) (fr : Bool) => (i ≤ NP g a) ∧ fr = (!decide ((c : Int) ∈ out) && (List.range i).all fun i => (List.range (NP g a)).all fun k => cellB g a out c i k)) (fun (i : Nat) (fr : Bool) => ⟨_, [(11, (true, .a (.one (.t (.v (.int .i64 (i : Nat))))))), (10, (true, .a (.one (.t (.v (.bool fr)))))), (5, (true, .a (.one (.rf 13)))), (4, _), (6, _), (7, _), (8, _), (9, _)], [(13, .row 1 (out.map cInt))]⟩) (fun (i : Nat) (fr : Bool) => NP g a - i) (0) (decide (findI (fun x => decide ((c : Int) = x)) out 0 < 0)) ⟨Nat.zero_le _, (by rw [findI_neg]; simp)⟩ (Le.sub0 rfl ⟨rfl, rfl, rfl, rfl, rfl, rfl, rfl, rfl, trivial⟩ ⟨rfl, trivial⟩) ?_
        rintro i fr ⟨hk2, he2⟩
        refine AW.seq ?_
        refine AW.seq ?_
        refine AW.region ?_
        refine AWl.put (R_move rfl (.no rfl) rfl (.tmp rfl fun _ => rfl)) rfl ?_
        refine AWl.put (R_move rfl (.no rfl) rfl (.tmp rfl fun _ => rfl)) rfl ?_
        refine AWl.put ((by exact R_lenm rfl (.no rfl) rfl (.tmp rfl fun _ => rfl) (by exact .t) Try.underlying22)) rfl ?_
        refine AWl.put (R_lt rfl (.no rfl) rfl (.tmp rfl fun _ => rfl) (.tmp rfl fun _ => rfl)) rfl ?_
        refine AWl.put (R_move rfl (.no rfl) rfl (.tmp rfl fun _ => rfl)) rfl ?_
        refine AWl.put (R_move rfl (by exact .yes1 rfl rfl rfl rfl) rfl (.tmp rfl (by exact fun _ => rfl))) rfl ?_
        refine AWl.put (R_and rfl (.no rfl) rfl (.tmp rfl fun _ => rfl) (.tmp rfl (by exact id))) rfl ?_
        refine AWl.nil ?_
        refine AW.cond (.tmp rfl fun _ => rfl) (fun h46 => ?_) (fun h46 => ?_)
        · skip
          try simp only [bit_at, bit_zero, shr_zero] at h46
          try simp only [Int.toNat_natCast] at h46
          try simp at h46
          have hiN : i < NP g a := by (have h := h46; first | omega | (simp at h; omega))
          have hfr : fr = true := by (have h := h46; first | exact h.2 | (simp at h; exact h.2))
          have hgi : ((List.range (NP g a)).map (cC g a))[i]? = some (cC g a i) := range_get _ hiN
          have hgw : ((List.range (NP g a)).map fun p => ((wK (nxN g a) (NP g a) p : Nat) : Int))[i]? = some ((wK (nxN g a) (NP g a) i : Nat) : Int) := range_get _ hiN
          refine AW.skip ?_
          refine AW.seq ?_
          refine AW.block ?_
          refine AW.seq ?_
          refine AW.le (σ' := ⟨_, [(4, _), (5, _), (6, _), (7, _), (8, _), (9, _), (10, _), (11, _)], [(13, _)]⟩) (Le.sub0 rfl ⟨rfl, rfl, rfl, rfl, rfl, rfl, rfl, rfl, trivial⟩ ⟨rfl, trivial⟩) ?_
          refine AW.region ?_
          refine AWl.put (R_assign rfl (.no rfl) rfl (.const rfl)) rfl ?_
          refine AWl.nil ?_
          refine AW.block ?_
          refine AW.loop2 (fun (k : Nat) (fr2 : Bool) => (k ≤ NP g a) ∧ fr2 = (List.range k).all fun k => cellB g a out c i k) (fun (k : Nat) (fr2 : Bool) => ⟨_, [(12, (true, .a (.one (.t (.v (.int .i64 (k : Nat))))))), (10, (true, .a (.one (.t (.v (.bool fr2)))))), (5, (true, .a (.one (.rf 13)))), (4, _), (6, _), (7, _), (8, _), (9, _), (11, _)], [(13, .row 1 (out.map cInt))]⟩) (fun (k : Nat) (fr2 : Bool) => NP g a - k) (0) (fr) ⟨Nat.zero_le _, (by rw [hfr]; rfl)⟩ (Le.sub0 rfl ⟨rfl, rfl, rfl, rfl, rfl, rfl, rfl, rfl, rfl, trivial⟩ ⟨rfl, trivial⟩) ?_
          rintro k fr2 ⟨hk3, he3⟩
          refine AW.seq ?_
          refine AW.seq ?_
          refine AW.region ?_
          refine AWl.put (R_move rfl (.no rfl) rfl (.tmp rfl fun _ => rfl)) rfl ?_
          refine AWl.put (R_move rfl (.no rfl) rfl (.tmp rfl fun _ => rfl)) rfl ?_
          refine AWl.put ((by exact R_lenm rfl (.no rfl) rfl (.tmp rfl fun _ => rfl) (by exact .t) Try.underlying22)) rfl ?_
          refine AWl.put (R_lt rfl (.no rfl) rfl (.tmp rfl fun _ => rfl) (.tmp rfl fun _ => rfl)) rfl ?_
          refine AWl.put (R_move rfl (.no rfl) rfl (.tmp rfl fun _ => rfl)) rfl ?_
          refine AWl.put (R_move rfl (by exact .yes1 rfl rfl rfl rfl) rfl (.tmp rfl (by exact fun _ => rfl))) rfl ?_
          refine AWl.put (R_and rfl (.no rfl) rfl (.tmp rfl fun _ => rfl) (.tmp rfl (by exact id))) rfl ?_
          refine AWl.nil ?_
          refine AW.cond (.tmp rfl fun _ => rfl) (fun h55 => ?_) (fun h55 => ?_)
          · skip
            try simp only [bit_at, bit_zero, shr_zero] at h55
            try simp only [Int.toNat_natCast] at h55
            try simp at h55
            have hkN : k < NP g a := by (have h := h55; first | omega | (simp at h; omega))
            have hgk : ((List.range (NP g a)).map (cC g a))[k]? = some (cC g a k) := range_get _ hkN
            refine AW.skip ?_
            refine AW.seq ?_
            refine AW.block ?_
            refine AW.seq ?_
            refine AW.le (σ' := ⟨_, [(4, _), (5, _), (6, _), (7, _), (8, _), (9, _), (10, _), (11, _), (12, _)], [(13, _)]⟩) (Le.sub0 rfl ⟨rfl, rfl, rfl, rfl, rfl, rfl, rfl, rfl, rfl, trivial⟩ ⟨rfl, trivial⟩) ?_
            refine AW.region ?_
            refine AWl.put (R_move rfl (.no rfl) rfl (.tmp rfl fun _ => rfl)) rfl ?_
            refine AWl.put (R_move rfl (.no rfl) rfl (.tmp rfl fun _ => rfl)) rfl ?_
            refine AWl.put ((by exact R_indexAddr rfl (.no rfl) rfl (.tmp rfl fun _ => rfl) (.tmp rfl fun _ => rfl) Try.underlying22 ty3 (fun _ => ⟨by omega, (by exact map_get hgk)⟩))) rfl ?_
            refine AWl.put ((by exact R_load rfl (.no rfl) rfl (.tmp rfl fun _ => rfl) ty3 rfl rfl)) rfl ?_
            refine AWl.put (R_move rfl (.no rfl) rfl (.tmp rfl fun _ => rfl)) rfl ?_
            refine AWl.put (R_eq rfl (.no rfl) rfl (.tmp rfl fun _ => rfl) (.tmp rfl fun _ => rfl)) rfl ?_
            refine AWl.put (R_move rfl (.no rfl) rfl (.tmp rfl fun _ => rfl)) rfl ?_
            refine AWl.put (R_move rfl (by exact .yes1 rfl rfl rfl rfl) rfl (.tmp rfl (by exact fun _ => rfl))) rfl ?_
            refine AWl.put (R_move rfl (by exact .yes1 rfl rfl rfl rfl) rfl (.tmp rfl (by exact fun _ => rfl))) rfl ?_
            refine AWl.put ((by exact R_indexAddr rfl (by exact .yes1 rfl rfl rfl rfl) rfl (.tmp rfl (by exact id)) (.tmp rfl (by exact id)) Try.underlying22 ty3 (fun hq => by (try simp at hq); exact ⟨by omega, (by exact map_get hgi)⟩))) rfl ?_
            refine AWl.put ((by exact R_load rfl (by exact .yes1 rfl rfl rfl rfl) rfl (.tmp rfl (by exact id)) ty3 rfl rfl)) rfl ?_
            refine AWl.put (R_move rfl (by exact .yes1 rfl rfl rfl rfl) rfl (.tmp rfl (by exact fun _ => rfl))) rfl ?_
            refine AWl.put (R_ne rfl (by exact .yes1 rfl rfl rfl rfl) rfl (.tmp rfl (by exact id)) (.tmp rfl (by exact id))) rfl ?_
            refine AWl.put (R_and rfl (.no rfl) rfl (.tmp rfl fun _ => rfl) (.tmp rfl (by exact id))) rfl ?_
            refine AWl.put (R_move rfl (.no rfl) rfl (.tmp rfl fun _ => rfl)) rfl ?_
            refine AWl.put (R_move rfl (by exact .yes1 rfl rfl rfl rfl) rfl (.tmp rfl (by exact fun _ => rfl))) rfl ?_
            refine AWl.put (R_move rfl (by exact .yes1 rfl rfl rfl rfl) rfl (.tmp rfl (by exact fun _ => rfl))) rfl ?_
            refine AWl.put ((by exact R_indexAddr rfl (by exact .yes1 rfl rfl rfl rfl) rfl (.tmp rfl (by exact id)) (.tmp rfl (by exact id)) Try.underlying22 ty3 (fun hq => by (try simp at hq); exact ⟨by omega, (by exact map_get hgw)⟩))) rfl ?_
            refine AWl.put ((by exact R_load rfl (by exact .yes1 rfl rfl rfl rfl) rfl (.tmp rfl (by exact id)) ty3 rfl rfl)) rfl ?_
            refine AWl.put (R_move rfl (by exact .yes1 rfl rfl rfl rfl) rfl (.tmp rfl (by exact fun _ => rfl))) rfl ?_
            refine AWl.put (R_shr rfl (by exact .yes1 rfl rfl rfl rfl) rfl (.tmp rfl (by exact id)) (.tmp rfl (by exact id)) (fun hq => by first | omega | (simp at hq; omega))) rfl ?_
            refine AWl.put (R_and1 rfl (by exact .yes1 rfl rfl rfl rfl) rfl (.tmp rfl (by exact id)) (.const rfl) (fun _ => by first | exact Int.natCast_nonneg _ | omega)) rfl ?_
            refine AWl.put (R_eq rfl (by exact .yes1 rfl rfl rfl rfl) rfl (.tmp rfl (by exact id)) (.const rfl)) rfl ?_
            refine AWl.put (R_and rfl (.no rfl) rfl (.tmp rfl fun _ => rfl) (.tmp rfl (by exact id))) rfl ?_
            refine AWl.put (R_move rfl (.no rfl) rfl (.tmp rfl fun _ => rfl)) rfl ?_
            refine AWl.put (R_move rfl (by exact .yes1 rfl rfl rfl rfl) rfl (.tmp rfl (by exact fun _ => rfl))) rfl ?_
            refine AWl.put (R_move rfl (by exact .yes1 rfl rfl rfl rfl) rfl (.tmp rfl (by exact fun _ => rfl))) rfl ?_
            refine AWl.put (R_move rfl (by exact .yes1 rfl rfl rfl rfl) rfl (.tmp rfl (by exact fun _ => rfl))) rfl ?_
            refine AWl.put ((by exact R_indexAddr rfl (by exact .yes1 rfl rfl rfl rfl) rfl (.tmp rfl (by exact id)) (.tmp rfl (by exact id)) Try.underlying22 ty3 (fun hq => by (try simp at hq); exact ⟨by omega, (by exact map_get hgi)⟩))) rfl ?_
            refine AWl.put ((by exact R_load rfl (by exact .yes1 rfl rfl rfl rfl) rfl (.tmp rfl (by exact id)) ty3 rfl rfl)) rfl ?_
            refine AWl.put (R_callz (FnT.fr (specl11Find out (cC g a i))) rfl (by exact .yes1 rfl rfl rfl rfl) rfl (.cons (.tmp rfl (by exact id)) rfl (.cons (.tmp rfl (by exact id)) rfl .nil))) rfl ?_
            refine AWl.put (R_lt rfl (by exact .yes1 rfl rfl rfl rfl) rfl (.tmp rfl (by exact id)) (.const rfl)) rfl ?_
            refine AWl.put (R_and rfl (.no rfl) rfl (.tmp rfl fun _ => rfl) (.tmp rfl (by exact id))) rfl ?_
            refine AWl.nil ?_
            refine AW.cond (.tmp rfl fun _ => rfl) (fun h90 => ?_) (fun h90 => ?_)
            · skip
              try simp only [bit_at, bit_zero, shr_zero] at h90
              try simp only [Int.toNat_natCast] at h90
              try simp at h90
              have hcell : cellB g a out c i k = false := by (have h := h90; unfold cellB; rw [cR_eq g a hiN]; (try simp only [bit_at] at h); (try simp at h); simp; exact ⟨h.1.1.1, h.1.1.2, h.1.2, (findI_out _ _).1 h.2⟩)
              refine AW.le (σ' := ⟨_, [(4, _), (5, _), (6, _), (7, _), (8, _), (9, _), (10, _), (11, _), (12, _)], [(13, _)]⟩) (Le.sub0 rfl ⟨rfl, rfl, rfl, rfl, rfl, rfl, rfl, rfl, rfl, trivial⟩ ⟨rfl, trivial⟩) ?_
              refine AW.region ?_
              refine AWl.put (R_assign rfl (.no rfl) rfl (.const rfl)) rfl ?_
              refine AWl.nil ?_
              refine AW.region ?_
              refine AWl.put (R_move rfl (.no rfl) rfl (.tmp rfl fun _ => rfl)) rfl ?_
              refine AWl.put (R_add rfl (.no rfl) rfl (.tmp rfl fun _ => rfl) (.const rfl) (fun _ => by omega)) rfl ?_
              refine AWl.put (R_assign rfl (.no rfl) rfl (.tmp rfl fun _ => rfl)) rfl ?_
              refine AWl.nil ?_
              repeat (with_reducible refine BlockQ.nor ?_)
              refine Round2.next (k + 1) (false) ⟨by omega, (by rw [all_succ, hcell]; simp)⟩ (by omega) (Le.sub0 rfl ⟨rfl, rfl, rfl, rfl, rfl, rfl, rfl, rfl, rfl, trivial⟩ ⟨(by rfl), trivial⟩)
            · skip
              try simp only [bit_at, bit_zero, shr_zero] at h90
              try simp only [Int.toNat_natCast] at h90
              try simp at h90
              have hcell : cellB g a out c i k = true := by (have h := h90; unfold cellB; rw [cR_eq g a hiN]; (try simp only [bit_at] at h); (try simp at h); simp; refine Classical.byContradiction fun hn => ?_; simp only [not_or, Bool.not_eq_false, Classical.not_not] at hn; have h2 := h hn.1 hn.2.1 hn.2.2.1; have h3 := (findI_out (cC g a i) out).2 hn.2.2.2; omega)
              refine AW.skip ?_
              refine AW.le (σ' := ⟨_, [(4, _), (5, _), (6, _), (7, _), (8, _), (9, _), (10, _), (11, _), (12, _)], [(13, _)]⟩) (Le.sub0 rfl ⟨rfl, rfl, rfl, rfl, rfl, rfl, rfl, rfl, rfl, trivial⟩ ⟨rfl, trivial⟩) ?_
              refine AW.region ?_
              refine AWl.put (R_move rfl (.no rfl) rfl (.tmp rfl fun _ => rfl)) rfl ?_
              refine AWl.put (R_add rfl (.no rfl) rfl (.tmp rfl fun _ => rfl) (.const rfl) (fun _ => by omega)) rfl ?_
              refine AWl.put (R_assign rfl (.no rfl) rfl (.tmp rfl fun _ => rfl)) rfl ?_
              refine AWl.nil ?_
              repeat (with_reducible refine BlockQ.nor ?_)
              refine Round2.next (k + 1) (fr2) ⟨by omega, (by rw [all_succ, hcell, he3]; simp)⟩ (by omega) (Le.sub0 rfl ⟨rfl, rfl, rfl, rfl, rfl, rfl, rfl, rfl, rfl, trivial⟩ ⟨(by rfl), trivial⟩)
          · skip
            try simp only [bit_at, bit_zero, shr_zero] at h55
            try simp only [Int.toNat_natCast] at h55
            try simp at h55
            have hend : k = NP g a ∨ ((List.range k).all fun k => cellB g a out c i k) = false := by (have h := h55; rw [← he3]; by_cases h2 : k < NP g a; (exact .inr (by simpa [h2] using h)); exact .inl (by omega))
            refine AW.exit ?_
            refine AW.le (σ' := ⟨_, [(4, _), (5, _), (6, _), (7, _), (8, _), (9, _), (10, _), (11, _), (12, _)], [(13, _)]⟩) (Le.sub0 rfl ⟨rfl, rfl, rfl, rfl, rfl, rfl, rfl, rfl, rfl, trivial⟩ ⟨rfl, trivial⟩) ?_
            refine AW.region ?_
            refine AWl.put (R_move rfl (.no rfl) rfl (.tmp rfl fun _ => rfl)) rfl ?_
            refine AWl.put (R_add rfl (.no rfl) rfl (.tmp rfl fun _ => rfl) (.const rfl) (fun _ => by omega)) rfl ?_
            refine AWl.put (R_assign rfl (.no rfl) rfl (.tmp rfl fun _ => rfl)) rfl ?_
            refine AWl.nil ?_
            repeat (with_reducible refine BlockQ.nor ?_)
            refine Round2.next (i + 1) (fr2) ⟨by omega, (by rw [all_succ, ← Bool.and_assoc, ← he2, hfr, Bool.true_and, he3]; exact all_part hend hk3)⟩ (by omega) (Le.sub0 rfl ⟨rfl, rfl, rfl, rfl, rfl, rfl, rfl, rfl, trivial⟩ ⟨(by rfl), trivial⟩)
        · skip
          try simp only [bit_at, bit_zero, shr_zero] at h46
          try simp only [Int.toNat_natCast] at h46
          try simp at h46
          have hfin : fr = cP g a out c := by (have h := h46; rw [cP_eq, he2]; refine and_part ?_ hk2; rw [← he2]; by_cases h2 : i < NP g a; (exact .inr (by simpa [h2] using h)); exact .inl (by omega))
          refine AW.exit ?_
          refine AW.seq ?_
          refine AW.le (σ' := ⟨_, [(4, _), (5, _), (6, _), (7, _), (8, _), (9, _), (10, _), (11, _)], [(13, _)]⟩) (Le.sub0 rfl ⟨rfl, rfl, rfl, rfl, rfl, rfl, rfl, rfl, trivial⟩ ⟨rfl, trivial⟩) ?_
          refine AW.region ?_
          refine AWl.put (R_move rfl (.no rfl) rfl (.tmp rfl fun _ => rfl)) rfl ?_
          refine AWl.nil ?_
          refine AW.cond (.tmp rfl fun _ => rfl) (fun h91 => ?_) (fun h91 => ?_)
          · skip
            try simp only [bit_at, bit_zero, shr_zero] at h91
            try simp only [Int.toNat_natCast] at h91
            try simp at h91
            have hon := ord_on ha hg hgc hk.1 (show c < cntOf g a by omega) (by rw [← hfin]; exact h91) hk1.2
            refine AW.seq ?_
            refine AW.region ?_
            refine AWl.put (R_move rfl (.no rfl) rfl (.tmp rfl fun _ => rfl)) rfl ?_
            refine AWl.put (R_move rfl (.no rfl) rfl (.tmp rfl fun _ => rfl)) rfl ?_
            refine AWl.absadd (R_list (xs := [.tmp 93]) 94 rfl rfl rfl (.cons (.tmp rfl fun _ => rfl) rfl rfl .nil) Try.underlying22 in3 rfl rfl rfl rfl) rfl ?_
            refine AWl.chgput (R_append rfl rfl rfl (.tmp rfl fun _ => rfl) rfl (.tmp rfl fun _ => rfl) (by exact .rf rfl) (by rfl) Try.underlying22 in3 rfl (by (simp [chunk]; omega)) (by (unfold maxLen; simp [chunk]; omega))) rfl ?_
            refine AWl.le (σ' := ⟨_, [(4, _), (5, _), (6, _), (7, _), (8, _), (9, _), (10, _), (11, _), (91, _), (95, _)], [(13, _), (94, _)]⟩) (Le.sub0 rfl ⟨rfl, rfl, rfl, rfl, rfl, rfl, rfl, rfl, rfl, rfl, trivial⟩ ⟨rfl, rfl, trivial⟩) ?_
            refine AWl.put (R_assign rfl (.no rfl) rfl (.tmp rfl fun _ => rfl)) rfl ?_
            refine AWl.nil ?_
            refine AW.exit ?_
            repeat (with_reducible refine BlockQ.nor ?_)
            repeat (with_reducible first | refine BlockQ.nor ?_ | refine ThenQ.ex ?_ | refine BlockQ.here ?_ | refine BlockQ.past (by decide) ?_ | refine Round1.ex ?_ | refine Round2.ex ?_ | refine Round3.ex ?_ | refine Round4.ex ?_ | refine Round5.ex ?_)
            refine Round1.next (out ++ [(c : Int)]) ⟨⟨hon.1, hon.2.1⟩, hon.2.2 ▸ he⟩ (by rw [List.length_append, List.length_singleton]; omega) (Le.sub0 rfl ⟨rfl, rfl, rfl, rfl, rfl, trivial⟩ ⟨(by (refine congrArg (fun r => some (R.row _ r)) ?_; simp [chunk, List.map_set, cInt, cBool, cIntS, cPair, cToken, cExpr, cEdge, cGraph, cStep, cWalk, cChange, cBatch, cHistory, cPositions, cAutomaton, cProductStep, cPathAtom, cConjunction, cView, cDelta, cRegistered, cRegistry])), trivial⟩)
          · skip
            try simp only [bit_at, bit_zero, shr_zero] at h91
            try simp only [Int.toNat_natCast] at h91
            try simp at h91
            have hcf : cP g a out c = false := by rw [← hfin]; exact h91
            refine AW.skip ?_
            refine AW.region ?_
            refine AWl.put (R_move rfl (.no rfl) rfl (.tmp rfl fun _ => rfl)) rfl ?_
            refine AWl.put (R_add rfl (.no rfl) rfl (.tmp rfl fun _ => rfl) (.const rfl) (fun _ => by omega)) rfl ?_
            refine AWl.put (R_assign rfl (.no rfl) rfl (.tmp rfl fun _ => rfl)) rfl ?_
            refine AWl.nil ?_
            repeat (with_reducible refine BlockQ.nor ?_)
            refine Round1.next (c + 1) ⟨⟨by omega, fun d hd => by rcases Nat.lt_or_eq_of_le (Nat.le_of_lt_succ hd) with h | h; exact hk1.2 d h; rw [h]; exact hcf⟩, trivial⟩ (by omega) (Le.sub0 rfl ⟨rfl, rfl, rfl, rfl, rfl, rfl, trivial⟩ ⟨(by rfl), trivial⟩)
      · exact absurd h33 (by exact fun hcc => ord_ex ha hg hgc hk.1 hol (fun d hd => hk1.2 d (by simp at hcc; omega)))
    · skip
      try simp only [bit_at, bit_zero, shr_zero] at h30
      try simp only [Int.toNat_natCast] at h30
      try simp at h30
      refine AW.exit ?_
      refine AW.seq ?_
      refine AW.region ?_
      refine AWl.put (R_move rfl (.no rfl) rfl (.tmp rfl fun _ => rfl)) rfl ?_
      refine AWl.put (R_assign rfl (.no rfl) rfl (.tmp rfl fun _ => rfl)) rfl ?_
      refine AWl.nil ?_
      refine AW.ret ?_
      refine Res.one rfl (.tmp rfl .nil) rfl ?_
      rw [← he, show cntOf g a - out.length = 0 by omega]; rfl
theorem implentered1 (comps : List Int) (c k : Int) (hk : 0 ≤ k ∧ k < comps.length) : FnT Try.prog 144 [.one (.v (.int .i64 k)), .one (.ad [.sl 1 (comps.map cInt)]), .one (.ad [.v (.int .i64 c)])] (.a (.one (.v (.bool (decide (atI comps k = c)))))) := by
  refine FnT.walk Try.func144 rfl (by kernel_rfl) Try.ntmps144 rfl fun hlen w0 => ?_
  try simp [cPair, cToken, cExpr, cEdge, cGraph, cStep, cWalk, cChange, cBatch, cHistory, cPositions, cAutomaton, cProductStep, cPathAtom, cConjunction, cView, cDelta, cRegistered, cRegistry] at hlen
  have hg := atI_get (out := comps) (k := k) (by omega)
  refine AW.seq ?_
  refine AW.region ?_
  refine AWl.put (R_assign rfl (.no rfl) rfl (.const rfl)) rfl ?_
  refine AWl.nil ?_
  refine AW.seq ?_
  refine AW.drawn 7 (nthB [[], [], [0, 1], [0, 1, 2], [], [0, 1, 2, 3, 4], [0, 1, 2, 3, 4, 5]]) (by kernel_rfl) (by kernel_rfl) (by kernel_rfl) ?_
  refine DrawC.step rfl rfl rfl (Loc.of rfl fun σ' hs => (by exact R_load rfl (.no rfl) (hd_sup hs rfl) (.tmp (hs.slots _ _ rfl) fun _ => rfl) ty22 rfl rfl)) ?_
  refine DrawC.step rfl rfl rfl (Loc.of rfl fun σ' hs => R_move rfl (.no rfl) (hd_sup hs rfl) (.tmp (hs.slots _ _ rfl) fun _ => rfl)) ?_
  refine DrawC.step rfl rfl rfl (Loc.of rfl fun σ' hs => (by exact R_indexAddr rfl (.no rfl) (hd_sup hs rfl) (.tmp (hs.slots _ _ rfl) fun _ => rfl) (.tmp (hs.slots _ _ rfl) fun _ => rfl) Try.underlying22 ty3 (fun _ => ⟨by omega, (map_get hg)⟩))) ?_
  refine DrawC.step rfl rfl rfl (Loc.of rfl fun σ' hs => (by exact R_load rfl (.no rfl) (hd_sup hs rfl) (.tmp (hs.slots _ _ rfl) fun _ => rfl) ty3 rfl rfl)) ?_
  refine DrawC.step rfl rfl rfl (Loc.of rfl fun σ' hs => (by exact R_load rfl (.no rfl) (hd_sup hs rfl) (.tmp (hs.slots _ _ rfl) fun _ => rfl) ty3 rfl rfl)) ?_
  refine DrawC.step rfl rfl rfl (Loc.of rfl fun σ' hs => R_eq rfl (.no rfl) (hd_sup hs rfl) (.tmp (hs.slots _ _ rfl) fun _ => rfl) (.tmp (hs.slots _ _ rfl) fun _ => rfl)) ?_
  refine DrawC.step rfl rfl rfl (Loc.of rfl fun σ' hs => R_assign rfl (.no rfl) (hd_sup hs rfl) (.tmp (hs.slots _ _ rfl) fun _ => rfl)) ?_
  refine DrawC.fin rfl rfl ?_
  refine AWl.nil ?_
  refine AW.ret ?_
  refine Res.v rfl rfl ?_
  rfl
theorem implentered (next : List (List Int)) (hN : next.length ≤ 65536) (hn : ∀ p, p < next.length → ∀ k ∈ nxL next p, 0 ≤ k ∧ k < next.length) (C : Nat → Int) (out : List Int) (c : Int) : FnT Try.prog 84 [.one (.sl 1 (next.map cIntS)), .one (.sl 1 (((List.range next.length).map C).map cInt)), .one (.sl 1 (out.map cInt)), .one (.v (.int .i64 c))] (.a (.one (.v (.bool (entB next C out c))))) := by
  obtain ⟨comps, hco⟩ : ∃ comps, comps = (List.range next.length).map C := ⟨_, rfl⟩
  have hcl : comps.length = next.length := by rw [hco]; simp
  have hcat : ∀ p, p < next.length → atI comps (p : Int) = C p := fun p hp => by unfold atI; rw [Int.toNat_natCast, hco, range_get C hp]; rfl
  rw [← hco]
  refine FnT.walk Try.func84 rfl (by kernel_rfl) Try.ntmps84 rfl fun hlen w0 => ?_
  try simp [cPair, cToken, cExpr, cEdge, cGraph, cStep, cWalk, cChange, cBatch, cHistory, cPositions, cAutomaton, cProductStep, cPathAtom, cConjunction, cView, cDelta, cRegistered, cRegistry] at hlen
  skip
  refine AW.seq ?_
  refine AW.region ?_
  refine AWl.put (R_boxz rfl rfl rfl (.tmp rfl fun _ => rfl) (ts := _) (by exact cells_t1 _)) rfl ?_
  refine AWl.put (R_boxz rfl rfl rfl (.tmp rfl fun _ => rfl) (ts := _) (by exact cells_t1 _)) rfl ?_
  refine AWl.put (R_assign rfl (.no rfl) rfl (.const rfl)) rfl ?_
  refine AWl.nil ?_
  refine AW.seq ?_
  refine AW.seq ?_
  refine AW.region ?_
  refine AWl.put (R_move rfl (.no rfl) rfl (.tmp rfl fun _ => rfl)) rfl ?_
  refine AWl.put ((by exact R_lenm rfl (.no rfl) rfl (.tmp rfl fun _ => rfl) (by exact .t) Try.underlying27)) rfl ?_
  refine AWl.put (R_move rfl (.no rfl) rfl (.const rfl)) rfl ?_
  refine AWl.nil ?_
  refine AW.block ?_
  refine AW.loop1 (fun (i : Nat) => (i ≤ next.length ∧ ∀ j, j < i → entH next C out c j = false) ∧ True) (fun (i : Nat) => ⟨_, [(13, (true, .a (.one (.t (.v (.int .i64 (i : Nat))))))), (2, _), (5, _), (7, _), (11, _), (12, _)], []⟩) (fun (i : Nat) => next.length - i) (0) ⟨⟨Nat.zero_le _, fun j hj => by omega⟩, trivial⟩ (Le.sub0 rfl ⟨rfl, rfl, rfl, rfl, rfl, rfl, trivial⟩ trivial) ?_
  rintro i ⟨hk, he⟩
  refine AW.seq ?_
  refine AW.region ?_
  refine AWl.put (R_lt rfl (.no rfl) rfl (.tmp rfl fun _ => rfl) (.tmp rfl fun _ => rfl)) rfl ?_
  refine AWl.nil ?_
  refine AW.seq ?_
  refine AW.cond (.tmp rfl fun _ => rfl) (fun h14 => ?_) (fun h14 => ?_)
  · skip
    try simp at h14
    have hiN : i < next.length := by omega
    obtain ⟨l, hl⟩ : ∃ ξ, next[i]? = some ξ := ⟨_, List.getElem?_eq_getElem hiN⟩
    have hnl : nxL next i = l := nxL_at hl
    have hci : comps[i]? = some (C i) := by rw [hco]; exact range_get C hiN
    have hcz : ∀ e ∈ l, atI comps e = C e.toNat := fun e he => (by have hb := hn i hiN e (by rw [hnl]; exact he); have := hcat e.toNat (by omega); rwa [Int.toNat_of_nonneg hb.1] at this)
    refine AW.skip ?_
    refine AW.seq ?_
    refine AW.block ?_
    refine AW.seq ?_
    refine AW.region ?_
    refine AWl.put (R_move rfl (.no rfl) rfl (.tmp rfl fun _ => rfl)) rfl ?_
    refine AWl.put ((by exact R_indexAddr rfl (.no rfl) rfl (.tmp rfl fun _ => rfl) (.tmp rfl fun _ => rfl) Try.underlying27 ty22 (fun _ => ⟨by omega, (by exact map_get hl)⟩))) rfl ?_
    refine AWl.put ((by exact R_load rfl (.no rfl) rfl (.tmp rfl fun _ => rfl) ty22 rfl rfl)) rfl ?_
    refine AWl.put (R_assign rfl (.no rfl) rfl (.tmp rfl fun _ => rfl)) rfl ?_
    refine AWl.put (R_assign rfl (.no rfl) rfl (.tmp rfl fun _ => rfl)) rfl ?_
    refine AWl.nil ?_
    refine AW.seq ?_
    refine AW.seq ?_
    refine AW.drawn 14 (nthB [[], [], [0, 1], [0, 1, 2], [], [0, 1, 2, 3, 4], [0, 1, 2, 3, 4, 5], [0, 1, 2, 3, 4, 5, 6], [0, 1, 2, 3, 4, 5, 6], [0, 1, 2, 3, 4, 5, 6], [0, 1, 2, 3, 4, 5, 6, 8, 9], [0, 1, 2, 3, 4, 5, 6, 8, 9, 10], [0, 1, 2, 3, 4, 5, 6, 7, 8, 9, 10, 11], [0, 1, 2, 3, 4, 5, 6, 7, 8, 9, 10, 11, 12]]) (by kernel_rfl) (by kernel_rfl) (by kernel_rfl) ?_
    refine DrawC.step rfl rfl rfl (Loc.of rfl fun σ' hs => (by exact R_load rfl (.no rfl) (hd_sup hs rfl) (.tmp (hs.slots _ _ rfl) fun _ => rfl) ty22 rfl rfl)) ?_
    refine DrawC.step rfl rfl rfl (Loc.of rfl fun σ' hs => R_move rfl (.no rfl) (hd_sup hs rfl) (.tmp (hs.slots _ _ rfl) fun _ => rfl)) ?_
    refine DrawC.step rfl rfl rfl (Loc.of rfl fun σ' hs => (by exact R_indexAddr rfl (.no rfl) (hd_sup hs rfl) (.tmp (hs.slots _ _ rfl) fun _ => rfl) (.tmp (hs.slots _ _ rfl) fun _ => rfl) Try.underlying22 ty3 (fun _ => ⟨by omega, (by exact map_get hci)⟩))) ?_
    refine DrawC.step rfl rfl rfl (Loc.of rfl fun σ' hs => (by exact R_load rfl (.no rfl) (hd_sup hs rfl) (.tmp (hs.slots _ _ rfl) fun _ => rfl) ty3 rfl rfl)) ?_
    refine DrawC.step rfl rfl rfl (Loc.of rfl fun σ' hs => (by exact R_load rfl (.no rfl) (hd_sup hs rfl) (.tmp (hs.slots _ _ rfl) fun _ => rfl) ty3 rfl rfl)) ?_
    refine DrawC.step rfl rfl rfl (Loc.of rfl fun σ' hs => R_eq rfl (.no rfl) (hd_sup hs rfl) (.tmp (hs.slots _ _ rfl) fun _ => rfl) (.tmp (hs.slots _ _ rfl) fun _ => rfl)) ?_
    refine DrawC.step rfl rfl rfl (Loc.of rfl fun σ' hs => R_move rfl (.no rfl) (hd_sup hs rfl) (.tmp (hs.slots _ _ rfl) fun _ => rfl)) ?_
    refine DrawC.step rfl rfl rfl (Loc.of rfl fun σ' hs => R_move rfl (by exact .not1 rfl rfl (hs.slots _ _ rfl) (by rw [hs.n]; rfl)) (hd_sup hs rfl) (.tmp (hs.slots _ _ rfl) (by exact fun _ => rfl))) ?_
    refine DrawC.step rfl rfl rfl (Loc.of rfl fun σ' hs => (by exact R_load rfl (by exact .not1 rfl rfl (hs.slots _ _ rfl) (by rw [hs.n]; rfl)) (hd_sup hs rfl) (.tmp (hs.slots _ _ rfl) (by exact fun _ => rfl)) ty22 rfl rfl)) ?_
    refine DrawC.step rfl rfl rfl (Loc.of rfl fun σ' hs => R_move rfl (by exact .not1 rfl rfl (hs.slots _ _ rfl) (by rw [hs.n]; rfl)) (hd_sup hs rfl) (.tmp (hs.slots _ _ rfl) (by exact fun _ => rfl))) ?_
    refine DrawC.step rfl rfl rfl (Loc.of rfl fun σ' hs => (by exact R_indexAddr rfl (by exact .not1 rfl rfl (hs.slots _ _ rfl) (by rw [hs.n]; rfl)) (hd_sup hs rfl) (.tmp (hs.slots _ _ rfl) (by exact id)) (.tmp (hs.slots _ _ rfl) (by exact id)) Try.underlying22 ty3 (fun hq => by (try simp at hq); exact ⟨by omega, (by exact map_get hci)⟩))) ?_
    refine DrawC.step rfl rfl rfl (Loc.of rfl fun σ' hs => (by exact R_load rfl (by exact .not1 rfl rfl (hs.slots _ _ rfl) (by rw [hs.n]; rfl)) (hd_sup hs rfl) (.tmp (hs.slots _ _ rfl) (by exact id)) ty3 rfl rfl)) ?_
    refine DrawC.step rfl rfl rfl (Loc.of rfl fun σ' hs => R_callz (FnT.fr (slicesContainsInt out (C i))) rfl (by exact .not1 rfl rfl (hs.slots _ _ rfl) (by rw [hs.n]; rfl)) (hd_sup hs rfl) (.cons (.tmp (hs.slots _ _ rfl) (by exact id)) (readA_sup hs rfl) (.cons (.tmp (hs.slots _ _ rfl) (by exact id)) (readA_sup hs rfl) .nil))) ?_
    refine DrawC.step rfl rfl rfl (Loc.of rfl fun σ' hs => R_or rfl (.no rfl) (hd_sup hs rfl) (.tmp (hs.slots _ _ rfl) fun _ => rfl) (.tmp (hs.slots _ _ rfl) (by exact id))) ?_
    refine DrawC.fin rfl rfl ?_
    refine AWl.nil ?_
    refine AW.cond (.tmp rfl fun _ => rfl) (fun h31 => ?_) (fun h31 => ?_)
    · skip
      try simp at h31
      have hhit : entH next C out c i = false := by (have h := h31; unfold entH; by_cases h1 : C i = c; (simp [h1]); (have h2 : C i ∈ out := by simpa [h1] using h); simp [h2])
      refine AW.exit ?_
      refine AW.le (σ' := ⟨_, [(2, _), (5, _), (7, _), (9, _), (10, _), (11, _), (12, _), (13, _)], []⟩) (Le.sub0 rfl ⟨rfl, rfl, rfl, rfl, rfl, rfl, rfl, rfl, trivial⟩ trivial) ?_
      refine AW.region ?_
      refine AWl.put (R_add rfl (.no rfl) rfl (.tmp rfl fun _ => rfl) (.const rfl) (fun _ => by omega)) rfl ?_
      refine AWl.put (R_move rfl (.no rfl) rfl (.tmp rfl fun _ => rfl)) rfl ?_
      refine AWl.nil ?_
      repeat (with_reducible refine BlockQ.nor ?_)
      refine Round1.next (i + 1) ⟨⟨by omega, fun j hj => by rcases Nat.lt_or_eq_of_le (Nat.le_of_lt_succ hj) with h | h; exact hk.2 j h; subst h; exact hhit⟩, trivial⟩ (by omega) (Le.sub0 rfl ⟨rfl, rfl, rfl, rfl, rfl, rfl, trivial⟩ trivial)
    · skip
      try simp at h31
      refine AW.skip ?_
      refine AW.seq ?_
      refine AW.le (σ' := ⟨_, [(2, _), (5, _), (7, _), (9, _), (10, _), (11, _), (12, _), (13, _)], []⟩) (Le.sub0 rfl ⟨rfl, rfl, rfl, rfl, rfl, rfl, rfl, rfl, trivial⟩ trivial) ?_
      refine AW.region ?_
      refine AWl.put (R_move rfl (.no rfl) rfl (.tmp rfl fun _ => rfl)) rfl ?_
      refine AWl.put (R_makeFunc rfl (.no rfl) rfl (.cons (.tmp rfl fun _ => rfl) (.cons (.tmp rfl fun _ => rfl) .nil))) rfl ?_
      refine AWl.put (R_callz (FnT.fr (ContainsFuncIntG l 144 [.ad [.sl 1 (comps.map cInt)], .ad [.v (.int .i64 c)]] (fun k => decide (atI comps k = c)) (fun e he => (implentered1 comps c e (by rw [hcl]; exact hn i hiN e (by rw [hnl]; exact he))).fr))) rfl (.no rfl) rfl (.cons (.tmp rfl fun _ => rfl) rfl (.cons (.tmp rfl fun _ => rfl) rfl .nil))) rfl ?_
      refine AWl.nil ?_
      refine AW.cond (.tmp rfl fun _ => rfl) (fun h34 => ?_) (fun h34 => ?_)
      · skip
        try simp at h34
        have hany : (l.any fun k => decide (C k.toNat = c)) = true := by (obtain ⟨e, he, h2⟩ := h34; exact List.any_eq_true.2 ⟨e, he, decide_eq_true (by rw [← hcz e he]; exact h2)⟩)
        have hhit : entH next C out c i = true := by (have h := h31; unfold entH; rw [hnl, hany]; simp; simpa using h)
        refine AW.seq ?_
        refine AW.region ?_
        refine AWl.put (R_assign rfl (.no rfl) rfl (.const rfl)) rfl ?_
        refine AWl.nil ?_
        refine AW.ret ?_
        refine Res.v rfl rfl ?_
        congr 1; symm; exact anyR_at (p := entH next C out c) hiN hhit
      · skip
        try simp at h34
        have hany : (l.any fun k => decide (C k.toNat = c)) = false := List.any_eq_false.2 fun e he => (by have h2 := h34 e he; rw [hcz e he] at h2; simpa using h2)
        have hhit : entH next C out c i = false := by (unfold entH; rw [hnl, hany]; simp)
        refine AW.skip ?_
        refine AW.region ?_
        refine AWl.put (R_add rfl (.no rfl) rfl (.tmp rfl fun _ => rfl) (.const rfl) (fun _ => by omega)) rfl ?_
        refine AWl.put (R_move rfl (.no rfl) rfl (.tmp rfl fun _ => rfl)) rfl ?_
        refine AWl.nil ?_
        repeat (with_reducible refine BlockQ.nor ?_)
        refine Round1.next (i + 1) ⟨⟨by omega, fun j hj => by rcases Nat.lt_or_eq_of_le (Nat.le_of_lt_succ hj) with h | h; exact hk.2 j h; subst h; exact hhit⟩, trivial⟩ (by omega) (Le.sub0 rfl ⟨rfl, rfl, rfl, rfl, rfl, rfl, trivial⟩ trivial)
  · skip
    try simp at h14
    refine AW.exit ?_
    refine AW.seq ?_
    refine AW.region ?_
    refine AWl.put (R_assign rfl (.no rfl) rfl (.const rfl)) rfl ?_
    refine AWl.nil ?_
    refine AW.ret ?_
    refine Res.v rfl rfl ?_
    congr 1; symm; exact anyR_none (p := entH next C out c) fun j hj => hk.2 j (by omega)
theorem implProductComponents_nil (g : TGraph) (a : TAutomaton) (hb : goodC g a = false) : FnT Try.prog 17 [.agg (cGraph g), .agg (cAutomaton a)] (.a (.one (.v (.slice none 0 0)))) := by
  refine FnT.walk Try.func17 rfl (by kernel_rfl) Try.ntmps17 rfl fun hlen w0 => ?_
  try simp [cPair, cToken, cExpr, cEdge, cGraph, cStep, cWalk, cChange, cBatch, cHistory, cPositions, cAutomaton, cProductStep, cPathAtom, cConjunction, cView, cDelta, cRegistered, cRegistry] at hlen
  refine AW.seq ?_
  refine AW.region ?_
  refine AWl.put (R_boxz rfl rfl rfl (.tmp rfl fun _ => rfl) (ts := _) (by rfl)) rfl ?_
  refine AWl.put (R_boxz rfl rfl rfl (.tmp rfl fun _ => rfl) (ts := _) (by rfl)) rfl ?_
  refine AWl.put (R_assign rfl (.no rfl) rfl (.const rfl)) rfl ?_
  refine AWl.nil ?_
  refine AW.seq ?_
  refine AW.seq ?_
  refine AW.region ?_
  refine AWl.put ((by exact R_load rfl (.no rfl) rfl (.tmp rfl fun _ => rfl) ty35 rfl rfl)) rfl ?_
  refine AWl.put ((by exact R_load rfl (.no rfl) rfl (.tmp rfl fun _ => rfl) ty37 rfl rfl)) rfl ?_
  refine AWl.put (R_callz (FnT.fr (implbothOk_nil g a)) rfl (.no rfl) rfl (.cons (.tmp rfl fun _ => rfl) rfl (.cons (.tmp rfl fun _ => rfl) rfl (.cons (.const rfl) rfl .nil)))) rfl ?_
  refine AWl.put (R_not rfl (.no rfl) rfl (.tmp rfl fun _ => rfl)) rfl ?_
  refine AWl.nil ?_
  refine AW.cond (.tmp rfl fun _ => rfl) (fun h8 => ?_) (fun h8 => ?_)
  · skip
    try simp at h8
    refine AW.seq ?_
    refine AW.region ?_
    refine AWl.put (R_assign rfl (.no rfl) rfl (.const rfl)) rfl ?_
    refine AWl.nil ?_
    refine AW.ret ?_
    refine Res.v rfl rfl ?_
    rfl
  · exact absurd h8 (by simp [hb])
theorem implComponentOrder_bad (g : TGraph) (a : TAutomaton) (hb : goodC g a = false) : FnT Try.prog 33 [.agg (cGraph g), .agg (cAutomaton a)] (.a (.one (.sl 1 (([] : List Int).map cInt)))) := by
  refine FnT.walk Try.func33 rfl (by kernel_rfl) Try.ntmps33 rfl fun hlen w0 => ?_
  try simp [cPair, cToken, cExpr, cEdge, cGraph, cStep, cWalk, cChange, cBatch, cHistory, cPositions, cAutomaton, cProductStep, cPathAtom, cConjunction, cView, cDelta, cRegistered, cRegistry] at hlen
  skip
  refine AW.seq ?_
  refine AW.region ?_
  refine AWl.put (R_boxz rfl rfl rfl (.tmp rfl fun _ => rfl) (ts := _) (by rfl)) rfl ?_
  refine AWl.put (R_boxz rfl rfl rfl (.tmp rfl fun _ => rfl) (ts := _) (by rfl)) rfl ?_
  refine AWl.put (R_assign rfl (.no rfl) rfl (.const rfl)) rfl ?_
  refine AWl.nilS (i := 4) 20001 1 rfl rfl ?_
  refine AWl.nil ?_
  refine AW.seq ?_
  refine AW.region ?_
  refine AWl.put ((by exact R_load rfl (.no rfl) rfl (.tmp rfl fun _ => rfl) ty35 rfl rfl)) rfl ?_
  refine AWl.put ((by exact R_load rfl (.no rfl) rfl (.tmp rfl fun _ => rfl) ty37 rfl rfl)) rfl ?_
  refine AWl.put (R_callz (FnT.fr (implProductComponents_nil g a hb)) rfl (.no rfl) rfl (.cons (.tmp rfl fun _ => rfl) rfl (.cons (.tmp rfl fun _ => rfl) rfl .nil))) rfl ?_
  refine AWl.put (R_assign rfl (.no rfl) rfl (.tmp rfl fun _ => rfl)) rfl ?_
  refine AWl.nil ?_
  refine AW.seq ?_
  refine AW.seq ?_
  refine AW.region ?_
  refine AWl.put (R_move rfl (.no rfl) rfl (.tmp rfl fun _ => rfl)) rfl ?_
  refine AWl.put ((by exact R_eqsl_nil rfl (.no rfl) rfl (.tmp rfl fun _ => rfl) (.const rfl) Try.underlying22)) rfl ?_
  refine AWl.nil ?_
  refine AW.cond (.tmp rfl fun _ => rfl) (fun h13 => ?_) (fun h13 => ?_)
  · skip
    try simp at h13
    refine AW.seq ?_
    refine AW.region ?_
    refine AWl.put (R_assign rfl (.no rfl) rfl (.const rfl)) rfl ?_
    refine AWl.nilS (i := 4) 20002 1 rfl rfl ?_
    refine AWl.nil ?_
    refine AW.ret ?_
    refine Res.one rfl (.tmp rfl .nil) rfl ?_
    rfl
  · exact absurd h13 (by simp)
theorem implComponentOrder_ok (g : TGraph) (a : TAutomaton) (ha : validA a = true) (hg : validG g = true) (hgc : goodC g a = true) : FnT Try.prog 33 [.agg (cGraph g), .agg (cAutomaton a)] (.a (.one (.sl 1 ((ordOf g a).map cInt)))) := by
  have hpc := implProductComponents g a
  rw [comps_map hgc] at hpc
  obtain ⟨comps, hco⟩ : ∃ comps, comps = (List.range (nextsV g a).length).map (cC g a) := ⟨_, rfl⟩
  have hnl : (nextsV g a).length = NP g a := nextsV_len g a
  have hcl : comps.length = NP g a := by rw [hco]; simp [hnl]
  have hN : 1 ≤ NP g a ∧ NP g a ≤ 60 := prod_le ha hg
  have hcn := cnt_le g a
  have hmax : maxL comps = (cntOf g a : Int) - 1 := by
    have h := comps_top ha hg
    rw [comps_map hgc, ← hco] at h
    rw [← h]
    exact (foldl_max_start comps (-1) 0 (fun z hz => by rw [hco] at hz; obtain ⟨p, _, rfl⟩ := List.mem_map.1 hz; unfold cC; omega) (fun e => by rw [e] at hcl; simp at hcl; omega) (by omega)).2
  rw [← hco] at hpc
  have hmx := slicesMaxInt comps (by omega) (by omega)
  rw [hmax] at hmx
  have hent := fun out c => implentered (nextsV g a) (by omega) (nexts_ok ha hg) (cC g a) out c
  rw [← hco] at hent
  refine FnT.walk Try.func33 rfl (by kernel_rfl) Try.ntmps33 rfl fun hlen w0 => ?_
  try simp [cPair, cToken, cExpr, cEdge, cGraph, cStep, cWalk, cChange, cBatch, cHistory, cPositions, cAutomaton, cProductStep, cPathAtom, cConjunction, cView, cDelta, cRegistered, cRegistry] at hlen
  skip
  refine AW.seq ?_
  refine AW.region ?_
  refine AWl.put (R_boxz rfl rfl rfl (.tmp rfl fun _ => rfl) (ts := _) (by rfl)) rfl ?_
  refine AWl.put (R_boxz rfl rfl rfl (.tmp rfl fun _ => rfl) (ts := _) (by rfl)) rfl ?_
  refine AWl.put (R_assign rfl (.no rfl) rfl (.const rfl)) rfl ?_
  refine AWl.nilS (i := 4) 20001 1 rfl rfl ?_
  refine AWl.nil ?_
  refine AW.seq ?_
  refine AW.region ?_
  refine AWl.put ((by exact R_load rfl (.no rfl) rfl (.tmp rfl fun _ => rfl) ty35 rfl rfl)) rfl ?_
  refine AWl.put ((by exact R_load rfl (.no rfl) rfl (.tmp rfl fun _ => rfl) ty37 rfl rfl)) rfl ?_
  refine AWl.put (R_callz (FnT.fr (hpc)) rfl (.no rfl) rfl (.cons (.tmp rfl fun _ => rfl) rfl (.cons (.tmp rfl fun _ => rfl) rfl .nil))) rfl ?_
  refine AWl.put (R_assign rfl (.no rfl) rfl (.tmp rfl fun _ => rfl)) rfl ?_
  refine AWl.nil ?_
  refine AW.seq ?_
  refine AW.seq ?_
  refine AW.region ?_
  refine AWl.put (R_move rfl (.no rfl) rfl (.tmp rfl fun _ => rfl)) rfl ?_
  refine AWl.put ((by exact R_eqsl_t rfl (.no rfl) rfl (.tmp rfl fun _ => rfl) (.const rfl) Try.underlying22 (by simp; omega))) rfl ?_
  refine AWl.nil ?_
  refine AW.cond (.tmp rfl fun _ => rfl) (fun h13 => ?_) (fun h13 => ?_)
  · exact absurd h13 (by simp)
  · skip
    try simp at h13
    refine AW.skip ?_
    refine AW.seq ?_
    refine AW.region ?_
    refine AWl.put ((by exact R_load rfl (.no rfl) rfl (.tmp rfl fun _ => rfl) ty35 rfl rfl)) rfl ?_
    refine AWl.put ((by exact R_load rfl (.no rfl) rfl (.tmp rfl fun _ => rfl) ty37 rfl rfl)) rfl ?_
    refine AWl.put (R_callz (FnT.fr (implnextVertices g a ha hg)) rfl (.no rfl) rfl (.cons (.tmp rfl fun _ => rfl) rfl (.cons (.tmp rfl fun _ => rfl) rfl .nil))) rfl ?_
    refine AWl.put (R_assign rfl (.no rfl) rfl (.tmp rfl fun _ => rfl)) rfl ?_
    refine AWl.nil ?_
    refine AW.seq ?_
    refine AW.le (σ' := ⟨_, [(0, _), (1, _), (2, _), (3, _), (4, _), (5, _), (6, _)], [(20001, _)]⟩) (Le.sub0 rfl ⟨rfl, rfl, rfl, rfl, rfl, rfl, rfl, trivial⟩ ⟨rfl, trivial⟩) ?_
    refine AW.region ?_
    refine AWl.add (R_empty 17 rfl rfl rfl Try.underlying22 ty3 rfl) rfl ?_
    refine AWl.put (R_assign rfl (.no rfl) rfl (.tmp rfl fun _ => rfl)) rfl ?_
    refine AWl.nil ?_
    refine AW.seq ?_
    refine AW.block ?_
    refine AW.loop1 (fun (out : List Int) => (OI (NP g a) (cntOf g a) (cC g a) (cR g a) out ∧ out.length ≤ cntOf g a) ∧ ordG (cP g a) (cntOf g a) (cntOf g a - out.length) out = ordOf g a) (fun (out : List Int) => ⟨_, [(7, (true, .a (.one (.rf 17)))), (4, _), (5, _), (6, _)], [(17, .row 1 (out.map cInt))]⟩) (fun (out : List Int) => cntOf g a - out.length) ([]) ⟨⟨ord_I0 g a, by simp⟩, (by unfold ordOf; rw [if_pos hgc]; rfl)⟩ (Le.sub0 rfl ⟨rfl, rfl, rfl, rfl, trivial⟩ ⟨rfl, trivial⟩) ?_
    rintro out ⟨hk, he⟩
    refine AW.seq ?_
    refine AW.seq ?_
    refine AW.region ?_
    refine AWl.put (R_move rfl (.no rfl) rfl (.tmp rfl fun _ => rfl)) rfl ?_
    refine AWl.put ((by exact R_lenm rfl (.no rfl) rfl (.tmp rfl fun _ => rfl) (by exact .rf rfl) Try.underlying22)) rfl ?_
    refine AWl.put (R_move rfl (.no rfl) rfl (.tmp rfl fun _ => rfl)) rfl ?_
    refine AWl.put (R_callz (FnT.fr (hmx)) rfl (.no rfl) rfl (.cons (.tmp rfl fun _ => rfl) rfl .nil)) rfl ?_
    refine AWl.put (R_add rfl (.no rfl) rfl (.tmp rfl fun _ => rfl) (.const rfl) (fun _ => by omega)) rfl ?_
    refine AWl.put (R_lt rfl (.no rfl) rfl (.tmp rfl fun _ => rfl) (.tmp rfl fun _ => rfl)) rfl ?_
    refine AWl.nil ?_
    refine AW.cond (.tmp rfl fun _ => rfl) (fun h23 => ?_) (fun h23 => ?_)
    · skip
      try simp at h23
      have hol : out.length < cntOf g a := by omega
      refine AW.skip ?_
      refine AW.block ?_
      refine AW.seq ?_
      refine AW.le (σ' := ⟨_, [(4, _), (5, _), (6, _), (7, _)], [(17, _)]⟩) (Le.sub0 rfl ⟨rfl, rfl, rfl, rfl, trivial⟩ ⟨rfl, trivial⟩) ?_
      refine AW.region ?_
      refine AWl.put (R_assign rfl (.no rfl) rfl (.const rfl)) rfl ?_
      refine AWl.nil ?_
      refine AW.block ?_
      refine AW.loop1 (fun (c : Nat) => (c ≤ cntOf g a ∧ ∀ d, d < c → cP g a out d = false) ∧ True) (fun (c : Nat) => ⟨_, [(8, (true, .a (.one (.t (.v (.int .i64 (c : Nat))))))), (7, (true, .a (.one (.rf 17)))), (4, _), (5, _), (6, _)], [(17, .row 1 (out.map cInt))]⟩) (fun (c : Nat) => cntOf g a - c) (0) ⟨⟨Nat.zero_le _, fun d hd => by omega⟩, trivial⟩ (Le.sub0 rfl ⟨rfl, rfl, rfl, rfl, rfl, trivial⟩ ⟨rfl, trivial⟩) ?_
      rintro c ⟨hk1, he1⟩
      refine AW.seq ?_
      refine AW.seq ?_
      refine AW.region ?_
      refine AWl.put (R_move rfl (.no rfl) rfl (.tmp rfl fun _ => rfl)) rfl ?_
      refine AWl.put (R_move rfl (.no rfl) rfl (.tmp rfl fun _ => rfl)) rfl ?_
      refine AWl.put (R_callz (FnT.fr (hmx)) rfl (.no rfl) rfl (.cons (.tmp rfl fun _ => rfl) rfl .nil)) rfl ?_
      refine AWl.put (R_le rfl (.no rfl) rfl (.tmp rfl fun _ => rfl) (.tmp rfl fun _ => rfl)) rfl ?_
      refine AWl.nil ?_
      refine AW.cond (.tmp rfl fun _ => rfl) (fun h27 => ?_) (fun h27 => ?_)
      · skip
        try simp at h27
        refine AW.skip ?_
        refine AW.seq ?_
        refine AW.block ?_
        refine AW.seq ?_
        refine AW.region ?_
        refine AWl.put (R_move rfl (.no rfl) rfl (.tmp rfl fun _ => rfl)) rfl ?_
        refine AWl.put (R_move rfl (.no rfl) rfl (.tmp rfl fun _ => rfl)) rfl ?_
        refine AWl.put (R_callz (FnT.fr (slicesContainsInt out (c : Int))) rfl (.no rfl) rfl (.cons (.tmp rfl fun _ => rfl) rfl (.cons (.tmp rfl fun _ => rfl) rfl .nil))) rfl ?_
        refine AWl.put (R_not rfl (.no rfl) rfl (.tmp rfl fun _ => rfl)) rfl ?_
        refine AWl.put (R_move rfl (.no rfl) rfl (.tmp rfl fun _ => rfl)) rfl ?_
        refine AWl.put (R_move rfl (by exact .yes1 rfl rfl rfl rfl) rfl (.tmp rfl (by exact fun _ => rfl))) rfl ?_
        refine AWl.put (R_move rfl (by exact .yes1 rfl rfl rfl rfl) rfl (.tmp rfl (by exact fun _ => rfl))) rfl ?_
        refine AWl.put (R_move rfl (by exact .yes1 rfl rfl rfl rfl) rfl (.tmp rfl (by exact fun _ => rfl))) rfl ?_
        refine AWl.put (R_move rfl (by exact .yes1 rfl rfl rfl rfl) rfl (.tmp rfl (by exact fun _ => rfl))) rfl ?_
        refine AWl.put (R_callz (FnT.fr (hent out (c : Int))) rfl (by exact .yes1 rfl rfl rfl rfl) rfl (.cons (.tmp rfl (by exact id)) rfl (.cons (.tmp rfl (by exact id)) rfl (.cons (.tmp rfl (by exact id)) rfl (.cons (.tmp rfl (by exact id)) rfl .nil))))) rfl ?_
        refine AWl.put (R_not rfl (by exact .yes1 rfl rfl rfl rfl) rfl (.tmp rfl (by exact id))) rfl ?_
        refine AWl.put (R_and rfl (.no rfl) rfl (.tmp rfl fun _ => rfl) (.tmp rfl (by exact id))) rfl ?_
        refine AWl.nil ?_
        refine AW.cond (.tmp rfl fun _ => rfl) (fun h41 => ?_) (fun h41 => ?_)
        · skip
          try simp at h41
          have hcp : cP g a out c = true := by (have h := h41; rw [ord_ent ha hg hgc hk.1]; simp; simpa using h)
          have hon := ord_on ha hg hgc hk.1 (show c < cntOf g a by omega) hcp hk1.2
          refine AW.seq ?_
          refine AW.le (σ' := ⟨_, [(4, _), (5, _), (6, _), (7, _), (8, _)], [(17, _)]⟩) (Le.sub0 rfl ⟨rfl, rfl, rfl, rfl, rfl, trivial⟩ ⟨rfl, trivial⟩) ?_
          refine AW.region ?_
          refine AWl.put (R_move rfl (.no rfl) rfl (.tmp rfl fun _ => rfl)) rfl ?_
          refine AWl.put (R_move rfl (.no rfl) rfl (.tmp rfl fun _ => rfl)) rfl ?_
          refine AWl.absadd (R_list (xs := [.tmp 43]) 44 rfl rfl rfl (.cons (.tmp rfl fun _ => rfl) rfl rfl .nil) Try.underlying22 in3 rfl rfl rfl rfl) rfl ?_
          refine AWl.chgput (R_append rfl rfl rfl (.tmp rfl fun _ => rfl) rfl (.tmp rfl fun _ => rfl) (by exact .rf rfl) (by rfl) Try.underlying22 in3 rfl (by (simp [chunk]; omega)) (by (unfold maxLen; simp [chunk]; omega))) rfl ?_
          refine AWl.le (σ' := ⟨_, [(4, _), (5, _), (6, _), (7, _), (8, _), (45, _)], [(17, _), (44, _)]⟩) (Le.sub0 rfl ⟨rfl, rfl, rfl, rfl, rfl, rfl, trivial⟩ ⟨rfl, rfl, trivial⟩) ?_
          refine AWl.put (R_assign rfl (.no rfl) rfl (.tmp rfl fun _ => rfl)) rfl ?_
          refine AWl.nil ?_
          refine AW.exit ?_
          repeat (with_reducible refine BlockQ.nor ?_)
          repeat (with_reducible first | refine BlockQ.nor ?_ | refine ThenQ.ex ?_ | refine BlockQ.here ?_ | refine BlockQ.past (by decide) ?_ | refine Round1.ex ?_ | refine Round2.ex ?_ | refine Round3.ex ?_ | refine Round4.ex ?_ | refine Round5.ex ?_)
          refine Round1.next (out ++ [(c : Int)]) ⟨⟨hon.1, hon.2.1⟩, hon.2.2 ▸ he⟩ (by rw [List.length_append, List.length_singleton]; omega) (Le.sub0 rfl ⟨rfl, rfl, rfl, rfl, trivial⟩ ⟨(by (refine congrArg (fun r => some (R.row _ r)) ?_; simp [chunk, List.map_set, cInt, cBool, cIntS, cPair, cToken, cExpr, cEdge, cGraph, cStep, cWalk, cChange, cBatch, cHistory, cPositions, cAutomaton, cProductStep, cPathAtom, cConjunction, cView, cDelta, cRegistered, cRegistry])), trivial⟩)
        · skip
          try simp at h41
          have hcf : cP g a out c = false := by (have h := h41; rw [ord_ent ha hg hgc hk.1]; simp; simpa using h)
          refine AW.skip ?_
          refine AW.le (σ' := ⟨_, [(4, _), (5, _), (6, _), (7, _), (8, _)], [(17, _)]⟩) (Le.sub0 rfl ⟨rfl, rfl, rfl, rfl, rfl, trivial⟩ ⟨rfl, trivial⟩) ?_
          refine AW.region ?_
          refine AWl.put (R_move rfl (.no rfl) rfl (.tmp rfl fun _ => rfl)) rfl ?_
          refine AWl.put (R_add rfl (.no rfl) rfl (.tmp rfl fun _ => rfl) (.const rfl) (fun _ => by omega)) rfl ?_
          refine AWl.put (R_assign rfl (.no rfl) rfl (.tmp rfl fun _ => rfl)) rfl ?_
          refine AWl.nil ?_
          repeat (with_reducible refine BlockQ.nor ?_)
          refine Round1.next (c + 1) ⟨⟨by omega, fun d hd => by rcases Nat.lt_or_eq_of_le (Nat.le_of_lt_succ hd) with h | h; exact hk1.2 d h; rw [h]; exact hcf⟩, trivial⟩ (by omega) (Le.sub0 rfl ⟨rfl, rfl, rfl, rfl, rfl, trivial⟩ ⟨(by rfl), trivial⟩)
      · exact absurd h27 (by exact fun hcc => ord_ex ha hg hgc hk.1 hol (fun d hd => hk1.2 d (by simp at hcc; omega)))
    · skip
      try simp at h23
      refine AW.exit ?_
      refine AW.seq ?_
      refine AW.le (σ' := ⟨_, [(4, _), (5, _), (6, _), (7, _)], [(17, _)]⟩) (Le.sub0 rfl ⟨rfl, rfl, rfl, rfl, trivial⟩ ⟨rfl, trivial⟩) ?_
      refine AW.region ?_
      refine AWl.put (R_move rfl (.no rfl) rfl (.tmp rfl fun _ => rfl)) rfl ?_
      refine AWl.put (R_assign rfl (.no rfl) rfl (.tmp rfl fun _ => rfl)) rfl ?_
      refine AWl.nil ?_
      refine AW.ret ?_
      refine Res.one rfl (.tmp rfl .nil) rfl ?_
      rw [← he, show cntOf g a - out.length = 0 by omega]; rfl
theorem implComponentOrder (g : TGraph) (a : TAutomaton) : FnT Try.prog 33 [.agg (cGraph g), .agg (cAutomaton a)] (.a (.one (.sl 1 ((ordOf g a).map cInt)))) := by
  cases hb : goodC g a with
  | false => have e : ordOf g a = [] := (by unfold ordOf; rw [hb]; rfl); rw [e]; exact implComponentOrder_bad g a hb
  | true => exact implComponentOrder_ok g a (good_c2 hb).2 (good_c2 hb).1 hb
end Go.Proofs.Ytbfejakbaijmhaa
