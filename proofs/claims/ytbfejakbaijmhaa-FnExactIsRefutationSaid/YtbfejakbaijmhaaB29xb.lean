/- Line graphs: both texts. -/
import Derived.Test.YtbfejakbaijmhaaB02xb
import Derived.Test.YtbfejakbaijmhaaNilxb
import Derived.Test.YtbfejakbaijmhaaMDxb
set_option linter.unusedVariables false
set_option linter.unusedSimpArgs false
set_option maxHeartbeats 1000000
set_option maxRecDepth 100000
namespace Go.Q
open Go.D
def isMove (n : Int) : Bool := inB n 0 5
def lineEdge (n k : Int) : TEdge := if k % 2 = 1 then ⟨n + 1, n + 1, n, k / 2⟩ else ⟨n + 1, n, n + 1, k / 2⟩
def lineGo : List Int → List Int → List TEdge → Bool → Option TGraph
  | [], vs, es, _ => some ⟨vs, es⟩
  | k :: r, vs, es, t =>
    if isMove k then (if vs.length = 5 then none else lineGo r (vs ++ [0]) (es ++ [lineEdge ((vs.length : Int) - 1) k]) false)
    else if t && !decide (lastV vs = k - 6) then none else lineGo r (vs.set ((vs.length : Int) - 1).toNat (k - 6)) es true
 where lastV (vs : List Int) : Int := vs[((vs.length : Int) - 1).toNat]?.getD 0
def lineGraph (w : List Int) : TGraph × Bool := match (if isWord w then lineGo w [0] [] false else none) with | some g => (g, true) | none => (⟨[], []⟩, false)
theorem lineGo_drop {l : List Int} {i : Nat} {k : Int} {vs : List Int} {es : List TEdge} {t : Bool} (h : l[i]? = some k) : lineGo (l.drop i) vs es t = if isMove k then (if vs.length = 5 then none else lineGo (l.drop (i + 1)) (vs ++ [0]) (es ++ [lineEdge ((vs.length : Int) - 1) k]) false)
    else if t && !decide (lineGo.lastV vs = k - 6) then none else lineGo (l.drop (i + 1)) (vs.set ((vs.length : Int) - 1).toNat (k - 6)) es true := by
  rw [drop_at h, lineGo]
theorem isWord_len {w : List Int} (h : isWord w = true) : w.length ≤ 8 := by unfold isWord at h; simp at h; exact h.2
theorem isWord_at {w : List Int} {i : Nat} {k : Int} (h : isWord w = true) (hk : w[i]? = some k) : 0 ≤ k ∧ k ≤ 8 := by
  unfold isWord at h
  simp only [Bool.and_eq_true, List.all_eq_true] at h
  have := h.1 k (List.mem_of_getElem? hk)
  unfold inB at this
  simp only [Bool.and_eq_true, decide_eq_true_eq] at this
  exact this
theorem lineGraph_no {w : List Int} (h : isWord w = false) : lineGraph w = (⟨[], []⟩, false) := by unfold lineGraph; rw [h]; rfl
theorem lineGraph_none {w : List Int} (h : lineGo w [0] [] false = none) : lineGraph w = (⟨[], []⟩, false) := by unfold lineGraph; rw [h]; simp
theorem lineGraph_some {w : List Int} {g : TGraph} (hw : isWord w = true) (h : lineGo w [0] [] false = some g) : lineGraph w = (g, true) := by unfold lineGraph; rw [hw, h]; rfl
def lineI (w r vs : List Int) (es : List TEdge) (ts : List Bool) : Prop := if vs.length ≤ 5 then lineGo w [0] [] false = lineGo r vs es (ts[((vs.length : Int) - 1).toNat]?.getD false) else lineGo w [0] [] false = none
theorem lineI_test {w : List Int} {k : Nat} {x : Int} {vs : List Int} {es : List TEdge} {ts : List Bool} (h : lineI w (w.drop k) vs es ts) (hx : w[k]? = some x) (hm : isMove x = false) (hv : 0 < vs.length) (hl : ts.length = vs.length) :
    ((ts[((vs.length : Int) - 1).toNat]?.getD false && !decide (vs[((vs.length : Int) - 1).toNat]?.getD 0 = x - 6)) = true → lineGo w [0] [] false = none) ∧
    ((ts[((vs.length : Int) - 1).toNat]?.getD false && !decide (vs[((vs.length : Int) - 1).toNat]?.getD 0 = x - 6)) = false → lineI w (w.drop (k + 1)) (vs.set ((vs.length : Int) - 1).toNat (x - 6)) es (ts.set ((vs.length : Int) - 1).toNat true)) := by
  unfold lineI at h ⊢
  rw [lineGo_drop hx] at h
  simp only [hm, Bool.false_eq_true, if_false] at h
  refine ⟨fun e => ?_, fun e => ?_⟩
  · have e : (ts[((vs.length : Int) - 1).toNat]?.getD false && !decide (lineGo.lastV vs = x - 6)) = true := e
    rw [e] at h
    split at h <;> exact h
  · have e : (ts[((vs.length : Int) - 1).toNat]?.getD false && !decide (lineGo.lastV vs = x - 6)) = false := e
    simp only [e, Bool.false_eq_true, if_false] at h
    rw [List.length_set, List.getElem?_set_self (by omega)]
    exact h
theorem lineI_move {w : List Int} {k : Nat} {x : Int} {vs : List Int} {es : List TEdge} {ts : List Bool} (h : lineI w (w.drop k) vs es ts) (hx : w[k]? = some x) (hm : isMove x = true) (hl : ts.length = vs.length) :
    lineI w (w.drop (k + 1)) (vs ++ [0]) (es ++ [lineEdge ((vs.length : Int) - 1) x]) (ts ++ [false]) := by
  unfold lineI at h ⊢
  rw [lineGo_drop hx, if_pos hm] at h
  have e : (((vs ++ [0]).length : Int) - 1).toNat = ts.length := by simp; omega
  rw [e, List.getElem?_append_right (Nat.le_refl _), Nat.sub_self]
  rw [List.length_append, List.length_singleton]
  by_cases h5 : vs.length = 5
  · rw [if_neg (by omega)]
    rw [if_pos (by omega), if_pos h5] at h
    exact h
  · by_cases h6 : vs.length ≤ 5
    · rw [if_pos (by omega)]
      rw [if_pos h6, if_neg h5] at h
      exact h
    · rw [if_neg (by omega)]
      rw [if_neg h6] at h
      exact h
theorem lineI_end {w : List Int} {k : Nat} {vs : List Int} {es : List TEdge} {ts : List Bool} (h : lineI w (w.drop k) vs es ts) (hk : w.length ≤ k) : lineGo w [0] [] false = if vs.length ≤ 5 then some ⟨vs, es⟩ else none := by
  unfold lineI at h
  rw [List.drop_eq_nil_of_le hk] at h
  split at h
  · rename_i h5; rw [if_pos h5, h]; rfl
  · rename_i h5; rw [if_neg h5, h]
end Go.Q
namespace Go.Proofs.Ytbfejakbaijmhaa
open Go.RowKit Go.Q Go.D
theorem specIsMove (n : Int) : FnT Try.prog 161 [.one (.v (.int .i64 n))] (.a (.one (.v (.bool (isMove n))))) := by
  refine FnT.walk Try.func161 rfl (by kernel_rfl) Try.ntmps161 rfl fun hlen w0 => ?_
  try simp [cPair, cToken, cExpr, cEdge, cGraph, cStep, cWalk, cChange, cBatch, cHistory, cPositions, cAutomaton, cProductStep, cPathAtom, cConjunction, cView, cDelta, cRegistered, cRegistry] at hlen
  refine AW.seq ?_
  refine AW.region ?_
  refine AWl.put (R_assign rfl (.no rfl) rfl (.const rfl)) rfl ?_
  refine AWl.nil ?_
  refine AW.seq ?_
  refine AW.region ?_
  refine AWl.put (R_move rfl (.no rfl) rfl (.tmp rfl fun _ => rfl)) rfl ?_
  refine AWl.put (R_callz (FnT.fr (specl1In _ _ _)) rfl (.no rfl) rfl (.cons (.tmp rfl fun _ => rfl) rfl (.cons (.const rfl) rfl (.cons (.const rfl) rfl .nil)))) rfl ?_
  refine AWl.put (R_assign rfl (.no rfl) rfl (.tmp rfl fun _ => rfl)) rfl ?_
  refine AWl.nil ?_
  refine AW.ret ?_
  refine Res.v rfl rfl ?_
  rfl
theorem implIsMove (n : Int) : FnT Try.prog 163 [.one (.v (.int .i64 n))] (.a (.one (.v (.bool (isMove n))))) := by
  refine FnT.walk Try.func163 rfl (by kernel_rfl) Try.ntmps163 rfl fun hlen w0 => ?_
  try simp [cPair, cToken, cExpr, cEdge, cGraph, cStep, cWalk, cChange, cBatch, cHistory, cPositions, cAutomaton, cProductStep, cPathAtom, cConjunction, cView, cDelta, cRegistered, cRegistry] at hlen
  refine AW.seq ?_
  refine AW.region ?_
  refine AWl.put (R_assign rfl (.no rfl) rfl (.const rfl)) rfl ?_
  refine AWl.nil ?_
  refine AW.seq ?_
  refine AW.region ?_
  refine AWl.put (R_move rfl (.no rfl) rfl (.tmp rfl fun _ => rfl)) rfl ?_
  refine AWl.put (R_callz (FnT.fr (implwithin _ _ _)) rfl (.no rfl) rfl (.cons (.tmp rfl fun _ => rfl) rfl (.cons (.const rfl) rfl (.cons (.const rfl) rfl .nil)))) rfl ?_
  refine AWl.put (R_assign rfl (.no rfl) rfl (.tmp rfl fun _ => rfl)) rfl ?_
  refine AWl.nil ?_
  refine AW.ret ?_
  refine Res.v rfl rfl ?_
  rfl
theorem implIsWord (l : List Int) : FnT Try.prog 162 [.one (.sl 1 (l.map cInt))] (.a (.one (.v (.bool (isWord l))))) := by
  refine FnT.walk Try.func162 rfl (by kernel_rfl) Try.ntmps162 rfl fun hlen w0 => ?_
  try simp [cPair, cToken, cExpr, cEdge, cGraph, cStep, cWalk, cChange, cBatch, cHistory, cPositions, cAutomaton, cProductStep, cPathAtom, cConjunction, cView, cDelta, cRegistered, cRegistry] at hlen
  refine AW.seq ?_
  refine AW.region ?_
  refine AWl.put (R_assign rfl (.no rfl) rfl (.const rfl)) rfl ?_
  refine AWl.nil ?_
  refine AW.seq ?_
  refine AW.seq ?_
  refine AW.region ?_
  refine AWl.put (R_move rfl (.no rfl) rfl (.tmp rfl fun _ => rfl)) rfl ?_
  refine AWl.put ((by exact R_lenm rfl (.no rfl) rfl (.tmp rfl fun _ => rfl) (by exact .t) Try.underlying22)) rfl ?_
  refine AWl.put (R_move rfl (.no rfl) rfl (.const rfl)) rfl ?_
  refine AWl.nil ?_
  refine AW.block ?_
  refine AW.loop (β := Nat) (fun x => x ≤ (l).length ∧ ∀ j y, j < x → (l)[j]? = some y → (fun n => inB n 0 8) y = true) (fun x => ⟨_, [(7, (true, .a (.one (.t (.v (.int .i64 (x : Nat))))))), (0, _), (5, _), (6, _)], []⟩) (fun x => (l).length - x) (0) ⟨Nat.zero_le _, fun j y hj => absurd hj (Nat.not_lt_zero j)⟩ (Le.sub0 rfl ⟨rfl, rfl, rfl, rfl, trivial⟩ trivial) ?_
  intro k hk
  refine AW.seq ?_
  refine AW.region ?_
  refine AWl.put (R_lt rfl (.no rfl) rfl (.tmp rfl fun _ => rfl) (.tmp rfl fun _ => rfl)) rfl ?_
  refine AWl.nil ?_
  refine AW.seq ?_
  refine AW.cond (.tmp rfl fun _ => rfl) (fun hlt => ?_) (fun hlt => ?_)
  · skip
    try simp at hlt
    obtain ⟨x, hx⟩ : ∃ ξ, (l)[k]? = some ξ := ⟨_, List.getElem?_eq_getElem (by exact hlt)⟩
    refine AW.skip ?_
    refine AW.seq ?_
    refine AW.block ?_
    refine AW.seq ?_
    refine AW.region ?_
    refine AWl.put ((by exact R_indexAddr rfl (.no rfl) rfl (.tmp rfl fun _ => rfl) (.tmp rfl fun _ => rfl) Try.underlying22 ty3 (fun _ => ⟨by omega, (by exact map_get (by assumption))⟩))) rfl ?_
    refine AWl.put ((by exact R_load rfl (.no rfl) rfl (.tmp rfl fun _ => rfl) ty3 rfl rfl)) rfl ?_
    refine AWl.put (R_assign rfl (.no rfl) rfl (.tmp rfl fun _ => rfl)) rfl ?_
    refine AWl.nil ?_
    refine AW.seq ?_
    refine AW.region ?_
    refine AWl.put (R_move rfl (.no rfl) rfl (.tmp rfl fun _ => rfl)) rfl ?_
    refine AWl.put (R_callz (FnT.fr (implisLetter _)) rfl (.no rfl) rfl (.cons (.tmp rfl fun _ => rfl) rfl .nil)) rfl ?_
    refine AWl.put (R_not rfl (.no rfl) rfl (.tmp rfl fun _ => rfl)) rfl ?_
    refine AWl.nil ?_
    refine AW.cond (.tmp rfl fun _ => rfl) (fun h13 => ?_) (fun h13 => ?_)
    · skip
      try simp at h13
      refine AW.seq ?_
      refine AW.le (σ' := ⟨_, [(0, _), (4, _), (5, _), (6, _), (7, _)], []⟩) (Le.sub0 rfl ⟨rfl, rfl, rfl, rfl, rfl, trivial⟩ trivial) ?_
      refine AW.region ?_
      refine AWl.put (R_assign rfl (.no rfl) rfl (.const rfl)) rfl ?_
      refine AWl.nil ?_
      refine AW.ret ?_
      refine Res.v rfl rfl ?_
      unfold isWord; rw [not_all hx h13]; rfl
    · skip
      try simp at h13
      refine AW.skip ?_
      refine AW.le (σ' := ⟨_, [(0, _), (4, _), (5, _), (6, _), (7, _)], []⟩) (Le.sub0 rfl ⟨rfl, rfl, rfl, rfl, rfl, trivial⟩ trivial) ?_
      refine AW.region ?_
      refine AWl.put (R_add rfl (.no rfl) rfl (.tmp rfl fun _ => rfl) (.const rfl) (fun _ => by omega)) rfl ?_
      refine AWl.put (R_move rfl (.no rfl) rfl (.tmp rfl fun _ => rfl)) rfl ?_
      refine AWl.nil ?_
      refine Round.next (k + 1) ⟨by omega, each_succ hk.2 hx (h13)⟩ (by omega) (Le.sub0 rfl ⟨rfl, rfl, rfl, rfl, trivial⟩ trivial)
  · skip
    try simp at hlt
    refine AW.exit ?_
    refine AW.seq ?_
    refine AW.region ?_
    refine AWl.put (R_move rfl (.no rfl) rfl (.tmp rfl fun _ => rfl)) rfl ?_
    refine AWl.put ((by exact R_lenm rfl (.no rfl) rfl (.tmp rfl fun _ => rfl) (by exact .t) Try.underlying22)) rfl ?_
    refine AWl.put (R_le rfl (.no rfl) rfl (.tmp rfl fun _ => rfl) (.const rfl)) rfl ?_
    refine AWl.put (R_assign rfl (.no rfl) rfl (.tmp rfl fun _ => rfl)) rfl ?_
    refine AWl.nil ?_
    refine AW.ret ?_
    refine Res.v rfl rfl ?_
    unfold isWord; rw [each_all hk.2 (by omega)]; simp; omega
theorem specLineGraph (w : List Int) : FnT Try.prog 94 [.one (.sl 1 (w.map cInt))] (.tup [.agg (cGraph (lineGraph w).1), .one (.v (.bool (lineGraph w).2))]) := by
  refine FnT.walk Try.func94 rfl (by kernel_rfl) Try.ntmps94 rfl fun hlen w0 => ?_
  try simp [cPair, cToken, cExpr, cEdge, cGraph, cStep, cWalk, cChange, cBatch, cHistory, cPositions, cAutomaton, cProductStep, cPathAtom, cConjunction, cView, cDelta, cRegistered, cRegistry] at hlen
  refine AW.seq ?_
  refine AW.region ?_
  refine AWl.add (R_alloc 2 rfl rfl rfl in35 rfl rfl rfl) rfl ?_
  refine AWl.put (R_assign rfl (.no rfl) rfl (.const rfl)) rfl ?_
  refine AWl.nil ?_
  refine AW.seq ?_
  refine AW.seq ?_
  refine AW.region ?_
  refine AWl.put (R_move rfl (.no rfl) rfl (.tmp rfl fun _ => rfl)) rfl ?_
  refine AWl.put (R_callz (FnT.fr (specIsWord _)) rfl (.no rfl) rfl (.cons (.tmp rfl fun _ => rfl) rfl .nil)) rfl ?_
  refine AWl.put (R_not rfl (.no rfl) rfl (.tmp rfl fun _ => rfl)) rfl ?_
  refine AWl.nil ?_
  refine AW.cond (.tmp rfl fun _ => rfl) (fun h12 => ?_) (fun h12 => ?_)
  · skip
    try simp at h12
    refine AW.seq ?_
    refine AW.region ?_
    refine AWl.put (R_build (ps := []) rfl rfl rfl in35 rfl rfl st35 .nil rfl) rfl ?_
    refine AWl.nilA (i := 13) 20001 1 0 rfl rfl rfl ?_
    refine AWl.nilA (i := 13) 20002 4 1 rfl rfl rfl ?_
    refine AWl.chgb (R_store_pb rfl rfl rfl (.tmp rfl fun _ => rfl) (.tmp rfl fun _ => rfl) rfl ty35 rfl rfl rfl (by kernel_rfl) rfl) ?_
    refine AWl.le (σ' := ⟨_, [(0, _), (2, _), (3, _), (12, _)], [(2, _), (20001, _), (20002, _)]⟩) (Le.sub0 rfl ⟨rfl, rfl, rfl, rfl, trivial⟩ ⟨rfl, rfl, rfl, trivial⟩) ?_
    refine AWl.put (R_assign rfl (.no rfl) rfl (.const rfl)) rfl ?_
    refine AWl.nil ?_
    refine AW.ret ?_
    refine Res.many rfl (.cell rfl rfl ty35 rfl rfl (.tmp rfl .nil)) rfl ?_ (by simp)
    rw [lineGraph_no h12]; rfl
  · skip
    try simp at h12
    have hwl := isWord_len h12
    refine AW.skip ?_
    refine AW.seq ?_
    refine AW.region ?_
    refine AWl.absadd (R_list (xs := [.const (.int .i64 (0))]) 14 rfl rfl rfl (.cons (.const rfl) rfl rfl .nil) Try.underlying22 in3 rfl rfl rfl rfl) rfl ?_
    refine AWl.put (R_build (ps := [(0, .tmp 14)]) rfl rfl rfl in35 rfl rfl st35 (.cons (.tmp rfl fun _ => rfl) rfl rfl fp35_0 .nil) rfl) rfl ?_
    refine AWl.nilA (i := 15) 20003 4 1 rfl rfl rfl ?_
    refine AWl.add (R_alloc 4 rfl rfl rfl in35 rfl rfl rfl) rfl ?_
    refine AWl.chgb (R_store_pb rfl rfl rfl (.tmp rfl fun _ => rfl) (.tmp rfl fun _ => rfl) rfl ty35 rfl rfl rfl (by kernel_rfl) rfl) ?_
    refine AWl.nil ?_
    refine AW.seq ?_
    refine AW.region ?_
    refine AWl.put (R_assign rfl (.no rfl) rfl (.const rfl)) rfl ?_
    refine AWl.nil ?_
    refine AW.seq ?_
    refine AW.seq ?_
    refine AW.region ?_
    refine AWl.put (R_assign rfl (.no rfl) rfl (.const rfl)) rfl ?_
    refine AWl.nil ?_
    refine AW.block ?_
    refine AW.loop4 (fun (k : Nat) (vs : List Int) (es : List TEdge) (t : Bool) => (k ≤ w.length ∧ 0 < vs.length ∧ vs.length ≤ 5 ∧ es.length ≤ k) ∧ lineGo w [0] [] false = lineGo (w.drop k) vs es t) (fun (k : Nat) (vs : List Int) (es : List TEdge) (t : Bool) => ⟨_, [(6, (true, .a (.one (.t (.v (.int .i64 (k : Nat))))))), (5, (true, .a (.one (.t (.v (.bool t)))))), (0, _), (2, _), (4, _)], [(2, .box [.t (.v (.slice none 0 0)), .t (.v (.slice none 0 0))]), (4, .box [.rf 14, .rf 20003]), (14, .row 1 (vs.map cInt)), (20003, .row 4 (es.map cEdge))]⟩) (fun (k : Nat) (vs : List Int) (es : List TEdge) (t : Bool) => w.length - k) (0) ([0]) ([]) (false) ⟨by simp, rfl⟩ (Le.sub0 rfl ⟨rfl, rfl, rfl, rfl, rfl, trivial⟩ ⟨rfl, rfl, rfl, rfl, trivial⟩) ?_
    rintro k vs es t ⟨hk, he⟩
    refine AW.seq ?_
    refine AW.seq ?_
    refine AW.region ?_
    refine AWl.put (R_move rfl (.no rfl) rfl (.tmp rfl fun _ => rfl)) rfl ?_
    refine AWl.put (R_move rfl (.no rfl) rfl (.tmp rfl fun _ => rfl)) rfl ?_
    refine AWl.put ((by exact R_lenm rfl (.no rfl) rfl (.tmp rfl fun _ => rfl) (by exact .t) Try.underlying22)) rfl ?_
    refine AWl.put (R_lt rfl (.no rfl) rfl (.tmp rfl fun _ => rfl) (.tmp rfl fun _ => rfl)) rfl ?_
    refine AWl.nil ?_
    refine AW.cond (.tmp rfl fun _ => rfl) (fun hlt => ?_) (fun hlt => ?_)
    · skip
      try simp at hlt
      obtain ⟨x, hx⟩ : ∃ x, w[k]? = some x := ⟨_, List.getElem?_eq_getElem (by omega)⟩
      rw [lineGo_drop hx] at he
      have hxr := isWord_at h12 hx
      have hrow := map_get (f := cInt) (getD_at (d := 0) (l := vs) (k := ((vs.length : Int) - 1).toNat) (by omega))
      refine AW.skip ?_
      refine AW.seq ?_
      refine AW.block ?_
      refine AW.seq ?_
      refine AW.region ?_
      refine AWl.put ((by exact R_fieldAddr_pp rfl (.no rfl) rfl (.tmp rfl fun _ => rfl) fl35_0)) rfl ?_
      refine AWl.put ((by exact R_load_pp rfl (.no rfl) rfl (.tmp rfl fun _ => rfl) rfl ty22 rfl rfl)) rfl ?_
      refine AWl.put ((by exact R_lenm rfl (.no rfl) rfl (.tmp rfl fun _ => rfl) (by exact .rf rfl) Try.underlying22)) rfl ?_
      refine AWl.put (R_sub rfl (.no rfl) rfl (.tmp rfl fun _ => rfl) (.const rfl) (fun _ => by omega)) rfl ?_
      refine AWl.put (R_assign rfl (.no rfl) rfl (.tmp rfl fun _ => rfl)) rfl ?_
      refine AWl.nil ?_
      refine AW.seq ?_
      refine AW.seq ?_
      refine AW.le (σ' := ⟨_, [(0, _), (2, _), (4, _), (5, _), (6, _), (7, _)], [(2, _), (4, _), (14, _), (20003, _)]⟩) (Le.sub0 rfl ⟨rfl, rfl, rfl, rfl, rfl, rfl, trivial⟩ ⟨rfl, rfl, rfl, rfl, trivial⟩) ?_
      refine AW.region ?_
      refine AWl.put (R_move rfl (.no rfl) rfl (.tmp rfl fun _ => rfl)) rfl ?_
      refine AWl.put (R_move rfl (.no rfl) rfl (.tmp rfl fun _ => rfl)) rfl ?_
      refine AWl.put ((by exact R_indexAddr rfl (.no rfl) rfl (.tmp rfl fun _ => rfl) (.tmp rfl fun _ => rfl) Try.underlying22 ty3 (fun _ => ⟨by omega, (by exact map_get (by assumption))⟩))) rfl ?_
      refine AWl.put ((by exact R_load rfl (.no rfl) rfl (.tmp rfl fun _ => rfl) ty3 rfl rfl)) rfl ?_
      refine AWl.put (R_callz (FnT.fr (specIsMove _)) rfl (.no rfl) rfl (.cons (.tmp rfl fun _ => rfl) rfl .nil)) rfl ?_
      refine AWl.put (R_not rfl (.no rfl) rfl (.tmp rfl fun _ => rfl)) rfl ?_
      refine AWl.nil ?_
      refine AW.cond (.tmp rfl fun _ => rfl) (fun h31 => ?_) (fun h31 => ?_)
      · skip
        try simp at h31
        refine AW.seq ?_
        refine AW.le (σ' := ⟨_, [(0, _), (2, _), (4, _), (5, _), (6, _), (7, _)], [(2, _), (4, _), (14, _), (20003, _)]⟩) (Le.sub0 rfl ⟨rfl, rfl, rfl, rfl, rfl, rfl, trivial⟩ ⟨rfl, rfl, rfl, rfl, trivial⟩) ?_
        refine AW.region ?_
        refine AWl.put (R_move rfl (.no rfl) rfl (.tmp rfl fun _ => rfl)) rfl ?_
        refine AWl.put (R_move rfl (.no rfl) rfl (.tmp rfl fun _ => rfl)) rfl ?_
        refine AWl.put ((by exact R_indexAddr rfl (.no rfl) rfl (.tmp rfl fun _ => rfl) (.tmp rfl fun _ => rfl) Try.underlying22 ty3 (fun _ => ⟨by omega, (by exact map_get (by assumption))⟩))) rfl ?_
        refine AWl.put ((by exact R_load rfl (.no rfl) rfl (.tmp rfl fun _ => rfl) ty3 rfl rfl)) rfl ?_
        refine AWl.put (R_sub rfl (.no rfl) rfl (.tmp rfl fun _ => rfl) (.const rfl) (fun _ => by omega)) rfl ?_
        refine AWl.put (R_assign rfl (.no rfl) rfl (.tmp rfl fun _ => rfl)) rfl ?_
        refine AWl.nil ?_
        refine AW.seq ?_
        refine AW.seq ?_
        refine AW.region ?_
        refine AWl.put (R_move rfl (.no rfl) rfl (.tmp rfl fun _ => rfl)) rfl ?_
        refine AWl.put (R_move rfl (.no rfl) rfl (.tmp rfl fun _ => rfl)) rfl ?_
        refine AWl.put ((by exact R_fieldAddr_pp rfl (by exact .yes1 rfl rfl rfl rfl) rfl (.tmp rfl (by exact fun _ => rfl)) fl35_0)) rfl ?_
        refine AWl.put ((by exact R_load_pp rfl (by exact .yes1 rfl rfl rfl rfl) rfl (.tmp rfl (by exact id)) rfl ty22 rfl rfl)) rfl ?_
        refine AWl.put (R_move rfl (by exact .yes1 rfl rfl rfl rfl) rfl (.tmp rfl (by exact fun _ => rfl))) rfl ?_
        refine AWl.put ((by exact R_indexAddr_rf rfl (by exact .yes1 rfl rfl rfl rfl) rfl (.tmp rfl (by exact id)) rfl (.tmp rfl (by exact id)) Try.underlying22 ty3 (fun hq => by (try simp at hq); exact ⟨by omega, (by assumption)⟩))) rfl ?_
        refine AWl.put ((by exact R_load_pr rfl (by exact .yes1 rfl rfl rfl rfl) rfl (.tmp rfl (by exact id)) rfl (by assumption) ty3 rfl rfl)) rfl ?_
        refine AWl.put (R_move rfl (by exact .yes1 rfl rfl rfl rfl) rfl (.tmp rfl (by exact fun _ => rfl))) rfl ?_
        refine AWl.put (R_ne rfl (by exact .yes1 rfl rfl rfl rfl) rfl (.tmp rfl (by exact id)) (.tmp rfl (by exact id))) rfl ?_
        refine AWl.put (R_and rfl (.no rfl) rfl (.tmp rfl fun _ => rfl) (.tmp rfl (by exact id))) rfl ?_
        refine AWl.nil ?_
        refine AW.cond (.tmp rfl fun _ => rfl) (fun h46 => ?_) (fun h46 => ?_)
        · skip
          skip
          refine AW.seq ?_
          refine AW.le (σ' := ⟨_, [(0, _), (2, _), (4, _), (5, _), (6, _), (7, _), (8, _)], [(2, _), (4, _), (14, _), (20003, _)]⟩) (Le.sub0 rfl ⟨rfl, rfl, rfl, rfl, rfl, rfl, rfl, trivial⟩ ⟨rfl, rfl, rfl, rfl, trivial⟩) ?_
          refine AW.region ?_
          refine AWl.put (R_build (ps := []) rfl rfl rfl in35 rfl rfl st35 .nil rfl) rfl ?_
          refine AWl.nilA (i := 47) 20004 1 0 rfl rfl rfl ?_
          refine AWl.nilA (i := 47) 20005 4 1 rfl rfl rfl ?_
          refine AWl.chgb (R_store_pb rfl rfl rfl (.tmp rfl fun _ => rfl) (.tmp rfl fun _ => rfl) rfl ty35 rfl rfl rfl (by kernel_rfl) rfl) ?_
          refine AWl.le (σ' := ⟨_, [(0, _), (2, _), (4, _), (5, _), (6, _), (7, _), (8, _)], [(2, _), (4, _), (14, _), (20003, _), (20004, _), (20005, _)]⟩) (Le.sub0 rfl ⟨rfl, rfl, rfl, rfl, rfl, rfl, rfl, trivial⟩ ⟨rfl, rfl, rfl, rfl, rfl, rfl, trivial⟩) ?_
          refine AWl.put (R_assign rfl (.no rfl) rfl (.const rfl)) rfl ?_
          refine AWl.nil ?_
          refine AW.ret ?_
          refine Res.many rfl (.cell rfl rfl ty35 rfl rfl (.tmp rfl .nil)) rfl ?_ (by simp)
          rw [lineGraph_none (by rw [he, if_neg (by simp [h31]), if_pos (by unfold lineGo.lastV; rw [h46])])]; rfl
        · skip
          skip
          refine AW.skip ?_
          refine AW.seq ?_
          refine AW.le (σ' := ⟨_, [(0, _), (2, _), (4, _), (5, _), (6, _), (7, _), (8, _)], [(2, _), (4, _), (14, _), (20003, _)]⟩) (Le.sub0 rfl ⟨rfl, rfl, rfl, rfl, rfl, rfl, rfl, trivial⟩ ⟨rfl, rfl, rfl, rfl, trivial⟩) ?_
          refine AW.region ?_
          refine AWl.put ((by exact R_fieldAddr_pp rfl (.no rfl) rfl (.tmp rfl fun _ => rfl) fl35_0)) rfl ?_
          refine AWl.put ((by exact R_load_pp rfl (.no rfl) rfl (.tmp rfl fun _ => rfl) rfl ty22 rfl rfl)) rfl ?_
          refine AWl.put (R_move rfl (.no rfl) rfl (.tmp rfl fun _ => rfl)) rfl ?_
          refine AWl.put (R_move rfl (.no rfl) rfl (.tmp rfl fun _ => rfl)) rfl ?_
          refine AWl.put ((by exact R_indexAddr_rf rfl (.no rfl) rfl (.tmp rfl fun _ => rfl) rfl (.tmp rfl fun _ => rfl) Try.underlying22 ty3 (fun _ => ⟨by omega, (by assumption)⟩))) rfl ?_
          refine AWl.absupd (R_store_pr rfl rfl rfl (.tmp rfl fun _ => rfl) rfl (.tmp rfl fun _ => rfl) rfl (by assumption) ty3 rfl rfl rfl rfl) ?_
          refine AWl.nil ?_
          refine AW.seq ?_
          refine AW.region ?_
          refine AWl.put (R_assign rfl (.no rfl) rfl (.const rfl)) rfl ?_
          refine AWl.nil ?_
          refine AW.exit ?_
          refine AW.region ?_
          refine AWl.put (R_move rfl (.no rfl) rfl (.tmp rfl fun _ => rfl)) rfl ?_
          refine AWl.put (R_add rfl (.no rfl) rfl (.tmp rfl fun _ => rfl) (.const rfl) (fun _ => by omega)) rfl ?_
          refine AWl.put (R_assign rfl (.no rfl) rfl (.tmp rfl fun _ => rfl)) rfl ?_
          refine AWl.nil ?_
          repeat (with_reducible refine BlockQ.nor ?_)
          refine Round4.next (k + 1) (vs.set ((vs.length : Int) - 1).toNat (x - 6)) (es) (true) ⟨by simp; omega, by rw [he, if_neg (by simp [h31]), if_neg (by unfold lineGo.lastV; rw [h46]; simp)]⟩ (by omega) (Le.sub0 rfl ⟨rfl, rfl, rfl, rfl, rfl, trivial⟩ ⟨(by rfl), (by rfl), (by (refine congrArg (fun r => some (R.row _ r)) ?_; simp [chunk, List.map_set, cInt, cBool, cIntS, cPair, cToken, cExpr, cEdge, cGraph, cStep, cWalk, cChange, cBatch, cHistory, cPositions, cAutomaton, cProductStep, cPathAtom, cConjunction, cView, cDelta, cRegistered, cRegistry])), rfl, trivial⟩)
      · skip
        try simp at h31
        refine AW.skip ?_
        refine AW.seq ?_
        refine AW.seq ?_
        refine AW.le (σ' := ⟨_, [(0, _), (2, _), (4, _), (5, _), (6, _), (7, _)], [(2, _), (4, _), (14, _), (20003, _)]⟩) (Le.sub0 rfl ⟨rfl, rfl, rfl, rfl, rfl, rfl, trivial⟩ ⟨rfl, rfl, rfl, rfl, trivial⟩) ?_
        refine AW.region ?_
        refine AWl.put (R_move rfl (.no rfl) rfl (.tmp rfl fun _ => rfl)) rfl ?_
        refine AWl.put (R_add rfl (.no rfl) rfl (.tmp rfl fun _ => rfl) (.const rfl) (fun _ => by omega)) rfl ?_
        refine AWl.put (R_eq rfl (.no rfl) rfl (.tmp rfl fun _ => rfl) (.const rfl)) rfl ?_
        refine AWl.nil ?_
        refine AW.cond (.tmp rfl fun _ => rfl) (fun h55 => ?_) (fun h55 => ?_)
        · skip
          try simp at h55
          have h5 : vs.length = 5 := by omega
          refine AW.seq ?_
          refine AW.region ?_
          refine AWl.put (R_build (ps := []) rfl rfl rfl in35 rfl rfl st35 .nil rfl) rfl ?_
          refine AWl.nilA (i := 56) 20006 1 0 rfl rfl rfl ?_
          refine AWl.nilA (i := 56) 20007 4 1 rfl rfl rfl ?_
          refine AWl.chgb (R_store_pb rfl rfl rfl (.tmp rfl fun _ => rfl) (.tmp rfl fun _ => rfl) rfl ty35 rfl rfl rfl (by kernel_rfl) rfl) ?_
          refine AWl.le (σ' := ⟨_, [(0, _), (2, _), (4, _), (5, _), (6, _), (7, _), (55, _)], [(2, _), (4, _), (14, _), (20003, _), (20006, _), (20007, _)]⟩) (Le.sub0 rfl ⟨rfl, rfl, rfl, rfl, rfl, rfl, rfl, trivial⟩ ⟨rfl, rfl, rfl, rfl, rfl, rfl, trivial⟩) ?_
          refine AWl.put (R_assign rfl (.no rfl) rfl (.const rfl)) rfl ?_
          refine AWl.nil ?_
          refine AW.ret ?_
          refine Res.many rfl (.cell rfl rfl ty35 rfl rfl (.tmp rfl .nil)) rfl ?_ (by simp)
          rw [lineGraph_none (by rw [he, if_pos h31, if_pos h5])]; rfl
        · skip
          try simp at h55
          have h5 : ¬ vs.length = 5 := by omega
          refine AW.skip ?_
          refine AW.seq ?_
          refine AW.region ?_
          refine AWl.put (R_move rfl (.no rfl) rfl (.tmp rfl fun _ => rfl)) rfl ?_
          refine AWl.put (R_add rfl (.no rfl) rfl (.tmp rfl fun _ => rfl) (.const rfl) (fun _ => by omega)) rfl ?_
          refine AWl.put (R_move rfl (.no rfl) rfl (.tmp rfl fun _ => rfl)) rfl ?_
          refine AWl.put (R_move rfl (.no rfl) rfl (.tmp rfl fun _ => rfl)) rfl ?_
          refine AWl.put (R_add rfl (.no rfl) rfl (.tmp rfl fun _ => rfl) (.const rfl) (fun _ => by omega)) rfl ?_
          refine AWl.put (R_move rfl (.no rfl) rfl (.tmp rfl fun _ => rfl)) rfl ?_
          refine AWl.put (R_move rfl (.no rfl) rfl (.tmp rfl fun _ => rfl)) rfl ?_
          refine AWl.put ((by exact R_indexAddr rfl (.no rfl) rfl (.tmp rfl fun _ => rfl) (.tmp rfl fun _ => rfl) Try.underlying22 ty3 (fun _ => ⟨by omega, (by exact map_get (by assumption))⟩))) rfl ?_
          refine AWl.put ((by exact R_load rfl (.no rfl) rfl (.tmp rfl fun _ => rfl) ty3 rfl rfl)) rfl ?_
          refine AWl.put (R_quo rfl (.no rfl) rfl (.tmp rfl fun _ => rfl) (.const rfl) (fun _ => by omega)) rfl ?_
          refine AWl.put (R_build (ps := [(0, .tmp 58), (1, .tmp 59), (2, .tmp 61), (3, .tmp 66)]) rfl rfl rfl in154 rfl rfl st154 (.cons (.tmp rfl fun _ => rfl) rfl rfl fp154_0 (.cons (.tmp rfl fun _ => rfl) rfl rfl fp154_1 (.cons (.tmp rfl fun _ => rfl) rfl rfl fp154_2 (.cons (.tmp rfl fun _ => rfl) rfl rfl fp154_3 .nil)))) rfl) rfl ?_
          refine AWl.add (R_alloc 9 rfl rfl rfl in154 rfl rfl rfl) rfl ?_
          refine AWl.chgb (R_store_pb rfl rfl rfl (.tmp rfl fun _ => rfl) (.tmp rfl fun _ => rfl) rfl ty154 rfl rfl rfl (by kernel_rfl) rfl) ?_
          refine AWl.nil ?_
          refine AW.seq ?_
          refine AW.seq ?_
          refine AW.le (σ' := ⟨_, [(0, _), (2, _), (4, _), (5, _), (6, _), (7, _), (9, _)], [(2, _), (4, _), (14, _), (20003, _), (9, _)]⟩) (Le.sub0 rfl ⟨rfl, rfl, rfl, rfl, rfl, rfl, rfl, trivial⟩ ⟨rfl, rfl, rfl, rfl, rfl, trivial⟩) ?_
          refine AW.region ?_
          refine AWl.put (R_move rfl (.no rfl) rfl (.tmp rfl fun _ => rfl)) rfl ?_
          refine AWl.put (R_move rfl (.no rfl) rfl (.tmp rfl fun _ => rfl)) rfl ?_
          refine AWl.put ((by exact R_indexAddr rfl (.no rfl) rfl (.tmp rfl fun _ => rfl) (.tmp rfl fun _ => rfl) Try.underlying22 ty3 (fun _ => ⟨by omega, (by exact map_get (by assumption))⟩))) rfl ?_
          refine AWl.put ((by exact R_load rfl (.no rfl) rfl (.tmp rfl fun _ => rfl) ty3 rfl rfl)) rfl ?_
          refine AWl.put (R_rem rfl (.no rfl) rfl (.tmp rfl fun _ => rfl) (.const rfl) (fun _ => by omega)) rfl ?_
          refine AWl.put (R_eq rfl (.no rfl) rfl (.tmp rfl fun _ => rfl) (.const rfl)) rfl ?_
          refine AWl.nil ?_
          refine AW.cond (.tmp rfl fun _ => rfl) (fun h73 => ?_) (fun h73 => ?_)
          · skip
            try simp at h73
            refine AW.le (σ' := ⟨_, [(0, _), (2, _), (4, _), (5, _), (6, _), (7, _), (9, _)], [(2, _), (4, _), (14, _), (20003, _), (9, _)]⟩) (Le.sub0 rfl ⟨rfl, rfl, rfl, rfl, rfl, rfl, rfl, trivial⟩ ⟨rfl, rfl, rfl, rfl, rfl, trivial⟩) ?_
            refine AW.region ?_
            refine AWl.put (R_move rfl (.no rfl) rfl (.tmp rfl fun _ => rfl)) rfl ?_
            refine AWl.put (R_add rfl (.no rfl) rfl (.tmp rfl fun _ => rfl) (.const rfl) (fun _ => by omega)) rfl ?_
            refine AWl.put (R_move rfl (.no rfl) rfl (.tmp rfl fun _ => rfl)) rfl ?_
            refine AWl.put (R_add rfl (.no rfl) rfl (.tmp rfl fun _ => rfl) (.const rfl) (fun _ => by omega)) rfl ?_
            refine AWl.put (R_move rfl (.no rfl) rfl (.tmp rfl fun _ => rfl)) rfl ?_
            refine AWl.put (R_move rfl (.no rfl) rfl (.tmp rfl fun _ => rfl)) rfl ?_
            refine AWl.put (R_move rfl (.no rfl) rfl (.tmp rfl fun _ => rfl)) rfl ?_
            refine AWl.put ((by exact R_indexAddr rfl (.no rfl) rfl (.tmp rfl fun _ => rfl) (.tmp rfl fun _ => rfl) Try.underlying22 ty3 (fun _ => ⟨by omega, (by exact map_get (by assumption))⟩))) rfl ?_
            refine AWl.put ((by exact R_load rfl (.no rfl) rfl (.tmp rfl fun _ => rfl) ty3 rfl rfl)) rfl ?_
            refine AWl.put (R_quo rfl (.no rfl) rfl (.tmp rfl fun _ => rfl) (.const rfl) (fun _ => by omega)) rfl ?_
            refine AWl.put (R_build (ps := [(0, .tmp 75), (1, .tmp 77), (2, .tmp 78), (3, .tmp 83)]) rfl rfl rfl in154 rfl rfl st154 (.cons (.tmp rfl fun _ => rfl) rfl rfl fp154_0 (.cons (.tmp rfl fun _ => rfl) rfl rfl fp154_1 (.cons (.tmp rfl fun _ => rfl) rfl rfl fp154_2 (.cons (.tmp rfl fun _ => rfl) rfl rfl fp154_3 .nil)))) rfl) rfl ?_
            refine AWl.chgb (R_store_pb rfl rfl rfl (.tmp rfl fun _ => rfl) (.tmp rfl fun _ => rfl) rfl ty154 rfl rfl rfl (by kernel_rfl) rfl) ?_
            refine AWl.nil ?_
            refine AW.seq ?_
            refine AW.le (σ' := ⟨_, [(0, _), (2, _), (4, _), (5, _), (6, _), (7, _), (9, _)], [(2, _), (4, _), (14, _), (20003, _), (9, _)]⟩) (Le.sub0 rfl ⟨rfl, rfl, rfl, rfl, rfl, rfl, rfl, trivial⟩ ⟨rfl, rfl, rfl, rfl, rfl, trivial⟩) ?_
            refine AW.region ?_
            refine AWl.put ((by exact R_fieldAddr_pp rfl (.no rfl) rfl (.tmp rfl fun _ => rfl) fl35_0)) rfl ?_
            refine AWl.put ((by exact R_load_pp rfl (.no rfl) rfl (.tmp rfl fun _ => rfl) rfl ty22 rfl rfl)) rfl ?_
            refine AWl.absadd (R_list (xs := [.const (.int .i64 (0))]) 87 rfl rfl rfl (.cons (.const rfl) rfl rfl .nil) Try.underlying22 in3 rfl rfl rfl rfl) rfl ?_
            refine AWl.abschgput (R_append_own rfl rfl rfl (.tmp rfl fun _ => rfl) rfl (.tmp rfl fun _ => rfl) rfl rfl Try.underlying22 in3 rfl (by (simp [chunk]; omega)) (by (unfold maxLen; simp [chunk]; omega))) rfl ?_
            refine AWl.le (σ' := ⟨_, [(0, _), (2, _), (4, _), (5, _), (6, _), (7, _), (9, _), (88, _)], [(2, _), (4, _), (14, _), (20003, _), (9, _)]⟩) (Le.sub0 rfl ⟨rfl, rfl, rfl, rfl, rfl, rfl, rfl, rfl, trivial⟩ ⟨rfl, rfl, rfl, rfl, rfl, trivial⟩) ?_
            refine AWl.put ((by exact R_fieldAddr_pp rfl (.no rfl) rfl (.tmp rfl fun _ => rfl) fl35_0)) rfl ?_
            refine AWl.chgb (R_store_pb rfl rfl rfl (.tmp rfl fun _ => rfl) (.tmp rfl fun _ => rfl) rfl ty22 rfl rfl rfl (by kernel_rfl) rfl) ?_
            refine AWl.nil ?_
            refine AW.seq ?_
            refine AW.region ?_
            refine AWl.put ((by exact R_fieldAddr_pp rfl (.no rfl) rfl (.tmp rfl fun _ => rfl) fl35_1)) rfl ?_
            refine AWl.put ((by exact R_load_pp rfl (.no rfl) rfl (.tmp rfl fun _ => rfl) rfl ty33 rfl rfl)) rfl ?_
            refine AWl.put ((by exact R_load_pp rfl (.no rfl) rfl (.tmp rfl fun _ => rfl) rfl ty154 rfl rfl)) rfl ?_
            refine AWl.absadd (R_list (xs := [.tmp 92]) 93 rfl rfl rfl (.cons (.tmp rfl fun _ => rfl) rfl rfl .nil) Try.underlying33 in154 rfl rfl rfl rfl) rfl ?_
            refine AWl.abschgput (R_append_own rfl rfl rfl (.tmp rfl fun _ => rfl) rfl (.tmp rfl fun _ => rfl) rfl rfl Try.underlying33 in154 rfl (by (simp [chunk]; omega)) (by (unfold maxLen; simp [chunk]; omega))) rfl ?_
            refine AWl.le (σ' := ⟨_, [(0, _), (2, _), (4, _), (5, _), (6, _), (7, _), (9, _), (94, _)], [(2, _), (4, _), (14, _), (20003, _), (9, _)]⟩) (Le.sub0 rfl ⟨rfl, rfl, rfl, rfl, rfl, rfl, rfl, rfl, trivial⟩ ⟨rfl, rfl, rfl, rfl, rfl, trivial⟩) ?_
            refine AWl.put ((by exact R_fieldAddr_pp rfl (.no rfl) rfl (.tmp rfl fun _ => rfl) fl35_1)) rfl ?_
            refine AWl.chgb (R_store_pb rfl rfl rfl (.tmp rfl fun _ => rfl) (.tmp rfl fun _ => rfl) rfl ty33 rfl rfl rfl (by kernel_rfl) rfl) ?_
            refine AWl.nil ?_
            refine AW.region ?_
            refine AWl.put (R_assign rfl (.no rfl) rfl (.const rfl)) rfl ?_
            refine AWl.nil ?_
            refine AW.region ?_
            refine AWl.put (R_move rfl (.no rfl) rfl (.tmp rfl fun _ => rfl)) rfl ?_
            refine AWl.put (R_add rfl (.no rfl) rfl (.tmp rfl fun _ => rfl) (.const rfl) (fun _ => by omega)) rfl ?_
            refine AWl.put (R_assign rfl (.no rfl) rfl (.tmp rfl fun _ => rfl)) rfl ?_
            refine AWl.nil ?_
            repeat (with_reducible refine BlockQ.nor ?_)
            refine Round4.next (k + 1) (vs ++ [0]) (es ++ [lineEdge ((vs.length : Int) - 1) x]) (false) ⟨by simp; omega, by rw [he, if_pos h31, if_neg h5]⟩ (by omega) (Le.sub0 rfl ⟨rfl, rfl, rfl, rfl, rfl, trivial⟩ ⟨(by rfl), (by rfl), (by (refine congrArg (fun r => some (R.row _ r)) ?_; simp [chunk, List.map_set, cInt, cBool, cIntS, cPair, cToken, cExpr, cEdge, cGraph, cStep, cWalk, cChange, cBatch, cHistory, cPositions, cAutomaton, cProductStep, cPathAtom, cConjunction, cView, cDelta, cRegistered, cRegistry])), congrArg (fun r => some (R.row 4 r)) (by simp [chunk, lineEdge, h73, cEdge]), trivial⟩)
          · skip
            try simp at h73
            refine AW.skip ?_
            refine AW.seq ?_
            refine AW.le (σ' := ⟨_, [(0, _), (2, _), (4, _), (5, _), (6, _), (7, _), (9, _)], [(2, _), (4, _), (14, _), (20003, _), (9, _)]⟩) (Le.sub0 rfl ⟨rfl, rfl, rfl, rfl, rfl, rfl, rfl, trivial⟩ ⟨rfl, rfl, rfl, rfl, rfl, trivial⟩) ?_
            refine AW.region ?_
            refine AWl.put ((by exact R_fieldAddr_pp rfl (.no rfl) rfl (.tmp rfl fun _ => rfl) fl35_0)) rfl ?_
            refine AWl.put ((by exact R_load_pp rfl (.no rfl) rfl (.tmp rfl fun _ => rfl) rfl ty22 rfl rfl)) rfl ?_
            refine AWl.absadd (R_list (xs := [.const (.int .i64 (0))]) 87 rfl rfl rfl (.cons (.const rfl) rfl rfl .nil) Try.underlying22 in3 rfl rfl rfl rfl) rfl ?_
            refine AWl.abschgput (R_append_own rfl rfl rfl (.tmp rfl fun _ => rfl) rfl (.tmp rfl fun _ => rfl) rfl rfl Try.underlying22 in3 rfl (by (simp [chunk]; omega)) (by (unfold maxLen; simp [chunk]; omega))) rfl ?_
            refine AWl.le (σ' := ⟨_, [(0, _), (2, _), (4, _), (5, _), (6, _), (7, _), (9, _), (88, _)], [(2, _), (4, _), (14, _), (20003, _), (9, _)]⟩) (Le.sub0 rfl ⟨rfl, rfl, rfl, rfl, rfl, rfl, rfl, rfl, trivial⟩ ⟨rfl, rfl, rfl, rfl, rfl, trivial⟩) ?_
            refine AWl.put ((by exact R_fieldAddr_pp rfl (.no rfl) rfl (.tmp rfl fun _ => rfl) fl35_0)) rfl ?_
            refine AWl.chgb (R_store_pb rfl rfl rfl (.tmp rfl fun _ => rfl) (.tmp rfl fun _ => rfl) rfl ty22 rfl rfl rfl (by kernel_rfl) rfl) ?_
            refine AWl.nil ?_
            refine AW.seq ?_
            refine AW.region ?_
            refine AWl.put ((by exact R_fieldAddr_pp rfl (.no rfl) rfl (.tmp rfl fun _ => rfl) fl35_1)) rfl ?_
            refine AWl.put ((by exact R_load_pp rfl (.no rfl) rfl (.tmp rfl fun _ => rfl) rfl ty33 rfl rfl)) rfl ?_
            refine AWl.put ((by exact R_load_pp rfl (.no rfl) rfl (.tmp rfl fun _ => rfl) rfl ty154 rfl rfl)) rfl ?_
            refine AWl.absadd (R_list (xs := [.tmp 92]) 93 rfl rfl rfl (.cons (.tmp rfl fun _ => rfl) rfl rfl .nil) Try.underlying33 in154 rfl rfl rfl rfl) rfl ?_
            refine AWl.abschgput (R_append_own rfl rfl rfl (.tmp rfl fun _ => rfl) rfl (.tmp rfl fun _ => rfl) rfl rfl Try.underlying33 in154 rfl (by (simp [chunk]; omega)) (by (unfold maxLen; simp [chunk]; omega))) rfl ?_
            refine AWl.le (σ' := ⟨_, [(0, _), (2, _), (4, _), (5, _), (6, _), (7, _), (9, _), (94, _)], [(2, _), (4, _), (14, _), (20003, _), (9, _)]⟩) (Le.sub0 rfl ⟨rfl, rfl, rfl, rfl, rfl, rfl, rfl, rfl, trivial⟩ ⟨rfl, rfl, rfl, rfl, rfl, trivial⟩) ?_
            refine AWl.put ((by exact R_fieldAddr_pp rfl (.no rfl) rfl (.tmp rfl fun _ => rfl) fl35_1)) rfl ?_
            refine AWl.chgb (R_store_pb rfl rfl rfl (.tmp rfl fun _ => rfl) (.tmp rfl fun _ => rfl) rfl ty33 rfl rfl rfl (by kernel_rfl) rfl) ?_
            refine AWl.nil ?_
            refine AW.region ?_
            refine AWl.put (R_assign rfl (.no rfl) rfl (.const rfl)) rfl ?_
            refine AWl.nil ?_
            refine AW.region ?_
            refine AWl.put (R_move rfl (.no rfl) rfl (.tmp rfl fun _ => rfl)) rfl ?_
            refine AWl.put (R_add rfl (.no rfl) rfl (.tmp rfl fun _ => rfl) (.const rfl) (fun _ => by omega)) rfl ?_
            refine AWl.put (R_assign rfl (.no rfl) rfl (.tmp rfl fun _ => rfl)) rfl ?_
            refine AWl.nil ?_
            repeat (with_reducible refine BlockQ.nor ?_)
            refine Round4.next (k + 1) (vs ++ [0]) (es ++ [lineEdge ((vs.length : Int) - 1) x]) (false) ⟨by simp; omega, by rw [he, if_pos h31, if_neg h5]⟩ (by omega) (Le.sub0 rfl ⟨rfl, rfl, rfl, rfl, rfl, trivial⟩ ⟨(by rfl), (by rfl), (by (refine congrArg (fun r => some (R.row _ r)) ?_; simp [chunk, List.map_set, cInt, cBool, cIntS, cPair, cToken, cExpr, cEdge, cGraph, cStep, cWalk, cChange, cBatch, cHistory, cPositions, cAutomaton, cProductStep, cPathAtom, cConjunction, cView, cDelta, cRegistered, cRegistry])), congrArg (fun r => some (R.row 4 r)) (by simp [chunk, lineEdge, h73, cEdge]), trivial⟩)
    · skip
      try simp at hlt
      refine AW.exit ?_
      refine AW.seq ?_
      refine AW.region ?_
      refine AWl.put ((by exact R_load_pp rfl (.no rfl) rfl (.tmp rfl fun _ => rfl) rfl ty35 rfl rfl)) rfl ?_
      refine AWl.chgb (R_store_pb rfl rfl rfl (.tmp rfl fun _ => rfl) (.tmp rfl fun _ => rfl) rfl ty35 rfl rfl rfl (by kernel_rfl) rfl) ?_
      refine AWl.le (σ' := ⟨_, [(0, _), (2, _), (4, _), (5, _), (6, _), (19, _)], [(2, _), (4, _), (14, _), (20003, _)]⟩) (Le.sub0 rfl ⟨rfl, rfl, rfl, rfl, rfl, rfl, trivial⟩ ⟨rfl, rfl, rfl, rfl, trivial⟩) ?_
      refine AWl.put (R_assign rfl (.no rfl) rfl (.const rfl)) rfl ?_
      refine AWl.nil ?_
      refine AW.ret ?_
      refine Res.many rfl (.cell rfl rfl ty35 rfl rfl (.tmp rfl .nil)) rfl ?_ (by simp)
      rw [lineGraph_some (g := ⟨vs, es⟩) h12 (by rw [he, List.drop_eq_nil_of_le (show w.length ≤ k by omega)]; rfl)]; rfl
theorem implLineGraph (w : List Int) : FnT Try.prog 95 [.one (.sl 1 (w.map cInt))] (.tup [.agg (cGraph (lineGraph w).1), .one (.v (.bool (lineGraph w).2))]) := by
  refine FnT.walk Try.func95 rfl (by kernel_rfl) Try.ntmps95 rfl fun hlen w0 => ?_
  try simp [cPair, cToken, cExpr, cEdge, cGraph, cStep, cWalk, cChange, cBatch, cHistory, cPositions, cAutomaton, cProductStep, cPathAtom, cConjunction, cView, cDelta, cRegistered, cRegistry] at hlen
  refine AW.seq ?_
  refine AW.region ?_
  refine AWl.add (R_alloc 2 rfl rfl rfl in35 rfl rfl rfl) rfl ?_
  refine AWl.put (R_assign rfl (.no rfl) rfl (.const rfl)) rfl ?_
  refine AWl.nil ?_
  refine AW.seq ?_
  refine AW.seq ?_
  refine AW.region ?_
  refine AWl.put (R_move rfl (.no rfl) rfl (.tmp rfl fun _ => rfl)) rfl ?_
  refine AWl.put (R_callz (FnT.fr (implIsWord _)) rfl (.no rfl) rfl (.cons (.tmp rfl fun _ => rfl) rfl .nil)) rfl ?_
  refine AWl.put (R_not rfl (.no rfl) rfl (.tmp rfl fun _ => rfl)) rfl ?_
  refine AWl.nil ?_
  refine AW.cond (.tmp rfl fun _ => rfl) (fun h13 => ?_) (fun h13 => ?_)
  · skip
    try simp at h13
    refine AW.seq ?_
    refine AW.region ?_
    refine AWl.put (R_build (ps := []) rfl rfl rfl in35 rfl rfl st35 .nil rfl) rfl ?_
    refine AWl.nilA (i := 14) 20001 1 0 rfl rfl rfl ?_
    refine AWl.nilA (i := 14) 20002 4 1 rfl rfl rfl ?_
    refine AWl.chgb (R_store_pb rfl rfl rfl (.tmp rfl fun _ => rfl) (.tmp rfl fun _ => rfl) rfl ty35 rfl rfl rfl (by kernel_rfl) rfl) ?_
    refine AWl.le (σ' := ⟨_, [(0, _), (2, _), (3, _), (13, _)], [(2, _), (20001, _), (20002, _)]⟩) (Le.sub0 rfl ⟨rfl, rfl, rfl, rfl, trivial⟩ ⟨rfl, rfl, rfl, trivial⟩) ?_
    refine AWl.put (R_assign rfl (.no rfl) rfl (.const rfl)) rfl ?_
    refine AWl.nil ?_
    refine AW.ret ?_
    refine Res.many rfl (.cell rfl rfl ty35 rfl rfl (.tmp rfl .nil)) rfl ?_ (by simp)
    rw [lineGraph_no h13]; rfl
  · skip
    try simp at h13
    have hwl := isWord_len h13
    refine AW.skip ?_
    refine AW.seq ?_
    refine AW.region ?_
    refine AWl.absadd (R_list (xs := [.const (.int .i64 (0))]) 15 rfl rfl rfl (.cons (.const rfl) rfl rfl .nil) Try.underlying22 in3 rfl rfl rfl rfl) rfl ?_
    refine AWl.put (R_build (ps := [(0, .tmp 15)]) rfl rfl rfl in35 rfl rfl st35 (.cons (.tmp rfl fun _ => rfl) rfl rfl fp35_0 .nil) rfl) rfl ?_
    refine AWl.nilA (i := 16) 20003 4 1 rfl rfl rfl ?_
    refine AWl.add (R_alloc 4 rfl rfl rfl in35 rfl rfl rfl) rfl ?_
    refine AWl.chgb (R_store_pb rfl rfl rfl (.tmp rfl fun _ => rfl) (.tmp rfl fun _ => rfl) rfl ty35 rfl rfl rfl (by kernel_rfl) rfl) ?_
    refine AWl.nil ?_
    refine AW.seq ?_
    refine AW.region ?_
    refine AWl.absadd (R_list (xs := [.const (.bool false)]) 17 rfl rfl rfl (.cons (.const rfl) rfl rfl .nil) Try.underlying26 in4 rfl rfl rfl rfl) rfl ?_
    refine AWl.put (R_assign rfl (.no rfl) rfl (.tmp rfl fun _ => rfl)) rfl ?_
    refine AWl.nil ?_
    refine AW.seq ?_
    refine AW.seq ?_
    refine AW.le (σ' := ⟨_, [(0, _), (2, _), (3, _), (4, _), (5, _)], [(2, _), (15, _), (20003, _), (4, _), (17, _)]⟩) (Le.sub0 rfl ⟨rfl, rfl, rfl, rfl, rfl, trivial⟩ ⟨rfl, rfl, rfl, rfl, rfl, trivial⟩) ?_
    refine AW.region ?_
    refine AWl.put (R_move rfl (.no rfl) rfl (.tmp rfl fun _ => rfl)) rfl ?_
    refine AWl.put ((by exact R_lenm rfl (.no rfl) rfl (.tmp rfl fun _ => rfl) (by exact .t) Try.underlying22)) rfl ?_
    refine AWl.put (R_move rfl (.no rfl) rfl (.const rfl)) rfl ?_
    refine AWl.nil ?_
    refine AW.block ?_
    refine AW.loop4 (fun (k : Nat) (vs : List Int) (es : List TEdge) (ts : List Bool) => (k ≤ w.length ∧ 0 < vs.length ∧ vs.length ≤ k + 1 ∧ es.length ≤ k ∧ ts.length = vs.length) ∧ lineI w (w.drop k) vs es ts) (fun (k : Nat) (vs : List Int) (es : List TEdge) (ts : List Bool) => ⟨_, [(20, (true, .a (.one (.t (.v (.int .i64 (k : Nat))))))), (5, (true, .a (.one (.rf 17)))), (2, _), (4, _), (18, _), (19, _)], [(2, .box [.t (.v (.slice none 0 0)), .t (.v (.slice none 0 0))]), (4, .box [.rf 15, .rf 20003]), (15, .row 1 (vs.map cInt)), (20003, .row 4 (es.map cEdge)), (17, .row 1 (ts.map cBool))]⟩) (fun (k : Nat) (vs : List Int) (es : List TEdge) (ts : List Bool) => w.length - k) (0) ([0]) ([]) ([false]) ⟨by simp, by unfold lineI; rw [if_pos (by simp)]; rfl⟩ (Le.sub0 rfl ⟨rfl, rfl, rfl, rfl, rfl, rfl, trivial⟩ ⟨rfl, rfl, rfl, rfl, rfl, trivial⟩) ?_
    rintro k vs es ts ⟨hk, he⟩
    refine AW.seq ?_
    refine AW.region ?_
    refine AWl.put (R_lt rfl (.no rfl) rfl (.tmp rfl fun _ => rfl) (.tmp rfl fun _ => rfl)) rfl ?_
    refine AWl.nil ?_
    refine AW.seq ?_
    refine AW.cond (.tmp rfl fun _ => rfl) (fun hlt => ?_) (fun hlt => ?_)
    · skip
      try simp at hlt
      obtain ⟨x, hx⟩ : ∃ x, w[k]? = some x := ⟨_, List.getElem?_eq_getElem (by omega)⟩
      have hxr := isWord_at h13 hx
      have hrow := map_get (f := cInt) (getD_at (d := 0) (l := vs) (k := ((vs.length : Int) - 1).toNat) (by omega))
      have hrow2 := map_get (f := cBool) (getD_at (d := false) (l := ts) (k := ((vs.length : Int) - 1).toNat) (by omega))
      refine AW.skip ?_
      refine AW.seq ?_
      refine AW.block ?_
      refine AW.seq ?_
      refine AW.region ?_
      refine AWl.put ((by exact R_indexAddr rfl (.no rfl) rfl (.tmp rfl fun _ => rfl) (.tmp rfl fun _ => rfl) Try.underlying22 ty3 (fun _ => ⟨by omega, (by exact map_get (by assumption))⟩))) rfl ?_
      refine AWl.put ((by exact R_load rfl (.no rfl) rfl (.tmp rfl fun _ => rfl) ty3 rfl rfl)) rfl ?_
      refine AWl.put (R_assign rfl (.no rfl) rfl (.tmp rfl fun _ => rfl)) rfl ?_
      refine AWl.nil ?_
      refine AW.seq ?_
      refine AW.region ?_
      refine AWl.put ((by exact R_fieldAddr_pp rfl (.no rfl) rfl (.tmp rfl fun _ => rfl) fl35_0)) rfl ?_
      refine AWl.put ((by exact R_load_pp rfl (.no rfl) rfl (.tmp rfl fun _ => rfl) rfl ty22 rfl rfl)) rfl ?_
      refine AWl.put ((by exact R_lenm rfl (.no rfl) rfl (.tmp rfl fun _ => rfl) (by exact .rf rfl) Try.underlying22)) rfl ?_
      refine AWl.put (R_sub rfl (.no rfl) rfl (.tmp rfl fun _ => rfl) (.const rfl) (fun _ => by omega)) rfl ?_
      refine AWl.put (R_assign rfl (.no rfl) rfl (.tmp rfl fun _ => rfl)) rfl ?_
      refine AWl.nil ?_
      refine AW.seq ?_
      refine AW.seq ?_
      refine AW.le (σ' := ⟨_, [(2, _), (4, _), (5, _), (7, _), (8, _), (18, _), (19, _), (20, _)], [(2, _), (4, _), (15, _), (20003, _), (17, _)]⟩) (Le.sub0 rfl ⟨rfl, rfl, rfl, rfl, rfl, rfl, rfl, rfl, trivial⟩ ⟨rfl, rfl, rfl, rfl, rfl, trivial⟩) ?_
      refine AW.region ?_
      refine AWl.put (R_move rfl (.no rfl) rfl (.tmp rfl fun _ => rfl)) rfl ?_
      refine AWl.put (R_callz (FnT.fr (implIsMove _)) rfl (.no rfl) rfl (.cons (.tmp rfl fun _ => rfl) rfl .nil)) rfl ?_
      refine AWl.put (R_not rfl (.no rfl) rfl (.tmp rfl fun _ => rfl)) rfl ?_
      refine AWl.nil ?_
      refine AW.cond (.tmp rfl fun _ => rfl) (fun h30 => ?_) (fun h30 => ?_)
      · skip
        try simp at h30
        refine AW.seq ?_
        refine AW.region ?_
        refine AWl.put (R_move rfl (.no rfl) rfl (.tmp rfl fun _ => rfl)) rfl ?_
        refine AWl.put (R_sub rfl (.no rfl) rfl (.tmp rfl fun _ => rfl) (.const rfl) (fun _ => by omega)) rfl ?_
        refine AWl.put (R_assign rfl (.no rfl) rfl (.tmp rfl fun _ => rfl)) rfl ?_
        refine AWl.nil ?_
        refine AW.seq ?_
        refine AW.seq ?_
        refine AW.region ?_
        refine AWl.put (R_move rfl (.no rfl) rfl (.tmp rfl fun _ => rfl)) rfl ?_
        refine AWl.put (R_move rfl (.no rfl) rfl (.tmp rfl fun _ => rfl)) rfl ?_
        refine AWl.put ((by exact R_indexAddr_rf rfl (.no rfl) rfl (.tmp rfl fun _ => rfl) rfl (.tmp rfl fun _ => rfl) Try.underlying26 ty4 (fun _ => ⟨by omega, (by assumption)⟩))) rfl ?_
        refine AWl.put ((by exact R_load_pr rfl (.no rfl) rfl (.tmp rfl fun _ => rfl) rfl (by assumption) ty4 rfl rfl)) rfl ?_
        refine AWl.put (R_move rfl (.no rfl) rfl (.tmp rfl fun _ => rfl)) rfl ?_
        refine AWl.put ((by exact R_fieldAddr_pp rfl (by exact .yes1 rfl rfl rfl rfl) rfl (.tmp rfl (by exact fun _ => rfl)) fl35_0)) rfl ?_
        refine AWl.put ((by exact R_load_pp rfl (by exact .yes1 rfl rfl rfl rfl) rfl (.tmp rfl (by exact id)) rfl ty22 rfl rfl)) rfl ?_
        refine AWl.put (R_move rfl (by exact .yes1 rfl rfl rfl rfl) rfl (.tmp rfl (by exact fun _ => rfl))) rfl ?_
        refine AWl.put ((by exact R_indexAddr_rf rfl (by exact .yes1 rfl rfl rfl rfl) rfl (.tmp rfl (by exact id)) rfl (.tmp rfl (by exact id)) Try.underlying22 ty3 (fun hq => by (try simp at hq); exact ⟨by omega, (by assumption)⟩))) rfl ?_
        refine AWl.put ((by exact R_load_pr rfl (by exact .yes1 rfl rfl rfl rfl) rfl (.tmp rfl (by exact id)) rfl (by assumption) ty3 rfl rfl)) rfl ?_
        refine AWl.put (R_move rfl (by exact .yes1 rfl rfl rfl rfl) rfl (.tmp rfl (by exact fun _ => rfl))) rfl ?_
        refine AWl.put (R_ne rfl (by exact .yes1 rfl rfl rfl rfl) rfl (.tmp rfl (by exact id)) (.tmp rfl (by exact id))) rfl ?_
        refine AWl.put (R_and rfl (.no rfl) rfl (.tmp rfl fun _ => rfl) (.tmp rfl (by exact id))) rfl ?_
        refine AWl.nil ?_
        refine AW.cond (.tmp rfl fun _ => rfl) (fun h45 => ?_) (fun h45 => ?_)
        · skip
          skip
          refine AW.seq ?_
          refine AW.le (σ' := ⟨_, [(2, _), (4, _), (5, _), (7, _), (8, _), (9, _), (18, _), (19, _), (20, _)], [(2, _), (4, _), (15, _), (20003, _), (17, _)]⟩) (Le.sub0 rfl ⟨rfl, rfl, rfl, rfl, rfl, rfl, rfl, rfl, rfl, trivial⟩ ⟨rfl, rfl, rfl, rfl, rfl, trivial⟩) ?_
          refine AW.region ?_
          refine AWl.put (R_build (ps := []) rfl rfl rfl in35 rfl rfl st35 .nil rfl) rfl ?_
          refine AWl.nilA (i := 46) 20004 1 0 rfl rfl rfl ?_
          refine AWl.nilA (i := 46) 20005 4 1 rfl rfl rfl ?_
          refine AWl.chgb (R_store_pb rfl rfl rfl (.tmp rfl fun _ => rfl) (.tmp rfl fun _ => rfl) rfl ty35 rfl rfl rfl (by kernel_rfl) rfl) ?_
          refine AWl.le (σ' := ⟨_, [(2, _), (4, _), (5, _), (7, _), (8, _), (9, _), (18, _), (19, _), (20, _)], [(2, _), (4, _), (15, _), (20003, _), (17, _), (20004, _), (20005, _)]⟩) (Le.sub0 rfl ⟨rfl, rfl, rfl, rfl, rfl, rfl, rfl, rfl, rfl, trivial⟩ ⟨rfl, rfl, rfl, rfl, rfl, rfl, rfl, trivial⟩) ?_
          refine AWl.put (R_assign rfl (.no rfl) rfl (.const rfl)) rfl ?_
          refine AWl.nil ?_
          refine AW.ret ?_
          refine Res.many rfl (.cell rfl rfl ty35 rfl rfl (.tmp rfl .nil)) rfl ?_ (by simp)
          rw [lineGraph_none ((lineI_test he hx h30 (by omega) (by omega)).1 h45)]; rfl
        · skip
          skip
          refine AW.skip ?_
          refine AW.seq ?_
          refine AW.le (σ' := ⟨_, [(2, _), (4, _), (5, _), (7, _), (8, _), (9, _), (18, _), (19, _), (20, _)], [(2, _), (4, _), (15, _), (20003, _), (17, _)]⟩) (Le.sub0 rfl ⟨rfl, rfl, rfl, rfl, rfl, rfl, rfl, rfl, rfl, trivial⟩ ⟨rfl, rfl, rfl, rfl, rfl, trivial⟩) ?_
          refine AW.region ?_
          refine AWl.put ((by exact R_fieldAddr_pp rfl (.no rfl) rfl (.tmp rfl fun _ => rfl) fl35_0)) rfl ?_
          refine AWl.put ((by exact R_load_pp rfl (.no rfl) rfl (.tmp rfl fun _ => rfl) rfl ty22 rfl rfl)) rfl ?_
          refine AWl.put (R_move rfl (.no rfl) rfl (.tmp rfl fun _ => rfl)) rfl ?_
          refine AWl.put (R_move rfl (.no rfl) rfl (.tmp rfl fun _ => rfl)) rfl ?_
          refine AWl.put (R_move rfl (.no rfl) rfl (.tmp rfl fun _ => rfl)) rfl ?_
          refine AWl.put (R_move rfl (.no rfl) rfl (.tmp rfl fun _ => rfl)) rfl ?_
          refine AWl.put ((by exact R_indexAddr_rf rfl (.no rfl) rfl (.tmp rfl fun _ => rfl) rfl (.tmp rfl fun _ => rfl) Try.underlying22 ty3 (fun _ => ⟨by omega, (by assumption)⟩))) rfl ?_
          refine AWl.absupd (R_store_pr rfl rfl rfl (.tmp rfl fun _ => rfl) rfl (.tmp rfl fun _ => rfl) rfl (by assumption) ty3 rfl rfl rfl rfl) ?_
          refine AWl.le (σ' := ⟨_, [(2, _), (4, _), (5, _), (7, _), (8, _), (9, _), (18, _), (19, _), (20, _), (50, _), (51, _)], [(2, _), (4, _), (15, _), (20003, _), (17, _)]⟩) (Le.sub0 rfl ⟨rfl, rfl, rfl, rfl, rfl, rfl, rfl, rfl, rfl, rfl, rfl, trivial⟩ ⟨rfl, rfl, rfl, rfl, rfl, trivial⟩) ?_
          refine AWl.put ((by exact R_indexAddr_rf rfl (.no rfl) rfl (.tmp rfl fun _ => rfl) rfl (.tmp rfl fun _ => rfl) Try.underlying26 ty4 (fun _ => ⟨by omega, (by assumption)⟩))) rfl ?_
          refine AWl.absupd (R_store_pr rfl rfl rfl (.const rfl) rfl (.tmp rfl fun _ => rfl) rfl (by assumption) ty4 rfl rfl rfl rfl) ?_
          refine AWl.nil ?_
          refine AW.exit ?_
          refine AW.region ?_
          refine AWl.put (R_add rfl (.no rfl) rfl (.tmp rfl fun _ => rfl) (.const rfl) (fun _ => by omega)) rfl ?_
          refine AWl.put (R_move rfl (.no rfl) rfl (.tmp rfl fun _ => rfl)) rfl ?_
          refine AWl.nil ?_
          repeat (with_reducible refine BlockQ.nor ?_)
          refine Round4.next (k + 1) (vs.set ((vs.length : Int) - 1).toNat (x - 6)) (es) (ts.set ((vs.length : Int) - 1).toNat true) ⟨by simp; omega, (lineI_test he hx h30 (by omega) (by omega)).2 h45⟩ (by omega) (Le.sub0 rfl ⟨rfl, rfl, rfl, rfl, rfl, rfl, trivial⟩ ⟨(by rfl), (by rfl), (by (refine congrArg (fun r => some (R.row _ r)) ?_; simp [chunk, List.map_set, cInt, cBool, cIntS, cPair, cToken, cExpr, cEdge, cGraph, cStep, cWalk, cChange, cBatch, cHistory, cPositions, cAutomaton, cProductStep, cPathAtom, cConjunction, cView, cDelta, cRegistered, cRegistry])), rfl, (by (refine congrArg (fun r => some (R.row _ r)) ?_; simp [chunk, List.map_set, cInt, cBool, cIntS, cPair, cToken, cExpr, cEdge, cGraph, cStep, cWalk, cChange, cBatch, cHistory, cPositions, cAutomaton, cProductStep, cPathAtom, cConjunction, cView, cDelta, cRegistered, cRegistry])), trivial⟩)
      · skip
        try simp at h30
        refine AW.skip ?_
        refine AW.seq ?_
        refine AW.region ?_
        refine AWl.put (R_move rfl (.no rfl) rfl (.tmp rfl fun _ => rfl)) rfl ?_
        refine AWl.put (R_add rfl (.no rfl) rfl (.tmp rfl fun _ => rfl) (.const rfl) (fun _ => by omega)) rfl ?_
        refine AWl.put (R_move rfl (.no rfl) rfl (.tmp rfl fun _ => rfl)) rfl ?_
        refine AWl.put (R_move rfl (.no rfl) rfl (.tmp rfl fun _ => rfl)) rfl ?_
        refine AWl.put (R_add rfl (.no rfl) rfl (.tmp rfl fun _ => rfl) (.const rfl) (fun _ => by omega)) rfl ?_
        refine AWl.put (R_move rfl (.no rfl) rfl (.tmp rfl fun _ => rfl)) rfl ?_
        refine AWl.put (R_quo rfl (.no rfl) rfl (.tmp rfl fun _ => rfl) (.const rfl) (fun _ => by omega)) rfl ?_
        refine AWl.put (R_build (ps := [(0, .tmp 56), (1, .tmp 57), (2, .tmp 59), (3, .tmp 61)]) rfl rfl rfl in154 rfl rfl st154 (.cons (.tmp rfl fun _ => rfl) rfl rfl fp154_0 (.cons (.tmp rfl fun _ => rfl) rfl rfl fp154_1 (.cons (.tmp rfl fun _ => rfl) rfl rfl fp154_2 (.cons (.tmp rfl fun _ => rfl) rfl rfl fp154_3 .nil)))) rfl) rfl ?_
        refine AWl.add (R_alloc 10 rfl rfl rfl in154 rfl rfl rfl) rfl ?_
        refine AWl.chgb (R_store_pb rfl rfl rfl (.tmp rfl fun _ => rfl) (.tmp rfl fun _ => rfl) rfl ty154 rfl rfl rfl (by kernel_rfl) rfl) ?_
        refine AWl.nil ?_
        refine AW.seq ?_
        refine AW.seq ?_
        refine AW.le (σ' := ⟨_, [(2, _), (4, _), (5, _), (7, _), (8, _), (10, _), (18, _), (19, _), (20, _)], [(2, _), (4, _), (15, _), (20003, _), (17, _), (10, _)]⟩) (Le.sub0 rfl ⟨rfl, rfl, rfl, rfl, rfl, rfl, rfl, rfl, rfl, trivial⟩ ⟨rfl, rfl, rfl, rfl, rfl, rfl, trivial⟩) ?_
        refine AW.region ?_
        refine AWl.put (R_move rfl (.no rfl) rfl (.tmp rfl fun _ => rfl)) rfl ?_
        refine AWl.put (R_rem rfl (.no rfl) rfl (.tmp rfl fun _ => rfl) (.const rfl) (fun _ => by omega)) rfl ?_
        refine AWl.put (R_eq rfl (.no rfl) rfl (.tmp rfl fun _ => rfl) (.const rfl)) rfl ?_
        refine AWl.nil ?_
        refine AW.cond (.tmp rfl fun _ => rfl) (fun h65 => ?_) (fun h65 => ?_)
        · skip
          try simp at h65
          refine AW.region ?_
          refine AWl.put (R_move rfl (.no rfl) rfl (.tmp rfl fun _ => rfl)) rfl ?_
          refine AWl.put (R_add rfl (.no rfl) rfl (.tmp rfl fun _ => rfl) (.const rfl) (fun _ => by omega)) rfl ?_
          refine AWl.put (R_move rfl (.no rfl) rfl (.tmp rfl fun _ => rfl)) rfl ?_
          refine AWl.put ((by exact R_fieldAddr_pp rfl (.no rfl) rfl (.tmp rfl fun _ => rfl) fl154_1)) rfl ?_
          refine AWl.chgb (R_store_pb rfl rfl rfl (.tmp rfl fun _ => rfl) (.tmp rfl fun _ => rfl) rfl ty3 rfl rfl rfl (by kernel_rfl) rfl) ?_
          refine AWl.le (σ' := ⟨_, [(2, _), (4, _), (5, _), (7, _), (8, _), (10, _), (18, _), (19, _), (20, _), (65, _), (68, _)], [(2, _), (4, _), (15, _), (20003, _), (17, _), (10, _)]⟩) (Le.sub0 rfl ⟨rfl, rfl, rfl, rfl, rfl, rfl, rfl, rfl, rfl, rfl, rfl, trivial⟩ ⟨rfl, rfl, rfl, rfl, rfl, rfl, trivial⟩) ?_
          refine AWl.put ((by exact R_fieldAddr_pp rfl (.no rfl) rfl (.tmp rfl fun _ => rfl) fl154_2)) rfl ?_
          refine AWl.chgb (R_store_pb rfl rfl rfl (.tmp rfl fun _ => rfl) (.tmp rfl fun _ => rfl) rfl ty3 rfl rfl rfl (by kernel_rfl) rfl) ?_
          refine AWl.nil ?_
          refine AW.seq ?_
          refine AW.region ?_
          refine AWl.put ((by exact R_fieldAddr_pp rfl (.no rfl) rfl (.tmp rfl fun _ => rfl) fl35_1)) rfl ?_
          refine AWl.put ((by exact R_load_pp rfl (.no rfl) rfl (.tmp rfl fun _ => rfl) rfl ty33 rfl rfl)) rfl ?_
          refine AWl.put ((by exact R_load_pp rfl (.no rfl) rfl (.tmp rfl fun _ => rfl) rfl ty154 rfl rfl)) rfl ?_
          refine AWl.absadd (R_list (xs := [.tmp 73]) 74 rfl rfl rfl (.cons (.tmp rfl fun _ => rfl) rfl rfl .nil) Try.underlying33 in154 rfl rfl rfl rfl) rfl ?_
          refine AWl.abschgput (R_append_own rfl rfl rfl (.tmp rfl fun _ => rfl) rfl (.tmp rfl fun _ => rfl) rfl rfl Try.underlying33 in154 rfl (by (simp [chunk]; omega)) (by (unfold maxLen; simp [chunk]; omega))) rfl ?_
          refine AWl.le (σ' := ⟨_, [(2, _), (4, _), (5, _), (7, _), (8, _), (10, _), (18, _), (19, _), (20, _), (65, _), (75, _)], [(2, _), (4, _), (15, _), (20003, _), (17, _), (10, _)]⟩) (Le.sub0 rfl ⟨rfl, rfl, rfl, rfl, rfl, rfl, rfl, rfl, rfl, rfl, rfl, trivial⟩ ⟨rfl, rfl, rfl, rfl, rfl, rfl, trivial⟩) ?_
          refine AWl.put ((by exact R_fieldAddr_pp rfl (.no rfl) rfl (.tmp rfl fun _ => rfl) fl35_1)) rfl ?_
          refine AWl.chgb (R_store_pb rfl rfl rfl (.tmp rfl fun _ => rfl) (.tmp rfl fun _ => rfl) rfl ty33 rfl rfl rfl (by kernel_rfl) rfl) ?_
          refine AWl.nil ?_
          refine AW.seq ?_
          refine AW.region ?_
          refine AWl.put ((by exact R_fieldAddr_pp rfl (.no rfl) rfl (.tmp rfl fun _ => rfl) fl35_0)) rfl ?_
          refine AWl.put ((by exact R_load_pp rfl (.no rfl) rfl (.tmp rfl fun _ => rfl) rfl ty22 rfl rfl)) rfl ?_
          refine AWl.absadd (R_list (xs := [.const (.int .i64 (0))]) 79 rfl rfl rfl (.cons (.const rfl) rfl rfl .nil) Try.underlying22 in3 rfl rfl rfl rfl) rfl ?_
          refine AWl.abschgput (R_append_own rfl rfl rfl (.tmp rfl fun _ => rfl) rfl (.tmp rfl fun _ => rfl) rfl rfl Try.underlying22 in3 rfl (by (simp [chunk]; omega)) (by (unfold maxLen; simp [chunk]; omega))) rfl ?_
          refine AWl.le (σ' := ⟨_, [(2, _), (4, _), (5, _), (7, _), (8, _), (10, _), (18, _), (19, _), (20, _), (65, _), (80, _)], [(2, _), (4, _), (15, _), (20003, _), (17, _), (10, _)]⟩) (Le.sub0 rfl ⟨rfl, rfl, rfl, rfl, rfl, rfl, rfl, rfl, rfl, rfl, rfl, trivial⟩ ⟨rfl, rfl, rfl, rfl, rfl, rfl, trivial⟩) ?_
          refine AWl.put ((by exact R_fieldAddr_pp rfl (.no rfl) rfl (.tmp rfl fun _ => rfl) fl35_0)) rfl ?_
          refine AWl.chgb (R_store_pb rfl rfl rfl (.tmp rfl fun _ => rfl) (.tmp rfl fun _ => rfl) rfl ty22 rfl rfl rfl (by kernel_rfl) rfl) ?_
          refine AWl.nil ?_
          refine AW.region ?_
          refine AWl.put (R_move rfl (.no rfl) rfl (.tmp rfl fun _ => rfl)) rfl ?_
          refine AWl.absadd (R_list (xs := [.const (.bool false)]) 83 rfl rfl rfl (.cons (.const rfl) rfl rfl .nil) Try.underlying26 in4 rfl rfl rfl rfl) rfl ?_
          refine AWl.abschgput (R_append_own rfl rfl rfl (.tmp rfl fun _ => rfl) rfl (.tmp rfl fun _ => rfl) rfl rfl Try.underlying26 in4 rfl (by (simp [chunk]; omega)) (by (unfold maxLen; simp [chunk]; omega))) rfl ?_
          refine AWl.le (σ' := ⟨_, [(2, _), (4, _), (5, _), (7, _), (8, _), (10, _), (18, _), (19, _), (20, _), (65, _), (84, _)], [(2, _), (4, _), (15, _), (20003, _), (17, _), (10, _)]⟩) (Le.sub0 rfl ⟨rfl, rfl, rfl, rfl, rfl, rfl, rfl, rfl, rfl, rfl, rfl, trivial⟩ ⟨rfl, rfl, rfl, rfl, rfl, rfl, trivial⟩) ?_
          refine AWl.put (R_assign rfl (.no rfl) rfl (.tmp rfl fun _ => rfl)) rfl ?_
          refine AWl.nil ?_
          refine AW.region ?_
          refine AWl.put (R_add rfl (.no rfl) rfl (.tmp rfl fun _ => rfl) (.const rfl) (fun _ => by omega)) rfl ?_
          refine AWl.put (R_move rfl (.no rfl) rfl (.tmp rfl fun _ => rfl)) rfl ?_
          refine AWl.nil ?_
          repeat (with_reducible refine BlockQ.nor ?_)
          refine Round4.next (k + 1) (vs ++ [0]) (es ++ [lineEdge ((vs.length : Int) - 1) x]) (ts ++ [false]) ⟨by simp; omega, lineI_move he hx h30 (by omega)⟩ (by omega) (Le.sub0 rfl ⟨rfl, rfl, rfl, rfl, rfl, rfl, trivial⟩ ⟨(by rfl), (by rfl), (by (refine congrArg (fun r => some (R.row _ r)) ?_; simp [chunk, List.map_set, cInt, cBool, cIntS, cPair, cToken, cExpr, cEdge, cGraph, cStep, cWalk, cChange, cBatch, cHistory, cPositions, cAutomaton, cProductStep, cPathAtom, cConjunction, cView, cDelta, cRegistered, cRegistry])), congrArg (fun r => some (R.row 4 r)) (by simp [chunk, lineEdge, h65, cEdge]), (by (refine congrArg (fun r => some (R.row _ r)) ?_; simp [chunk, List.map_set, cInt, cBool, cIntS, cPair, cToken, cExpr, cEdge, cGraph, cStep, cWalk, cChange, cBatch, cHistory, cPositions, cAutomaton, cProductStep, cPathAtom, cConjunction, cView, cDelta, cRegistered, cRegistry])), trivial⟩)
        · skip
          try simp at h65
          refine AW.skip ?_
          refine AW.seq ?_
          refine AW.region ?_
          refine AWl.put ((by exact R_fieldAddr_pp rfl (.no rfl) rfl (.tmp rfl fun _ => rfl) fl35_1)) rfl ?_
          refine AWl.put ((by exact R_load_pp rfl (.no rfl) rfl (.tmp rfl fun _ => rfl) rfl ty33 rfl rfl)) rfl ?_
          refine AWl.put ((by exact R_load_pp rfl (.no rfl) rfl (.tmp rfl fun _ => rfl) rfl ty154 rfl rfl)) rfl ?_
          refine AWl.absadd (R_list (xs := [.tmp 73]) 74 rfl rfl rfl (.cons (.tmp rfl fun _ => rfl) rfl rfl .nil) Try.underlying33 in154 rfl rfl rfl rfl) rfl ?_
          refine AWl.abschgput (R_append_own rfl rfl rfl (.tmp rfl fun _ => rfl) rfl (.tmp rfl fun _ => rfl) rfl rfl Try.underlying33 in154 rfl (by (simp [chunk]; omega)) (by (unfold maxLen; simp [chunk]; omega))) rfl ?_
          refine AWl.le (σ' := ⟨_, [(2, _), (4, _), (5, _), (7, _), (8, _), (10, _), (18, _), (19, _), (20, _), (65, _), (75, _)], [(2, _), (4, _), (15, _), (20003, _), (17, _), (10, _)]⟩) (Le.sub0 rfl ⟨rfl, rfl, rfl, rfl, rfl, rfl, rfl, rfl, rfl, rfl, rfl, trivial⟩ ⟨rfl, rfl, rfl, rfl, rfl, rfl, trivial⟩) ?_
          refine AWl.put ((by exact R_fieldAddr_pp rfl (.no rfl) rfl (.tmp rfl fun _ => rfl) fl35_1)) rfl ?_
          refine AWl.chgb (R_store_pb rfl rfl rfl (.tmp rfl fun _ => rfl) (.tmp rfl fun _ => rfl) rfl ty33 rfl rfl rfl (by kernel_rfl) rfl) ?_
          refine AWl.nil ?_
          refine AW.seq ?_
          refine AW.region ?_
          refine AWl.put ((by exact R_fieldAddr_pp rfl (.no rfl) rfl (.tmp rfl fun _ => rfl) fl35_0)) rfl ?_
          refine AWl.put ((by exact R_load_pp rfl (.no rfl) rfl (.tmp rfl fun _ => rfl) rfl ty22 rfl rfl)) rfl ?_
          refine AWl.absadd (R_list (xs := [.const (.int .i64 (0))]) 79 rfl rfl rfl (.cons (.const rfl) rfl rfl .nil) Try.underlying22 in3 rfl rfl rfl rfl) rfl ?_
          refine AWl.abschgput (R_append_own rfl rfl rfl (.tmp rfl fun _ => rfl) rfl (.tmp rfl fun _ => rfl) rfl rfl Try.underlying22 in3 rfl (by (simp [chunk]; omega)) (by (unfold maxLen; simp [chunk]; omega))) rfl ?_
          refine AWl.le (σ' := ⟨_, [(2, _), (4, _), (5, _), (7, _), (8, _), (10, _), (18, _), (19, _), (20, _), (65, _), (80, _)], [(2, _), (4, _), (15, _), (20003, _), (17, _), (10, _)]⟩) (Le.sub0 rfl ⟨rfl, rfl, rfl, rfl, rfl, rfl, rfl, rfl, rfl, rfl, rfl, trivial⟩ ⟨rfl, rfl, rfl, rfl, rfl, rfl, trivial⟩) ?_
          refine AWl.put ((by exact R_fieldAddr_pp rfl (.no rfl) rfl (.tmp rfl fun _ => rfl) fl35_0)) rfl ?_
          refine AWl.chgb (R_store_pb rfl rfl rfl (.tmp rfl fun _ => rfl) (.tmp rfl fun _ => rfl) rfl ty22 rfl rfl rfl (by kernel_rfl) rfl) ?_
          refine AWl.nil ?_
          refine AW.region ?_
          refine AWl.put (R_move rfl (.no rfl) rfl (.tmp rfl fun _ => rfl)) rfl ?_
          refine AWl.absadd (R_list (xs := [.const (.bool false)]) 83 rfl rfl rfl (.cons (.const rfl) rfl rfl .nil) Try.underlying26 in4 rfl rfl rfl rfl) rfl ?_
          refine AWl.abschgput (R_append_own rfl rfl rfl (.tmp rfl fun _ => rfl) rfl (.tmp rfl fun _ => rfl) rfl rfl Try.underlying26 in4 rfl (by (simp [chunk]; omega)) (by (unfold maxLen; simp [chunk]; omega))) rfl ?_
          refine AWl.le (σ' := ⟨_, [(2, _), (4, _), (5, _), (7, _), (8, _), (10, _), (18, _), (19, _), (20, _), (65, _), (84, _)], [(2, _), (4, _), (15, _), (20003, _), (17, _), (10, _)]⟩) (Le.sub0 rfl ⟨rfl, rfl, rfl, rfl, rfl, rfl, rfl, rfl, rfl, rfl, rfl, trivial⟩ ⟨rfl, rfl, rfl, rfl, rfl, rfl, trivial⟩) ?_
          refine AWl.put (R_assign rfl (.no rfl) rfl (.tmp rfl fun _ => rfl)) rfl ?_
          refine AWl.nil ?_
          refine AW.region ?_
          refine AWl.put (R_add rfl (.no rfl) rfl (.tmp rfl fun _ => rfl) (.const rfl) (fun _ => by omega)) rfl ?_
          refine AWl.put (R_move rfl (.no rfl) rfl (.tmp rfl fun _ => rfl)) rfl ?_
          refine AWl.nil ?_
          repeat (with_reducible refine BlockQ.nor ?_)
          refine Round4.next (k + 1) (vs ++ [0]) (es ++ [lineEdge ((vs.length : Int) - 1) x]) (ts ++ [false]) ⟨by simp; omega, lineI_move he hx h30 (by omega)⟩ (by omega) (Le.sub0 rfl ⟨rfl, rfl, rfl, rfl, rfl, rfl, trivial⟩ ⟨(by rfl), (by rfl), (by (refine congrArg (fun r => some (R.row _ r)) ?_; simp [chunk, List.map_set, cInt, cBool, cIntS, cPair, cToken, cExpr, cEdge, cGraph, cStep, cWalk, cChange, cBatch, cHistory, cPositions, cAutomaton, cProductStep, cPathAtom, cConjunction, cView, cDelta, cRegistered, cRegistry])), congrArg (fun r => some (R.row 4 r)) (by simp [chunk, lineEdge, h65, cEdge]), (by (refine congrArg (fun r => some (R.row _ r)) ?_; simp [chunk, List.map_set, cInt, cBool, cIntS, cPair, cToken, cExpr, cEdge, cGraph, cStep, cWalk, cChange, cBatch, cHistory, cPositions, cAutomaton, cProductStep, cPathAtom, cConjunction, cView, cDelta, cRegistered, cRegistry])), trivial⟩)
    · skip
      try simp at hlt
      refine AW.exit ?_
      refine AW.seq ?_
      refine AW.seq ?_
      refine AW.region ?_
      refine AWl.put ((by exact R_fieldAddr_pp rfl (.no rfl) rfl (.tmp rfl fun _ => rfl) fl35_0)) rfl ?_
      refine AWl.put ((by exact R_load_pp rfl (.no rfl) rfl (.tmp rfl fun _ => rfl) rfl ty22 rfl rfl)) rfl ?_
      refine AWl.put ((by exact R_lenm rfl (.no rfl) rfl (.tmp rfl fun _ => rfl) (by exact .rf rfl) Try.underlying22)) rfl ?_
      refine AWl.put (R_gt rfl (.no rfl) rfl (.tmp rfl fun _ => rfl) (.const rfl)) rfl ?_
      refine AWl.nil ?_
      refine AW.cond (.tmp rfl fun _ => rfl) (fun h89 => ?_) (fun h89 => ?_)
      · skip
        try simp at h89
        refine AW.seq ?_
        refine AW.region ?_
        refine AWl.put (R_build (ps := []) rfl rfl rfl in35 rfl rfl st35 .nil rfl) rfl ?_
        refine AWl.nilA (i := 90) 20006 1 0 rfl rfl rfl ?_
        refine AWl.nilA (i := 90) 20007 4 1 rfl rfl rfl ?_
        refine AWl.chgb (R_store_pb rfl rfl rfl (.tmp rfl fun _ => rfl) (.tmp rfl fun _ => rfl) rfl ty35 rfl rfl rfl (by kernel_rfl) rfl) ?_
        refine AWl.le (σ' := ⟨_, [(2, _), (4, _), (5, _), (18, _), (19, _), (20, _), (21, _), (89, _)], [(2, _), (4, _), (15, _), (20003, _), (17, _), (20006, _), (20007, _)]⟩) (Le.sub0 rfl ⟨rfl, rfl, rfl, rfl, rfl, rfl, rfl, rfl, trivial⟩ ⟨rfl, rfl, rfl, rfl, rfl, rfl, rfl, trivial⟩) ?_
        refine AWl.put (R_assign rfl (.no rfl) rfl (.const rfl)) rfl ?_
        refine AWl.nil ?_
        refine AW.ret ?_
        refine Res.many rfl (.cell rfl rfl ty35 rfl rfl (.tmp rfl .nil)) rfl ?_ (by simp)
        rw [lineGraph_none (by rw [lineI_end he (by omega), if_neg (by omega)])]; rfl
      · skip
        try simp at h89
        refine AW.skip ?_
        refine AW.seq ?_
        refine AW.region ?_
        refine AWl.put ((by exact R_load_pp rfl (.no rfl) rfl (.tmp rfl fun _ => rfl) rfl ty35 rfl rfl)) rfl ?_
        refine AWl.chgb (R_store_pb rfl rfl rfl (.tmp rfl fun _ => rfl) (.tmp rfl fun _ => rfl) rfl ty35 rfl rfl rfl (by kernel_rfl) rfl) ?_
        refine AWl.le (σ' := ⟨_, [(2, _), (4, _), (5, _), (18, _), (19, _), (20, _), (21, _), (89, _)], [(2, _), (4, _), (15, _), (20003, _), (17, _)]⟩) (Le.sub0 rfl ⟨rfl, rfl, rfl, rfl, rfl, rfl, rfl, rfl, trivial⟩ ⟨rfl, rfl, rfl, rfl, rfl, trivial⟩) ?_
        refine AWl.put (R_assign rfl (.no rfl) rfl (.const rfl)) rfl ?_
        refine AWl.nil ?_
        refine AW.ret ?_
        refine Res.many rfl (.cell rfl rfl ty35 rfl rfl (.tmp rfl .nil)) rfl ?_ (by simp)
        rw [lineGraph_some (g := ⟨vs, es⟩) h13 (by rw [lineI_end he (by omega), if_pos (by omega)])]; rfl
end Go.Proofs.Ytbfejakbaijmhaa
