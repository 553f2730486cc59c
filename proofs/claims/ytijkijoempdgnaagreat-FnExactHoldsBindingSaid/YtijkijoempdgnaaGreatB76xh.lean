/- Merged texts. -/
import Derived.Test.YtijkijoempdgnaaGreatB17xh
import Derived.Test.YtijkijoempdgnaaGreatB59xh
import Derived.Test.YtijkijoempdgnaaGreatB26xh
set_option linter.unusedVariables false
set_option linter.unusedSimpArgs false
set_option maxHeartbeats 1000000
set_option maxRecDepth 100000
namespace Go.Q
open Go.D
end Go.Q
namespace Go.Proofs.YtijkijoempdgnaaGreat
open Go.RowKit Go.Q Go.D
end Go.Proofs.YtijkijoempdgnaaGreat
set_option linter.unusedVariables false
set_option linter.unusedSimpArgs false
set_option maxHeartbeats 1000000
set_option maxRecDepth 100000
namespace Go.Q
open Go.D
/-! ### Breadth first -/
def negs (out : List Int) : Nat := (out.filter fun x => decide (x < 0)).length
theorem negs_cons (x : Int) (l : List Int) : negs (x :: l) = (if x < 0 then 1 else 0) + negs l := by
  unfold negs
  rw [List.filter_cons]
  split <;> simp_all <;> omega
theorem negs_set {v : Int} (hv : 0 ≤ v) : ∀ {out : List Int} {k : Nat} {x : Int}, out[k]? = some x → x < 0 → negs (out.set k v) + 1 = negs out
  | [], _, _, h, _ => by simp at h
  | y :: l, 0, x, h, hx => by
    simp at h
    subst h
    rw [List.set_cons_zero, negs_cons, negs_cons, if_neg (by omega), if_pos hx]
    omega
  | y :: l, k + 1, x, h, hx => by
    rw [List.set_cons_succ, negs_cons, negs_cons]
    have := negs_set hv (out := l) (k := k) (by simpa using h) hx
    omega
theorem negs_le (out : List Int) : negs out ≤ out.length := List.length_filter_le _ _
def atI (out : List Int) (k : Int) : Int := out[k.toNat]?.getD 0
theorem atI_get {out : List Int} {k : Int} (h : k.toNat < out.length) : out[k.toNat]? = some (atI out k) := by
  unfold atI; rw [List.getElem?_eq_getElem h]; rfl
def rlx (q : Int) (st : List Int × List Int) (k : Int) : List Int × List Int := if atI st.1 k < 0 then (st.1.set k.toNat (atI st.1 q + 1), st.2 ++ [k]) else st
def relax (q : Int) (l : List Int) (st : List Int × List Int) : List Int × List Int := l.foldl (rlx q) st
def bfs (nx : Nat → List Int) : Nat → List Int → List Int → List Int
  | 0, out, _ => out
  | _ + 1, out, [] => out
  | f + 1, out, q :: r => bfs nx f (relax q (nx q.toNat) (out, r)).1 (relax q (nx q.toNat) (out, r)).2
/-- What holds all the way: the lengths, what is queued, how great a number may be. -/
structure BfsI (N : Nat) (out qu : List Int) : Prop where
  len : out.length = N
  mem : ∀ q ∈ qu, 0 ≤ q ∧ q < N
  val : ∀ v ∈ out, -1 ≤ v ∧ v + negs out ≤ N
theorem BfsI.rlx {N : Nat} {out qu : List Int} {q k : Int} (h : BfsI N out qu) (hq : 0 ≤ q ∧ q < N) (hk : 0 ≤ k ∧ k < N) : BfsI N (rlx q (out, qu) k).1 (rlx q (out, qu) k).2 ∧ negs (Go.Q.rlx q (out, qu) k).1 + (Go.Q.rlx q (out, qu) k).2.length = negs out + qu.length ∧ negs (Go.Q.rlx q (out, qu) k).1 ≤ negs out := by
  unfold Go.Q.rlx
  dsimp only
  split
  · rename_i hneg
    have hkl : k.toNat < out.length := by rw [h.len]; omega
    have hql : q.toNat < out.length := by rw [h.len]; omega
    have hvq := h.val _ (List.mem_of_getElem? (atI_get hql))
    have hn := negs_set (v := atI out q + 1) (by omega) (atI_get hkl) hneg
    refine ⟨⟨by simpa using h.len, fun x hx => ?_, fun v hv => ?_⟩, ?_, ?_⟩
    · rcases List.mem_append.1 hx with hx | hx
      · exact h.mem x hx
      · rw [List.mem_singleton] at hx; subst hx; exact hk
    · show -1 ≤ v ∧ v + (negs (out.set k.toNat (atI out q + 1)) : Int) ≤ N
      rcases List.mem_or_eq_of_mem_set hv with hv | rfl
      · have := h.val v hv; omega
      · omega
    · show negs (out.set k.toNat (atI out q + 1)) + (qu ++ [k]).length = _
      simp; omega
    · show negs (out.set k.toNat (atI out q + 1)) ≤ _
      omega
  · exact ⟨h, rfl, Nat.le_refl _⟩
theorem BfsI.relax {N : Nat} {q : Int} (hq : 0 ≤ q ∧ q < N) : ∀ {l : List Int} {st : List Int × List Int}, BfsI N st.1 st.2 → (∀ k ∈ l, 0 ≤ k ∧ k < N) → BfsI N (relax q l st).1 (relax q l st).2 ∧ negs (Go.Q.relax q l st).1 + (Go.Q.relax q l st).2.length = negs st.1 + st.2.length ∧ negs (Go.Q.relax q l st).1 ≤ negs st.1
  | [], st, h, _ => ⟨h, rfl, Nat.le_refl _⟩
  | k :: l, st, h, hl => by
    have e : Go.Q.relax q (k :: l) st = Go.Q.relax q l (Go.Q.rlx q st k) := rfl
    have h1 : BfsI N (Go.Q.rlx q st k).1 (Go.Q.rlx q st k).2 ∧ negs (Go.Q.rlx q st k).1 + (Go.Q.rlx q st k).2.length = negs st.1 + st.2.length ∧ negs (Go.Q.rlx q st k).1 ≤ negs st.1 := h.rlx (k := k) hq (hl k (by simp))
    obtain ⟨h1, h2, h3⟩ := h1
    obtain ⟨g1, g2, g3⟩ := BfsI.relax hq (l := l) h1 fun k hk => hl k (by simp [hk])
    rw [e]
    exact ⟨g1, by omega, by omega⟩
theorem BfsI.tail {N : Nat} {out qu : List Int} {q : Int} (h : BfsI N out (q :: qu)) : BfsI N out qu := ⟨h.len, fun x hx => h.mem x (by simp [hx]), h.val⟩
def zeroAll (from_ : List Int) (out : List Int) : List Int := from_.foldl (fun out i => out.set i.toNat 0) out
def spreadOf (nx : Nat → List Int) (N : Nat) (from_ : List Int) : List Int := bfs nx (2 * N + from_.length + 1) (zeroAll from_ (List.replicate N (-1))) from_
theorem zeroAll_len : ∀ (l out : List Int), (zeroAll l out).length = out.length
  | [], _ => rfl
  | k :: l, out => (zeroAll_len l _).trans (by simp)
theorem bfs_nil {nx : Nat → List Int} {f : Nat} {out : List Int} (h : 0 < f) : bfs nx f out [] = out := by
  match f, h with
  | f + 1, _ => rfl
theorem rlx_pre (q : Int) (out pre r : List Int) (k : Int) : rlx q (out, pre ++ r) k = ((rlx q (out, r) k).1, pre ++ (rlx q (out, r) k).2) := by
  unfold rlx; dsimp only
  split <;> simp
theorem relax_pre (q : Int) : ∀ (l out pre r : List Int), relax q l (out, pre ++ r) = ((relax q l (out, r)).1, pre ++ (relax q l (out, r)).2)
  | [], _, _, _ => rfl
  | k :: l, out, pre, r => by
    have e : ∀ st, relax q (k :: l) st = relax q l (rlx q st k) := fun _ => rfl
    rw [e, e, rlx_pre, relax_pre q l]
/-- One queue, read from place i on. -/
def BfsAt (nx : Nat → List Int) (res out qu : List Int) (i : Nat) : Prop := ∃ f, negs out + (qu.length - i) < f ∧ bfs nx f out (qu.drop i) = res
theorem BfsAt.next {nx : Nat → List Int} {N : Nat} {res out qu : List Int} {i : Nat} {q : Int} (h : BfsAt nx res out qu i) (hI : BfsI N out qu) (hq : qu[i]? = some q) (hn : ∀ k ∈ nx q.toNat, 0 ≤ k ∧ k < N) : BfsAt nx res (relax q (nx q.toNat) (out, qu)).1 (relax q (nx q.toNat) (out, qu)).2 (i + 1) := by
  obtain ⟨f, hf, e⟩ := h
  have hil := (List.getElem?_eq_some_iff.1 hq).1
  have hd : qu.drop i = q :: qu.drop (i + 1) := by
    rw [List.drop_eq_getElem_cons hil, (List.getElem?_eq_some_iff.1 hq).2]
  obtain ⟨f', rfl⟩ : ∃ f', f = f' + 1 := ⟨f - 1, by omega⟩
  rw [hd, bfs] at e
  have hr := BfsI.relax (N := N) (hI.mem q (List.mem_of_getElem? hq)) (l := nx q.toNat) (st := (out, qu)) hI hn
  have e2 : qu = qu.take (i + 1) ++ qu.drop (i + 1) := (List.take_append_drop _ _).symm
  have e3 := relax_pre q (nx q.toNat) out (qu.take (i + 1)) (qu.drop (i + 1))
  rw [← e2] at e3
  refine ⟨f', ?_, ?_⟩
  · have h1 := hr.2.1
    have h2 : i + 1 ≤ (relax q (nx q.toNat) (out, qu)).2.length := by rw [e3]; simp; omega
    dsimp only at h1
    omega
  · rw [e3]
    dsimp only
    rw [List.drop_left' (by rw [List.length_take]; omega)]
    exact e
theorem BfsAt.done {nx : Nat → List Int} {res out qu : List Int} {i : Nat} (h : BfsAt nx res out qu i) (hi : qu.length ≤ i) : out = res := by
  obtain ⟨f, hf, e⟩ := h
  rw [List.drop_eq_nil_of_le hi, bfs_nil (by omega)] at e
  exact e
theorem BfsAt.start {nx : Nat → List Int} {N : Nat} {l : List Int} : BfsAt nx (spreadOf nx N l) (zeroAll l (List.replicate N (-1))) l 0 := by
  refine ⟨2 * N + l.length + 1, ?_, rfl⟩
  have := negs_le (zeroAll l (List.replicate N (-1)))
  rw [zeroAll_len] at this
  simp at this
  omega
end Go.Q
namespace Go.Proofs.YtijkijoempdgnaaGreat
open Go.RowKit Go.Q Go.D
end Go.Proofs.YtijkijoempdgnaaGreat
set_option linter.unusedVariables false
set_option linter.unusedSimpArgs false
set_option maxHeartbeats 1000000
set_option maxRecDepth 100000
namespace Go.Q
open Go.D
def bindP (b : List Int) (x : TPathAtom) : TPair := ⟨atI b x.From, atI b x.To⟩
def bindOk (g : TGraph) (b : List Int) (x : TPathAtom) : Bool := decide (bindP b x ∈ (evalE g x.Expr).1)
def relsV (g : TGraph) (q : TConjunction) : List (List TPair) := q.Atoms.map fun x => (evalE g x.Expr).1
def okBind (g : TGraph) (q : TConjunction) (b : List Int) : Bool := validG g && validConj q && decide ((b.length : Int) = q.VariableCount)
def holdsB (g : TGraph) (q : TConjunction) (b : List Int) : Bool := okBind g q b && q.Atoms.all (bindOk g b)
theorem okBind_parts {g : TGraph} {q : TConjunction} {b : List Int} (h : okBind g q b = true) : validG g = true ∧ validConj q = true ∧ (b.length : Int) = q.VariableCount := by
  unfold okBind at h
  simp only [Bool.and_eq_true, decide_eq_true_eq] at h
  exact ⟨h.1.1, h.1.2, h.2⟩
theorem conj_atoms {q : TConjunction} (h : validConj q = true) : q.Atoms.length ≤ 4 ∧ (1 ≤ q.VariableCount ∧ q.VariableCount ≤ 4) ∧ ∀ x ∈ q.Atoms, ((0 ≤ x.From ∧ x.From < q.VariableCount) ∧ 0 ≤ x.To ∧ x.To < q.VariableCount) ∧ isValidExpr x.Expr = true := by
  unfold validConj inB at h
  simp only [Bool.and_eq_true, decide_eq_true_eq] at h
  refine ⟨by omega, by omega, fun x hx => ?_⟩
  have h1 := List.all_eq_true.1 h.1.2 x hx
  refine ⟨atomOk_r h1, ?_⟩
  unfold atomOk at h1
  simp only [Bool.and_eq_true] at h1
  exact h1.2
end Go.Q
