/- Merged texts. -/
import Derived.Test.YtbfejakbaijmhaaGreatB17xe
import Derived.Test.YtbfejakbaijmhaaGreatAbsNxe
import Derived.Laws.Cover3
import Derived.Shelf.Bits.Mul64
import Derived.Shelf.Abstract
import Derived.Ground.NamesProg
import Derived.Test.YtbfejakbaijmhaaGreatB14xe
set_option linter.unusedVariables false
set_option linter.unusedSimpArgs false
set_option maxHeartbeats 1000000
set_option maxRecDepth 100000
namespace Go.Q
open Go.D
end Go.Q
namespace Go.Proofs.YtbfejakbaijmhaaGreat
open Go.RowKit Go.Q Go.D
end Go.Proofs.YtbfejakbaijmhaaGreat
set_option linter.unusedVariables false
set_option linter.unusedSimpArgs false
set_option maxHeartbeats 1000000
set_option maxRecDepth 100000
namespace Go.Q
open Go.D
/-! ### Breadth first -/
def negs (out : List Int) : Nat := (out.filter fun x => decide (x < 0)).length
theorem negs_cons (x : Int) (l : List Int) : negs (x :: l) = (if x < 0 then 1 else 0) + negs l := by
  unfold negs
  rw [List.filter_cons]
  split <;> simp_all <;> omega
theorem negs_set {v : Int} (hv : 0 ≤ v) : ∀ {out : List Int} {k : Nat} {x : Int}, out[k]? = some x → x < 0 → negs (out.set k v) + 1 = negs out
  | [], _, _, h, _ => by simp at h
  | y :: l, 0, x, h, hx => by
    simp at h
    subst h
    rw [List.set_cons_zero, negs_cons, negs_cons, if_neg (by omega), if_pos hx]
    omega
  | y :: l, k + 1, x, h, hx => by
    rw [List.set_cons_succ, negs_cons, negs_cons]
    have := negs_set hv (out := l) (k := k) (by simpa using h) hx
    omega
theorem negs_le (out : List Int) : negs out ≤ out.length := List.length_filter_le _ _
def atI (out : List Int) (k : Int) : Int := out[k.toNat]?.getD 0
theorem atI_get {out : List Int} {k : Int} (h : k.toNat < out.length) : out[k.toNat]? = some (atI out k) := by
  unfold atI; rw [List.getElem?_eq_getElem h]; rfl
def rlx (q : Int) (st : List Int × List Int) (k : Int) : List Int × List Int := if atI st.1 k < 0 then (st.1.set k.toNat (atI st.1 q + 1), st.2 ++ [k]) else st
def relax (q : Int) (l : List Int) (st : List Int × List Int) : List Int × List Int := l.foldl (rlx q) st
def bfs (nx : Nat → List Int) : Nat → List Int → List Int → List Int
  | 0, out, _ => out
  | _ + 1, out, [] => out
  | f + 1, out, q :: r => bfs nx f (relax q (nx q.toNat) (out, r)).1 (relax q (nx q.toNat) (out, r)).2
/-- What holds all the way: the lengths, what is queued, how great a number may be. -/
structure BfsI (N : Nat) (out qu : List Int) : Prop where
  len : out.length = N
  mem : ∀ q ∈ qu, 0 ≤ q ∧ q < N
  val : ∀ v ∈ out, -1 ≤ v ∧ v + negs out ≤ N
theorem BfsI.rlx {N : Nat} {out qu : List Int} {q k : Int} (h : BfsI N out qu) (hq : 0 ≤ q ∧ q < N) (hk : 0 ≤ k ∧ k < N) : BfsI N (rlx q (out, qu) k).1 (rlx q (out, qu) k).2 ∧ negs (Go.Q.rlx q (out, qu) k).1 + (Go.Q.rlx q (out, qu) k).2.length = negs out + qu.length ∧ negs (Go.Q.rlx q (out, qu) k).1 ≤ negs out := by
  unfold Go.Q.rlx
  dsimp only
  split
  · rename_i hneg
    have hkl : k.toNat < out.length := by rw [h.len]; omega
    have hql : q.toNat < out.length := by rw [h.len]; omega
    have hvq := h.val _ (List.mem_of_getElem? (atI_get hql))
    have hn := negs_set (v := atI out q + 1) (by omega) (atI_get hkl) hneg
    refine ⟨⟨by simpa using h.len, fun x hx => ?_, fun v hv => ?_⟩, ?_, ?_⟩
    · rcases List.mem_append.1 hx with hx | hx
      · exact h.mem x hx
      · rw [List.mem_singleton] at hx; subst hx; exact hk
    · show -1 ≤ v ∧ v + (negs (out.set k.toNat (atI out q + 1)) : Int) ≤ N
      rcases List.mem_or_eq_of_mem_set hv with hv | rfl
      · have := h.val v hv; omega
      · omega
    · show negs (out.set k.toNat (atI out q + 1)) + (qu ++ [k]).length = _
      simp; omega
    · show negs (out.set k.toNat (atI out q + 1)) ≤ _
      omega
  · exact ⟨h, rfl, Nat.le_refl _⟩
theorem BfsI.relax {N : Nat} {q : Int} (hq : 0 ≤ q ∧ q < N) : ∀ {l : List Int} {st : List Int × List Int}, BfsI N st.1 st.2 → (∀ k ∈ l, 0 ≤ k ∧ k < N) → BfsI N (relax q l st).1 (relax q l st).2 ∧ negs (Go.Q.relax q l st).1 + (Go.Q.relax q l st).2.length = negs st.1 + st.2.length ∧ negs (Go.Q.relax q l st).1 ≤ negs st.1
  | [], st, h, _ => ⟨h, rfl, Nat.le_refl _⟩
  | k :: l, st, h, hl => by
    have e : Go.Q.relax q (k :: l) st = Go.Q.relax q l (Go.Q.rlx q st k) := rfl
    have h1 : BfsI N (Go.Q.rlx q st k).1 (Go.Q.rlx q st k).2 ∧ negs (Go.Q.rlx q st k).1 + (Go.Q.rlx q st k).2.length = negs st.1 + st.2.length ∧ negs (Go.Q.rlx q st k).1 ≤ negs st.1 := h.rlx (k := k) hq (hl k (by simp))
    obtain ⟨h1, h2, h3⟩ := h1
    obtain ⟨g1, g2, g3⟩ := BfsI.relax hq (l := l) h1 fun k hk => hl k (by simp [hk])
    rw [e]
    exact ⟨g1, by omega, by omega⟩
theorem BfsI.tail {N : Nat} {out qu : List Int} {q : Int} (h : BfsI N out (q :: qu)) : BfsI N out qu := ⟨h.len, fun x hx => h.mem x (by simp [hx]), h.val⟩
def zeroAll (from_ : List Int) (out : List Int) : List Int := from_.foldl (fun out i => out.set i.toNat 0) out
def spreadOf (nx : Nat → List Int) (N : Nat) (from_ : List Int) : List Int := bfs nx (2 * N + from_.length + 1) (zeroAll from_ (List.replicate N (-1))) from_
theorem zeroAll_len : ∀ (l out : List Int), (zeroAll l out).length = out.length
  | [], _ => rfl
  | k :: l, out => (zeroAll_len l _).trans (by simp)
theorem bfs_nil {nx : Nat → List Int} {f : Nat} {out : List Int} (h : 0 < f) : bfs nx f out [] = out := by
  match f, h with
  | f + 1, _ => rfl
theorem rlx_pre (q : Int) (out pre r : List Int) (k : Int) : rlx q (out, pre ++ r) k = ((rlx q (out, r) k).1, pre ++ (rlx q (out, r) k).2) := by
  unfold rlx; dsimp only
  split <;> simp
theorem relax_pre (q : Int) : ∀ (l out pre r : List Int), relax q l (out, pre ++ r) = ((relax q l (out, r)).1, pre ++ (relax q l (out, r)).2)
  | [], _, _, _ => rfl
  | k :: l, out, pre, r => by
    have e : ∀ st, relax q (k :: l) st = relax q l (rlx q st k) := fun _ => rfl
    rw [e, e, rlx_pre, relax_pre q l]
/-- One queue, read from place i on. -/
def BfsAt (nx : Nat → List Int) (res out qu : List Int) (i : Nat) : Prop := ∃ f, negs out + (qu.length - i) < f ∧ bfs nx f out (qu.drop i) = res
theorem BfsAt.next {nx : Nat → List Int} {N : Nat} {res out qu : List Int} {i : Nat} {q : Int} (h : BfsAt nx res out qu i) (hI : BfsI N out qu) (hq : qu[i]? = some q) (hn : ∀ k ∈ nx q.toNat, 0 ≤ k ∧ k < N) : BfsAt nx res (relax q (nx q.toNat) (out, qu)).1 (relax q (nx q.toNat) (out, qu)).2 (i + 1) := by
  obtain ⟨f, hf, e⟩ := h
  have hil := (List.getElem?_eq_some_iff.1 hq).1
  have hd : qu.drop i = q :: qu.drop (i + 1) := by
    rw [List.drop_eq_getElem_cons hil, (List.getElem?_eq_some_iff.1 hq).2]
  obtain ⟨f', rfl⟩ : ∃ f', f = f' + 1 := ⟨f - 1, by omega⟩
  rw [hd, bfs] at e
  have hr := BfsI.relax (N := N) (hI.mem q (List.mem_of_getElem? hq)) (l := nx q.toNat) (st := (out, qu)) hI hn
  have e2 : qu = qu.take (i + 1) ++ qu.drop (i + 1) := (List.take_append_drop _ _).symm
  have e3 := relax_pre q (nx q.toNat) out (qu.take (i + 1)) (qu.drop (i + 1))
  rw [← e2] at e3
  refine ⟨f', ?_, ?_⟩
  · have h1 := hr.2.1
    have h2 : i + 1 ≤ (relax q (nx q.toNat) (out, qu)).2.length := by rw [e3]; simp; omega
    dsimp only at h1
    omega
  · rw [e3]
    dsimp only
    rw [List.drop_left' (by rw [List.length_take]; omega)]
    exact e
theorem BfsAt.done {nx : Nat → List Int} {res out qu : List Int} {i : Nat} (h : BfsAt nx res out qu i) (hi : qu.length ≤ i) : out = res := by
  obtain ⟨f, hf, e⟩ := h
  rw [List.drop_eq_nil_of_le hi, bfs_nil (by omega)] at e
  exact e
theorem BfsAt.start {nx : Nat → List Int} {N : Nat} {l : List Int} : BfsAt nx (spreadOf nx N l) (zeroAll l (List.replicate N (-1))) l 0 := by
  refine ⟨2 * N + l.length + 1, ?_, rfl⟩
  have := negs_le (zeroAll l (List.replicate N (-1)))
  rw [zeroAll_len] at this
  simp at this
  omega
end Go.Q
namespace Go.Proofs.YtbfejakbaijmhaaGreat
open Go.RowKit Go.Q Go.D
end Go.Proofs.YtbfejakbaijmhaaGreat
set_option linter.unusedVariables false
set_option linter.unusedSimpArgs false
namespace Go.Q
open Go.RowKit
section
variable {P : Program} {ops : Array Oper} {o : Oper} {σ : St} {q : Bool}
theorem Cs_td {b : Bool} {w : World} : ∀ {ts : List T} {cs : List Value} (n : Nat), Cs b w ts cs [] → Cs b w (ts.take n) (cs.take n) [] ∧ Cs b w (ts.drop n) (cs.drop n) []
  | ts, cs, 0, h => by simpa [Cs] using h
  | [], cs, n + 1, h => by
    simp only [Cs] at h
    obtain ⟨rfl, _⟩ := h
    simp [Cs]
  | t :: ts, cs, n + 1, h => by
    simp only [Cs] at h
    obtain ⟨c, cr, G1, G2, rfl, h2, h3, h4⟩ := h
    obtain ⟨rfl, rfl⟩ := List.append_eq_nil_iff.1 h4.symm
    obtain ⟨g1, g2⟩ := Cs_td n h3
    rw [List.take_succ_cons, List.take_succ_cons, List.drop_succ_cons, List.drop_succ_cons]
    refine ⟨?_, g2⟩
    simp only [Cs]
    exact ⟨c, _, [], [], rfl, h2, g1, rfl⟩
theorem flatten_take_k {α : Type} {k : Nat} : ∀ {rows : List (List α)} (m : Nat), (∀ r ∈ rows, r.length = k) → (rows.take m).flatten = rows.flatten.take (m * k) ∧ (rows.drop m).flatten = rows.flatten.drop (m * k)
  | rows, 0, _ => by simp
  | [], m + 1, _ => by simp
  | r :: rows, m + 1, h => by
    have hr := h r (by simp)
    obtain ⟨g1, g2⟩ := flatten_take_k m fun r' hr' => h r' (List.mem_cons_of_mem r hr')
    rw [List.take_succ_cons, List.drop_succ_cons, List.flatten_cons, List.flatten_cons, g1, g2, Nat.succ_mul]
    constructor
    · rw [List.take_append, hr, List.take_of_length_le (l := r) (by omega)]; congr 2; omega
    · rw [List.drop_append, hr, @List.drop_eq_nil_of_le _ r _ (by omega), List.nil_append]; congr 1; omega
end
end Go.Q
set_option linter.unusedVariables false
set_option linter.unusedSimpArgs false
set_option maxHeartbeats 1000000
set_option maxRecDepth 100000
namespace Go.Q
open Go.D
end Go.Q
namespace Go.Proofs.YtbfejakbaijmhaaGreat
open Go.RowKit Go.Q Go.D
theorem implcopyInts (l : List Int) (hz : l.length ≤ 1073741824) : FnT Tryz.prog 67 [.one (.sl 1 (l.map cInt))] (.a (.one (.sl 1 (l.map cInt)))) := by
  refine FnT.walk Tryz.func67 rfl (by kernel_rfl) Tryz.ntmps67 rfl fun hlen w0 => ?_
  try simp [cPair, cToken, cExpr, cEdge, cGraph, cStep, cWalk, cChange, cBatch, cHistory, cPositions, cAutomaton, cProductStep, cPathAtom, cConjunction, cView, cDelta, cRegistered, cRegistry] at hlen
  refine AW.seq ?_
  refine AW.region ?_
  refine AWl.put (R_assign rfl (.no rfl) rfl (.const rfl)) rfl ?_
  refine AWl.nilS (i := 2) 20001 1 rfl rfl ?_
  refine AWl.nil ?_
  refine AW.seq ?_
  refine AW.region ?_
  refine AWl.add (R_empty 3 rfl rfl rfl Tryz.underlying22 ty3 rfl) rfl ?_
  refine AWl.put (R_move rfl (.no rfl) rfl (.tmp rfl fun _ => rfl)) rfl ?_
  refine AWl.chgput (R_append rfl rfl rfl (.tmp rfl fun _ => rfl) rfl (.tmp rfl fun _ => rfl) (by exact .t) (by exact isV_map (fun _ => rfl) _) Tryz.underlying22 in3 rfl (by (simp [chunk]; omega)) (by (unfold maxLen; simp [chunk]; omega))) rfl ?_
  refine AWl.le (σ' := ⟨_, [(0, _), (2, _), (5, _)], [(20001, _), (3, _)]⟩) (Le.sub0 rfl ⟨rfl, rfl, rfl, trivial⟩ ⟨rfl, rfl, trivial⟩) ?_
  refine AWl.put (R_assign rfl (.no rfl) rfl (.tmp rfl fun _ => rfl)) rfl ?_
  refine AWl.nil ?_
  refine AW.ret ?_
  refine Res.one rfl (.tmp rfl .nil) rfl ?_
  rfl
end Go.Proofs.YtbfejakbaijmhaaGreat
set_option linter.unusedVariables false
set_option linter.unusedSimpArgs false
set_option maxHeartbeats 1000000
set_option maxRecDepth 100000
namespace Go.Q
open Go.D
end Go.Q
namespace Go.Proofs.YtbfejakbaijmhaaGreat
open Go.RowKit Go.Q Go.D
end Go.Proofs.YtbfejakbaijmhaaGreat
set_option linter.unusedVariables false
set_option linter.unusedSimpArgs false
set_option maxHeartbeats 1000000
set_option maxRecDepth 100000
namespace Go.Q
open Go.D
def sup1 (R : List Int) (i : Nat) (S : List Int) (k : Int) : List Int := if 0 ≤ atI R i ∧ atI R k = atI R i + 1 then S.set k.toNat (atI S k + 1) else S
def supRow (R : List Int) (i : Nat) (S : List Int) (l : List Int) : List Int := l.foldl (sup1 R i) S
def supAll (nx : Nat → List Int) (R : List Int) (S : List Int) : Nat → List Int
  | 0 => S
  | n + 1 => supRow R n (supAll nx R S n) (nx n)
structure SupI (N : Nat) (b : Int) (S : List Int) : Prop where
  len : S.length = N
  val : ∀ v ∈ S, 0 ≤ v ∧ v ≤ b
theorem SupI.le {N : Nat} {b b' : Int} {S : List Int} (h : SupI N b S) (hb : b ≤ b') : SupI N b' S := ⟨h.len, fun v hv => by have := h.val v hv; omega⟩
theorem SupI.at {N : Nat} {b : Int} {S : List Int} (h : SupI N b S) {k : Int} (hk : k.toNat < N) : 0 ≤ atI S k ∧ atI S k ≤ b := h.val _ (List.mem_of_getElem? (atI_get (by rw [h.len]; exact hk)))
theorem SupI.one {N : Nat} {b : Int} {R S : List Int} {i : Nat} {k : Int} (h : SupI N b S) (hk : 0 ≤ k ∧ k < N) : SupI N (b + 1) (sup1 R i S k) := by
  unfold sup1
  split
  · refine ⟨by simpa using h.len, fun v hv => ?_⟩
    rcases List.mem_or_eq_of_mem_set hv with hv | rfl
    · have := h.val v hv; omega
    · have := h.at (k := k) (by omega); omega
  · exact h.le (by omega)
theorem SupI.row {N : Nat} {R : List Int} {i : Nat} : ∀ {l : List Int} {b : Int} {S : List Int}, SupI N b S → (∀ k ∈ l, 0 ≤ k ∧ k < N) → SupI N (b + l.length) (supRow R i S l)
  | [], b, S, h, _ => by simpa [supRow] using h
  | k :: l, b, S, h, hl => by
    have e : supRow R i S (k :: l) = supRow R i (sup1 R i S k) l := rfl
    rw [e]
    exact (SupI.row (h.one (hl k (by simp))) fun k hk => hl k (by simp [hk])).le (by simp; omega)
theorem SupI.all {nx : Nat → List Int} {N c : Nat} {R : List Int} (hn : ∀ p, p < N → ∀ k ∈ nx p, 0 ≤ k ∧ k < N) (hc : ∀ p, p < N → (nx p).length ≤ c) : ∀ {n : Nat}, n ≤ N → SupI N ((n * c : Nat) : Int) (supAll nx R (List.replicate N 0) n)
  | 0, _ => ⟨by simp [supAll], fun v hv => by rw [(List.mem_replicate.1 hv).2]; simp⟩
  | n + 1, h => by
    rw [supAll, Nat.succ_mul]
    refine (SupI.row (SupI.all hn hc (n := n) (by omega)) (hn n (by omega))).le ?_
    have := hc n (by omega)
    omega
end Go.Q
namespace Go.Proofs.YtbfejakbaijmhaaGreat
open Go.RowKit Go.Q Go.D
end Go.Proofs.YtbfejakbaijmhaaGreat
set_option linter.unusedVariables false
set_option linter.unusedSimpArgs false
set_option maxHeartbeats 1000000
set_option maxRecDepth 100000
namespace Go.Q
open Go.D
end Go.Q
namespace Go.Proofs.YtbfejakbaijmhaaGreat
open Go.RowKit Go.Q Go.D
end Go.Proofs.YtbfejakbaijmhaaGreat
