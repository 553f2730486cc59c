import Derived.Test.YtoealglkenhphaaGreatB17xc
import Derived.Test.YtoealglkenhphaaGreatAbsQxc
import Derived.Test.YtoealglkenhphaaGreatB59xc
import Derived.Test.YtoealglkenhphaaGreatB26xc
set_option linter.unusedVariables false
set_option linter.unusedSimpArgs false
set_option maxHeartbeats 1000000
set_option maxRecDepth 100000
namespace Go.Q
open Go.D
end Go.Q
namespace Go.Proofs.YtoealglkenhphaaGreat
open Go.RowKit Go.Q Go.D
end Go.Proofs.YtoealglkenhphaaGreat
set_option maxHeartbeats 1000000
set_option maxRecDepth 100000
namespace Go.Q
open Go.D
def negs (out : List Int) : Nat := (out.filter fun x => decide (x < 0)).length
theorem negs_cons (x : Int) (l : List Int) : negs (x :: l) = (if x < 0 then 1 else 0) + negs l := by
 unfold negs
 rw [List.filter_cons]
 split <;> simp_all <;> omega
theorem negs_set {v : Int} (hv : 0 ≤ v) : ∀ {out : List Int} {k : Nat} {x : Int}, out[k]? = some x → x < 0 → negs (out.set k v) + 1 = negs out
 | [], _, _, h, _ => by simp at h
 | y :: l, 0, x, h, hx => by
  simp at h
  subst h
  rw [List.set_cons_zero, negs_cons, negs_cons, if_neg (by omega), if_pos hx]
  omega
 | y :: l, k + 1, x, h, hx => by
  rw [List.set_cons_succ, negs_cons, negs_cons]
  have := negs_set hv (out := l) (k := k) (by simpa using h) hx
  omega
theorem negs_le (out : List Int) : negs out ≤ out.length := List.length_filter_le _ _
def atI (out : List Int) (k : Int) : Int := out[k.toNat]?.getD 0
theorem atI_get {out : List Int} {k : Int} (h : k.toNat < out.length) : out[k.toNat]? = some (atI out k) := by
 unfold atI; rw [List.getElem?_eq_getElem h]; rfl
def rlx (q : Int) (st : List Int × List Int) (k : Int) : List Int × List Int := if atI st.1 k < 0 then (st.1.set k.toNat (atI st.1 q + 1), st.2 ++ [k]) else st
def relax (q : Int) (l : List Int) (st : List Int × List Int) : List Int × List Int := l.foldl (rlx q) st
def bfs (nx : Nat → List Int) : Nat → List Int → List Int → List Int
 | 0, out, _ => out
 | _ + 1, out, [] => out
 | f + 1, out, q :: r => bfs nx f (relax q (nx q.toNat) (out, r)).1 (relax q (nx q.toNat) (out, r)).2
structure BfsI (N : Nat) (out qu : List Int) : Prop where
 len : out.length = N
 mem : ∀ q ∈ qu, 0 ≤ q ∧ q < N
 val : ∀ v ∈ out, -1 ≤ v ∧ v + negs out ≤ N
theorem BfsI.rlx {N : Nat} {out qu : List Int} {q k : Int} (h : BfsI N out qu) (hq : 0 ≤ q ∧ q < N) (hk : 0 ≤ k ∧ k < N) : BfsI N (rlx q (out, qu) k).1 (rlx q (out, qu) k).2 ∧ negs (Go.Q.rlx q (out, qu) k).1 + (Go.Q.rlx q (out, qu) k).2.length = negs out + qu.length ∧ negs (Go.Q.rlx q (out, qu) k).1 ≤ negs out := by
 unfold Go.Q.rlx
 dsimp only
 split
 · rename_i hneg
   have hkl : k.toNat < out.length := by rw [h.len]; omega
   have hql : q.toNat < out.length := by rw [h.len]; omega
   have hvq := h.val _ (List.mem_of_getElem? (atI_get hql))
   have hn := negs_set (v := atI out q + 1) (by omega) (atI_get hkl) hneg
   refine ⟨⟨by simpa using h.len, fun x hx => ?_, fun v hv => ?_⟩, ?_, ?_⟩
   · rcases List.mem_append.1 hx with hx | hx
     · exact h.mem x hx
     · rw [List.mem_singleton] at hx; subst hx; exact hk
   · show -1 ≤ v ∧ v + (negs (out.set k.toNat (atI out q + 1)) : Int) ≤ N
     rcases List.mem_or_eq_of_mem_set hv with hv | rfl
     · have := h.val v hv; omega
     · omega
   · show negs (out.set k.toNat (atI out q + 1)) + (qu ++ [k]).length = _
     simp; omega
   · show negs (out.set k.toNat (atI out q + 1)) ≤ _
     omega
 · exact ⟨h, rfl, Nat.le_refl _⟩
theorem BfsI.relax {N : Nat} {q : Int} (hq : 0 ≤ q ∧ q < N) : ∀ {l : List Int} {st : List Int × List Int}, BfsI N st.1 st.2 → (∀ k ∈ l, 0 ≤ k ∧ k < N) → BfsI N (relax q l st).1 (relax q l st).2 ∧ negs (Go.Q.relax q l st).1 + (Go.Q.relax q l st).2.length = negs st.1 + st.2.length ∧ negs (Go.Q.relax q l st).1 ≤ negs st.1
 | [], st, h, _ => ⟨h, rfl, Nat.le_refl _⟩
 | k :: l, st, h, hl => by
  have e : Go.Q.relax q (k :: l) st = Go.Q.relax q l (Go.Q.rlx q st k) := rfl
  have h1 : BfsI N (Go.Q.rlx q st k).1 (Go.Q.rlx q st k).2 ∧ negs (Go.Q.rlx q st k).1 + (Go.Q.rlx q st k).2.length = negs st.1 + st.2.length ∧ negs (Go.Q.rlx q st k).1 ≤ negs st.1 := h.rlx (k := k) hq (hl k (by simp))
  obtain ⟨h1, h2, h3⟩ := h1
  obtain ⟨g1, g2, g3⟩ := BfsI.relax hq (l := l) h1 fun k hk => hl k (by simp [hk])
  rw [e]
  exact ⟨g1, by omega, by omega⟩
theorem BfsI.tail {N : Nat} {out qu : List Int} {q : Int} (h : BfsI N out (q :: qu)) : BfsI N out qu := ⟨h.len, fun x hx => h.mem x (by simp [hx]), h.val⟩
def zeroAll (from_ : List Int) (out : List Int) : List Int := from_.foldl (fun out i => out.set i.toNat 0) out
def spreadOf (nx : Nat → List Int) (N : Nat) (from_ : List Int) : List Int := bfs nx (2 * N + from_.length + 1) (zeroAll from_ (List.replicate N (-1))) from_
theorem zeroAll_len : ∀ (l out : List Int), (zeroAll l out).length = out.length
 | [], _ => rfl
 | k :: l, out => (zeroAll_len l _).trans (by simp)
theorem bfs_nil {nx : Nat → List Int} {f : Nat} {out : List Int} (h : 0 < f) : bfs nx f out [] = out := by
 match f, h with
 | f + 1, _ => rfl
theorem rlx_pre (q : Int) (out pre r : List Int) (k : Int) : rlx q (out, pre ++ r) k = ((rlx q (out, r) k).1, pre ++ (rlx q (out, r) k).2) := by
 unfold rlx; dsimp only
 split <;> simp
theorem relax_pre (q : Int) : ∀ (l out pre r : List Int), relax q l (out, pre ++ r) = ((relax q l (out, r)).1, pre ++ (relax q l (out, r)).2)
 | [], _, _, _ => rfl
 | k :: l, out, pre, r => by
  have e : ∀ st, relax q (k :: l) st = relax q l (rlx q st k) := fun _ => rfl
  rw [e, e, rlx_pre, relax_pre q l]
def BfsAt (nx : Nat → List Int) (res out qu : List Int) (i : Nat) : Prop := ∃ f, negs out + (qu.length - i) < f ∧ bfs nx f out (qu.drop i) = res
theorem BfsAt.next {nx : Nat → List Int} {N : Nat} {res out qu : List Int} {i : Nat} {q : Int} (h : BfsAt nx res out qu i) (hI : BfsI N out qu) (hq : qu[i]? = some q) (hn : ∀ k ∈ nx q.toNat, 0 ≤ k ∧ k < N) : BfsAt nx res (relax q (nx q.toNat) (out, qu)).1 (relax q (nx q.toNat) (out, qu)).2 (i + 1) := by
 obtain ⟨f, hf, e⟩ := h
 have hil := (List.getElem?_eq_some_iff.1 hq).1
 have hd : qu.drop i = q :: qu.drop (i + 1) := by
  rw [List.drop_eq_getElem_cons hil, (List.getElem?_eq_some_iff.1 hq).2]
 obtain ⟨f', rfl⟩ : ∃ f', f = f' + 1 := ⟨f - 1, by omega⟩
 rw [hd, bfs] at e
 have hr := BfsI.relax (N := N) (hI.mem q (List.mem_of_getElem? hq)) (l := nx q.toNat) (st := (out, qu)) hI hn
 have e2 : qu = qu.take (i + 1) ++ qu.drop (i + 1) := (List.take_append_drop _ _).symm
 have e3 := relax_pre q (nx q.toNat) out (qu.take (i + 1)) (qu.drop (i + 1))
 rw [← e2] at e3
 refine ⟨f', ?_, ?_⟩
 · have h1 := hr.2.1
   have h2 : i + 1 ≤ (relax q (nx q.toNat) (out, qu)).2.length := by rw [e3]; simp; omega
   dsimp only at h1
   omega
 · rw [e3]
   dsimp only
   rw [List.drop_left' (by rw [List.length_take]; omega)]
   exact e
theorem BfsAt.done {nx : Nat → List Int} {res out qu : List Int} {i : Nat} (h : BfsAt nx res out qu i) (hi : qu.length ≤ i) : out = res := by
 obtain ⟨f, hf, e⟩ := h
 rw [List.drop_eq_nil_of_le hi, bfs_nil (by omega)] at e
 exact e
theorem BfsAt.start {nx : Nat → List Int} {N : Nat} {l : List Int} : BfsAt nx (spreadOf nx N l) (zeroAll l (List.replicate N (-1))) l 0 := by
 refine ⟨2 * N + l.length + 1, ?_, rfl⟩
 have := negs_le (zeroAll l (List.replicate N (-1)))
 rw [zeroAll_len] at this
 simp at this
 omega
end Go.Q
namespace Go.Proofs.YtoealglkenhphaaGreat
open Go.RowKit Go.Q Go.D
end Go.Proofs.YtoealglkenhphaaGreat
set_option maxHeartbeats 1000000
set_option maxRecDepth 100000
namespace Go.Q
open Go.D
end Go.Q
namespace Go.Proofs.YtoealglkenhphaaGreat
open Go.RowKit Go.Q Go.D
theorem implcopyInts (l : List Int) (hz : l.length ≤ 1073741824) : FnT Tryz.prog 87 [.one (.sl 1 (l.map cInt))] (.a (.one (.sl 1 (l.map cInt)))) := by
 refine FnT.walk Tryz.func87 rfl (by kernel_rfl) Tryz.ntmps87 rfl fun hlen w0 => ?_
 try simp [cPair, cToken, cExpr, cEdge, cGraph, cStep, cWalk, cChange, cBatch, cHistory, cPositions, cAutomaton, cProductStep, cPathAtom, cConjunction, cView, cDelta, cRegistered, cRegistry] at hlen
 refine AW.seq ?_
 refine AW.region ?_
 refine AWl.put (R_assign rfl (.no rfl) rfl (.const rfl)) rfl ?_
 refine AWl.nilS (i := 2) 20001 1 rfl rfl ?_
 refine AWl.nil (AW.seq ?_)
 refine AW.region ?_
 refine AWl.add (R_empty 3 rfl rfl rfl Tryz.underlying22 ty3 rfl) rfl ?_
 refine AWl.put (R_move rfl (.no rfl) rfl (.tmp rfl fun _ => rfl)) rfl ?_
 refine AWl.chgput (R_append rfl rfl rfl (.tmp rfl fun _ => rfl) rfl (.tmp rfl fun _ => rfl) (by exact .t) (by exact isV_map (fun _ => rfl) _) Tryz.underlying22 in3 rfl (by (simp [chunk]; omega)) (by (unfold maxLen; simp [chunk]; omega))) rfl ?_
 refine AWl.le (σ' := ⟨_, [(0, _), (2, _), (5, _)], [(20001, _), (3, _)]⟩) (Le.sub0 rfl ⟨rfl, rfl, rfl, trivial⟩ ⟨rfl, rfl, trivial⟩) ?_
 refine AWl.put (R_assign rfl (.no rfl) rfl (.tmp rfl fun _ => rfl)) rfl ?_
 refine AWl.nil (AW.ret ?_)
 refine Res.one rfl (.tmp rfl .nil) rfl ?_
 rfl
end Go.Proofs.YtoealglkenhphaaGreat
set_option maxHeartbeats 1000000
set_option maxRecDepth 100000
namespace Go.Q
open Go.D
def bindP (b : List Int) (x : TPathAtom) : TPair := ⟨atI b x.From, atI b x.To⟩
def bindOk (g : TGraph) (b : List Int) (x : TPathAtom) : Bool := decide (bindP b x ∈ (evalE g x.Expr).1)
def relsV (g : TGraph) (q : TConjunction) : List (List TPair) := q.Atoms.map fun x => (evalE g x.Expr).1
theorem conj_atoms {q : TConjunction} (h : validConj q = true) : q.Atoms.length ≤ 4 ∧ (1 ≤ q.VariableCount ∧ q.VariableCount ≤ 4) ∧ ∀ x ∈ q.Atoms, ((0 ≤ x.From ∧ x.From < q.VariableCount) ∧ 0 ≤ x.To ∧ x.To < q.VariableCount) ∧ isValidExpr x.Expr = true := by
 unfold validConj inB at h
 simp only [Bool.and_eq_true, decide_eq_true_eq] at h
 refine ⟨by omega, by omega, fun x hx => ?_⟩
 have h1 := List.all_eq_true.1 h.1.2 x hx
 refine ⟨atomOk_r h1, ?_⟩
 unfold atomOk at h1
 simp only [Bool.and_eq_true] at h1
 exact h1.2
end Go.Q
set_option maxHeartbeats 1000000
set_option maxRecDepth 100000
namespace Go.Q
open Go.D
def extN (n : Nat) : Nat → List (List Int)
 | 0 => [[]]
 | d + 1 => (List.range n).flatMap fun v => (extN n d).map fun s => ((v : Nat) : Int) :: s
def wordsN (n : Nat) : Nat → List (List Int)
 | 0 => [[]]
 | d + 1 => (wordsN n d).flatMap fun b => (List.range n).map fun v => b ++ [((v : Nat) : Int)]
theorem extN_snoc (n : Nat) : ∀ d, extN n (d + 1) = (extN n d).flatMap fun b => (List.range n).map fun v => b ++ [((v : Nat) : Int)]
 | 0 => by simp [extN, List.map_eq_flatMap]
 | d + 1 => by
  have h : extN n (d + 2) = (List.range n).flatMap fun v => ((extN n d).flatMap fun b => (List.range n).map fun v => b ++ [((v : Nat) : Int)]).map fun s => ((v : Nat) : Int) :: s := by
   rw [← extN_snoc n d]; rfl
  show extN n (d + 2) = ((List.range n).flatMap fun v => (extN n d).map fun s => ((v : Nat) : Int) :: s).flatMap _
  rw [h, List.flatMap_assoc]
  congr 1; funext v
  rw [List.map_flatMap, List.flatMap_map]
  congr 1; funext b
  rw [List.map_map]; rfl
theorem wordsN_eq (n : Nat) : ∀ d, wordsN n d = extN n d
 | 0 => rfl
 | d + 1 => by rw [wordsN, wordsN_eq n d, extN_snoc]
theorem extN_len {n : Nat} : ∀ {d : Nat} {b : List Int}, b ∈ extN n d → b.length = d
 | 0, b, h => by simp [extN] at h; simp [h]
 | d + 1, b, h => by
  simp only [extN, List.mem_flatMap, List.mem_map] at h
  obtain ⟨v, _, s, hs, rfl⟩ := h
  simp [extN_len hs]
theorem wordsN_count (n : Nat) : ∀ d, (wordsN n d).length = n ^ d
 | 0 => rfl
 | d + 1 => by
  rw [wordsN, List.length_flatMap]
  have : ((wordsN n d).map fun b => ((List.range n).map fun v => b ++ [((v : Nat) : Int)]).length) = (wordsN n d).map fun _ => n := by simp
  rw [this, List.map_const', List.sum_replicate_nat, wordsN_count n d, Nat.pow_succ]
def walkV (n : Nat) (ok : List Int → Bool) : Nat → List Int → List (List Int)
 | 0, row => if ok row then [row] else []
 | d + 1, row => if ok row then (List.range n).flatMap fun v => walkV n ok d (row ++ [((v : Nat) : Int)]) else []
def chkW (ok : List Int → Bool) (k : Nat) (b : List Int) : Bool := (List.range (b.length + 1)).all fun j => decide (j < k) || ok (b.take j)
theorem chkW_iff {ok : List Int → Bool} {k : Nat} {b : List Int} : chkW ok k b = true ↔ ∀ j, k ≤ j → j ≤ b.length → ok (b.take j) = true := by
 unfold chkW
 rw [List.all_eq_true]
 constructor
 · intro h j h1 h2
   have := h j (by simp; omega)
   simpa [show ¬ j < k by omega] using this
 · intro h j hj
   simp at hj
   by_cases hk : j < k
   · simp [hk]
   · simp [hk, h j (by omega) (by omega)]
theorem chkW_step {ok : List Int → Bool} {row s : List Int} {v : Int} : chkW ok row.length (row ++ v :: s) = (ok row && chkW ok (row.length + 1) (row ++ v :: s)) := by
 rw [Bool.eq_iff_iff, Bool.and_eq_true, chkW_iff, chkW_iff]
 constructor
 · intro h
   refine ⟨?_, fun j h1 h2 => h j (by omega) h2⟩
   have := h row.length (Nat.le_refl _) (by simp)
   rwa [List.take_left'] at this
   rfl
 · rintro ⟨h1, h2⟩ j h3 h4
   by_cases e : j = row.length
   · subst e; rw [List.take_left']; exact h1; rfl
   · exact h2 j (by omega) h4
theorem walkV_eq (n : Nat) (ok : List Int → Bool) : ∀ (d : Nat) (row : List Int), walkV n ok d row = ((extN n d).map fun s => row ++ s).filter (chkW ok row.length)
 | 0, row => by
  have : chkW ok row.length row = ok row := by
   rw [Bool.eq_iff_iff, chkW_iff]
   constructor
   · intro h
     have := h row.length (Nat.le_refl _) (Nat.le_refl _)
     rwa [List.take_length] at this
   · intro h j h1 h2
     have : j = row.length := by omega
     subst this
     rw [List.take_length]; exact h
  simp only [walkV, extN, List.map_cons, List.map_nil, List.append_nil, List.filter_cons, List.filter_nil, this]
 | d + 1, row => by
  rw [walkV, extN, List.map_flatMap, List.filter_flatMap]
  by_cases h : ok row = true
  · rw [if_pos h]
    congr 1; funext v
    rw [walkV_eq n ok d, List.map_map]
    have e1 : ((extN n d).map fun s => row ++ [((v : Nat) : Int)] ++ s) = (extN n d).map ((fun s => row ++ s) ∘ fun s => ((v : Nat) : Int) :: s) := by
     apply List.map_congr_left
     intro s _
     simp
    rw [e1]
    apply List.filter_congr
    intro b hb
    obtain ⟨s, _, rfl⟩ := List.mem_map.1 hb
    show chkW ok (row ++ [_]).length (row ++ _ :: s) = chkW ok row.length (row ++ _ :: s)
    rw [chkW_step, h, Bool.true_and, List.length_append]; rfl
  · rw [if_neg h]
    symm
    rw [List.flatMap_eq_nil_iff]
    intro v _
    rw [List.filter_eq_nil_iff]
    intro b hb
    rw [List.map_map] at hb
    obtain ⟨s, _, rfl⟩ := List.mem_map.1 hb
    show ¬ chkW ok row.length (row ++ _ :: s) = true
    rw [chkW_step]
    simp [h]
def okRow (g : TGraph) (q : TConjunction) (row : List Int) : Bool := q.Atoms.all fun x => !decide (max x.From x.To = (row.length : Int) - 1) || bindOk g row x
def evalC (g : TGraph) (q : TConjunction) : List (List Int) := if validG g && validConj q then (wordsN g.Values.length q.VariableCount.toNat).filter fun b => q.Atoms.all (bindOk g b) else []
theorem atI_take {b : List Int} {k : Int} {j : Nat} (h0 : 0 ≤ k) (h : k < j) : atI (b.take j) k = atI b k := by
 unfold atI
 rw [List.getElem?_take_of_lt (by omega)]
theorem walkV_evalC (g : TGraph) (q : TConjunction) (hq : validConj q = true) : walkV g.Values.length (okRow g q) q.VariableCount.toNat [] = (wordsN g.Values.length q.VariableCount.toNat).filter fun b => q.Atoms.all (bindOk g b) := by
 have hc := conj_atoms hq
 rw [walkV_eq, wordsN_eq]
 have e1 : ((extN g.Values.length q.VariableCount.toNat).map fun s => ([] : List Int) ++ s) = extN g.Values.length q.VariableCount.toNat := by simp
 rw [e1]
 apply List.filter_congr
 intro b hb
 have hl := extN_len hb
 rw [Bool.eq_iff_iff, chkW_iff, List.all_eq_true]
 have key : ∀ x ∈ q.Atoms, ∀ j : Nat, max x.From x.To < j → bindOk g (b.take j) x = bindOk g b x := fun x hx j hj => by
  have := (hc.2.2 x hx).1
  unfold bindOk bindP
  rw [atI_take (by omega) (by omega), atI_take (by omega) (by omega)]
 constructor
 · intro h x hx
   have hr := (hc.2.2 x hx).1
   have h1 := h ((max x.From x.To).toNat + 1) (by simp) (by omega)
   unfold okRow at h1
   have h2 := List.all_eq_true.1 h1 x hx
   rw [key x hx _ (by omega)] at h2
   have h3 : max x.From x.To = ((b.take ((max x.From x.To).toNat + 1)).length : Int) - 1 := by
    rw [List.length_take, Nat.min_eq_left (by omega)]
    omega
   rw [decide_eq_true h3] at h2
   simpa using h2
 · intro h j _ hj
   unfold okRow
   rw [List.all_eq_true]
   intro x hx
   by_cases he : max x.From x.To = ((b.take j).length : Int) - 1
   · rw [key x hx _ (by rw [he, List.length_take]; omega), h x hx]; simp
   · simp only [decide_eq_false he, Bool.not_false, Bool.true_or]
end Go.Q
