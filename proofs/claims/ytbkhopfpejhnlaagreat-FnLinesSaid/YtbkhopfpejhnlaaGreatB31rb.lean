import Derived.Test.YtbkhopfpejhnlaaGreatB17rb
import Derived.Test.YtbkhopfpejhnlaaGreatB114rb
import Derived.Test.YtbkhopfpejhnlaaGreatB84rb
import Derived.Test.YtbkhopfpejhnlaaGreatAbsNrb
import Derived.Test.YtbkhopfpejhnlaaGreatAbsRrb
import Derived.Test.YtbkhopfpejhnlaaGreatB47rb
import Derived.Test.YtbkhopfpejhnlaaGreatSortrb
set_option linter.unusedVariables false
set_option linter.unusedSimpArgs false
set_option maxHeartbeats 1000000
set_option maxRecDepth 100000
namespace Go.Q
open Go.D
end Go.Q
namespace Go.Proofs.YtbkhopfpejhnlaaGreat
open Go.RowKit Go.Q Go.D
end Go.Proofs.YtbkhopfpejhnlaaGreat
set_option maxHeartbeats 1000000
set_option maxRecDepth 100000
namespace Go.Q
open Go.D
def negs (out : List Int) : Nat := (out.filter fun x => decide (x < 0)).length
theorem negs_cons (x : Int) (l : List Int) : negs (x :: l) = (if x < 0 then 1 else 0) + negs l := by
 unfold negs
 rw [List.filter_cons]
 split <;> simp_all <;> omega
theorem negs_set {v : Int} (hv : 0 ≤ v) : ∀ {out : List Int} {k : Nat} {x : Int}, out[k]? = some x → x < 0 → negs (out.set k v) + 1 = negs out
 | [], _, _, h, _ => by simp at h
 | y :: l, 0, x, h, hx => by
  simp at h
  subst h
  rw [List.set_cons_zero, negs_cons, negs_cons, if_neg (by omega), if_pos hx]
  omega
 | y :: l, k + 1, x, h, hx => by
  rw [List.set_cons_succ, negs_cons, negs_cons]
  have := negs_set hv (out := l) (k := k) (by simpa using h) hx
  omega
theorem negs_le (out : List Int) : negs out ≤ out.length := List.length_filter_le _ _
def atI (out : List Int) (k : Int) : Int := out[k.toNat]?.getD 0
theorem atI_get {out : List Int} {k : Int} (h : k.toNat < out.length) : out[k.toNat]? = some (atI out k) := by
 unfold atI; rw [List.getElem?_eq_getElem h]; rfl
def rlx (q : Int) (st : List Int × List Int) (k : Int) : List Int × List Int := if atI st.1 k < 0 then (st.1.set k.toNat (atI st.1 q + 1), st.2 ++ [k]) else st
def relax (q : Int) (l : List Int) (st : List Int × List Int) : List Int × List Int := l.foldl (rlx q) st
def bfs (nx : Nat → List Int) : Nat → List Int → List Int → List Int
 | 0, out, _ => out
 | _ + 1, out, [] => out
 | f + 1, out, q :: r => bfs nx f (relax q (nx q.toNat) (out, r)).1 (relax q (nx q.toNat) (out, r)).2
structure BfsI (N : Nat) (out qu : List Int) : Prop where
 len : out.length = N
 mem : ∀ q ∈ qu, 0 ≤ q ∧ q < N
 val : ∀ v ∈ out, -1 ≤ v ∧ v + negs out ≤ N
theorem BfsI.rlx {N : Nat} {out qu : List Int} {q k : Int} (h : BfsI N out qu) (hq : 0 ≤ q ∧ q < N) (hk : 0 ≤ k ∧ k < N) : BfsI N (rlx q (out, qu) k).1 (rlx q (out, qu) k).2 ∧ negs (Go.Q.rlx q (out, qu) k).1 + (Go.Q.rlx q (out, qu) k).2.length = negs out + qu.length ∧ negs (Go.Q.rlx q (out, qu) k).1 ≤ negs out := by
 unfold Go.Q.rlx
 dsimp only
 split
 · rename_i hneg
   have hkl : k.toNat < out.length := by rw [h.len]; omega
   have hql : q.toNat < out.length := by rw [h.len]; omega
   have hvq := h.val _ (List.mem_of_getElem? (atI_get hql))
   have hn := negs_set (v := atI out q + 1) (by omega) (atI_get hkl) hneg
   refine ⟨⟨by simpa using h.len, fun x hx => ?_, fun v hv => ?_⟩, ?_, ?_⟩
   · rcases List.mem_append.1 hx with hx | hx
     · exact h.mem x hx
     · rw [List.mem_singleton] at hx; subst hx; exact hk
   · show -1 ≤ v ∧ v + (negs (out.set k.toNat (atI out q + 1)) : Int) ≤ N
     rcases List.mem_or_eq_of_mem_set hv with hv | rfl
     · have := h.val v hv; omega
     · omega
   · show negs (out.set k.toNat (atI out q + 1)) + (qu ++ [k]).length = _
     simp; omega
   · show negs (out.set k.toNat (atI out q + 1)) ≤ _
     omega
 · exact ⟨h, rfl, Nat.le_refl _⟩
theorem BfsI.relax {N : Nat} {q : Int} (hq : 0 ≤ q ∧ q < N) : ∀ {l : List Int} {st : List Int × List Int}, BfsI N st.1 st.2 → (∀ k ∈ l, 0 ≤ k ∧ k < N) → BfsI N (relax q l st).1 (relax q l st).2 ∧ negs (Go.Q.relax q l st).1 + (Go.Q.relax q l st).2.length = negs st.1 + st.2.length ∧ negs (Go.Q.relax q l st).1 ≤ negs st.1
 | [], st, h, _ => ⟨h, rfl, Nat.le_refl _⟩
 | k :: l, st, h, hl => by
  have e : Go.Q.relax q (k :: l) st = Go.Q.relax q l (Go.Q.rlx q st k) := rfl
  have h1 : BfsI N (Go.Q.rlx q st k).1 (Go.Q.rlx q st k).2 ∧ negs (Go.Q.rlx q st k).1 + (Go.Q.rlx q st k).2.length = negs st.1 + st.2.length ∧ negs (Go.Q.rlx q st k).1 ≤ negs st.1 := h.rlx (k := k) hq (hl k (by simp))
  obtain ⟨h1, h2, h3⟩ := h1
  obtain ⟨g1, g2, g3⟩ := BfsI.relax hq (l := l) h1 fun k hk => hl k (by simp [hk])
  rw [e]
  exact ⟨g1, by omega, by omega⟩
theorem BfsI.tail {N : Nat} {out qu : List Int} {q : Int} (h : BfsI N out (q :: qu)) : BfsI N out qu := ⟨h.len, fun x hx => h.mem x (by simp [hx]), h.val⟩
def zeroAll (from_ : List Int) (out : List Int) : List Int := from_.foldl (fun out i => out.set i.toNat 0) out
def spreadOf (nx : Nat → List Int) (N : Nat) (from_ : List Int) : List Int := bfs nx (2 * N + from_.length + 1) (zeroAll from_ (List.replicate N (-1))) from_
theorem zeroAll_len : ∀ (l out : List Int), (zeroAll l out).length = out.length
 | [], _ => rfl
 | k :: l, out => (zeroAll_len l _).trans (by simp)
theorem bfs_nil {nx : Nat → List Int} {f : Nat} {out : List Int} (h : 0 < f) : bfs nx f out [] = out := by
 match f, h with
 | f + 1, _ => rfl
theorem rlx_pre (q : Int) (out pre r : List Int) (k : Int) : rlx q (out, pre ++ r) k = ((rlx q (out, r) k).1, pre ++ (rlx q (out, r) k).2) := by
 unfold rlx; dsimp only
 split <;> simp
theorem relax_pre (q : Int) : ∀ (l out pre r : List Int), relax q l (out, pre ++ r) = ((relax q l (out, r)).1, pre ++ (relax q l (out, r)).2)
 | [], _, _, _ => rfl
 | k :: l, out, pre, r => by
  have e : ∀ st, relax q (k :: l) st = relax q l (rlx q st k) := fun _ => rfl
  rw [e, e, rlx_pre, relax_pre q l]
def BfsAt (nx : Nat → List Int) (res out qu : List Int) (i : Nat) : Prop := ∃ f, negs out + (qu.length - i) < f ∧ bfs nx f out (qu.drop i) = res
theorem BfsAt.next {nx : Nat → List Int} {N : Nat} {res out qu : List Int} {i : Nat} {q : Int} (h : BfsAt nx res out qu i) (hI : BfsI N out qu) (hq : qu[i]? = some q) (hn : ∀ k ∈ nx q.toNat, 0 ≤ k ∧ k < N) : BfsAt nx res (relax q (nx q.toNat) (out, qu)).1 (relax q (nx q.toNat) (out, qu)).2 (i + 1) := by
 obtain ⟨f, hf, e⟩ := h
 have hil := (List.getElem?_eq_some_iff.1 hq).1
 have hd : qu.drop i = q :: qu.drop (i + 1) := by
  rw [List.drop_eq_getElem_cons hil, (List.getElem?_eq_some_iff.1 hq).2]
 obtain ⟨f', rfl⟩ : ∃ f', f = f' + 1 := ⟨f - 1, by omega⟩
 rw [hd, bfs] at e
 have hr := BfsI.relax (N := N) (hI.mem q (List.mem_of_getElem? hq)) (l := nx q.toNat) (st := (out, qu)) hI hn
 have e2 : qu = qu.take (i + 1) ++ qu.drop (i + 1) := (List.take_append_drop _ _).symm
 have e3 := relax_pre q (nx q.toNat) out (qu.take (i + 1)) (qu.drop (i + 1))
 rw [← e2] at e3
 refine ⟨f', ?_, ?_⟩
 · have h1 := hr.2.1
   have h2 : i + 1 ≤ (relax q (nx q.toNat) (out, qu)).2.length := by rw [e3]; simp; omega
   dsimp only at h1
   omega
 · rw [e3]
   dsimp only
   rw [List.drop_left' (by rw [List.length_take]; omega)]
   exact e
theorem BfsAt.done {nx : Nat → List Int} {res out qu : List Int} {i : Nat} (h : BfsAt nx res out qu i) (hi : qu.length ≤ i) : out = res := by
 obtain ⟨f, hf, e⟩ := h
 rw [List.drop_eq_nil_of_le hi, bfs_nil (by omega)] at e
 exact e
theorem BfsAt.start {nx : Nat → List Int} {N : Nat} {l : List Int} : BfsAt nx (spreadOf nx N l) (zeroAll l (List.replicate N (-1))) l 0 := by
 refine ⟨2 * N + l.length + 1, ?_, rfl⟩
 have := negs_le (zeroAll l (List.replicate N (-1)))
 rw [zeroAll_len] at this
 simp at this
 omega
end Go.Q
namespace Go.Proofs.YtbkhopfpejhnlaaGreat
open Go.RowKit Go.Q Go.D
end Go.Proofs.YtbkhopfpejhnlaaGreat
set_option maxHeartbeats 1000000
set_option maxRecDepth 100000
namespace Go.Q
open Go.D
def shortG (k low : Int) : List Int → Int
 | [] => if k = 3 then 1 else if k = 2 then 0 else -1
 | [a] => if k = 6 then 0 else if low = 0 then 0 else if a < 0 then -1 else min 1000000 (a * low)
 | a :: b :: _ => if k = 4 then (if a < 0 ∨ b < 0 then -1 else min 1000000 (a + b)) else if a < 0 ∨ (0 ≤ b ∧ b < a) then b else a
def shortest : Tr → Int
 | .leaf t => shortG t.Kind t.Low []
 | .un t x => shortG t.Kind t.Low [shortest x]
 | .bin t x y => shortG t.Kind t.Low [shortest x, shortest y]
theorem good_cases {x : Tr} (hg : good x) : 0 ≤ x.tok.Low ∧ x.tok.Low ≤ 3 ∧ ((x.kids = [] ∧ (x.tok.Kind = 1 ∨ x.tok.Kind = 2 ∨ x.tok.Kind = 3)) ∨ (∃ y, x.kids = [y] ∧ (x.tok.Kind = 6 ∨ x.tok.Kind = 7)) ∨ (∃ y z, x.kids = [y, z] ∧ (x.tok.Kind = 4 ∨ x.tok.Kind = 5))) := by
 have ha := good_arity hg
 have hk := kids_le x
 have hl : x.kids.length = 0 ∨ x.kids.length = 1 ∨ x.kids.length = 2 := by omega
 have harr : arity x.tok ≥ 0 := by omega
 have key : 0 ≤ x.tok.Low ∧ x.tok.Low ≤ 3 ∧ (arity x.tok = 0 → x.tok.Kind = 1 ∨ x.tok.Kind = 2 ∨ x.tok.Kind = 3) ∧ (arity x.tok = 1 → x.tok.Kind = 6 ∨ x.tok.Kind = 7) ∧ (arity x.tok = 2 → x.tok.Kind = 4 ∨ x.tok.Kind = 5) := by
  revert harr
  unfold arity zerT inB
  intro harr
  repeat' split at harr
  all_goals first | omega | (simp_all <;> omega)
 refine ⟨key.1, key.2.1, ?_⟩
 rcases hl with h | h | h
 · exact .inl ⟨List.eq_nil_of_length_eq_zero h, key.2.2.1 (by omega)⟩
 · obtain ⟨y, hy, _⟩ := kids_one hg (by omega)
   exact .inr (.inl ⟨y, hy, key.2.2.2.1 (by omega)⟩)
 · obtain ⟨y, z, hy, _⟩ := kids_two hg (by omega)
   exact .inr (.inr ⟨y, z, hy, key.2.2.2.2 (by omega)⟩)
theorem kind_two' {x : Tr} (hg : good x) (h : x.tok.Kind = 4 ∨ x.tok.Kind = 5) : ∃ y z, x.kids = [y, z] ∧ toks x = toks y ++ toks z ++ [x.tok] ∧ good y ∧ good z := by
 rcases (good_cases hg).2.2 with ⟨_, h1⟩ | ⟨y, _, h1⟩ | ⟨y, z, h1, _⟩
 · omega
 · omega
 · exact kids_two hg (by rw [good_arity hg, h1]; rfl)
theorem kind_one' {x : Tr} (hg : good x) (h : x.tok.Kind = 6 ∨ x.tok.Kind = 7) : ∃ y, x.kids = [y] ∧ toks x = toks y ++ [x.tok] ∧ good y := by
 rcases (good_cases hg).2.2 with ⟨_, h1⟩ | ⟨y, h1, _⟩ | ⟨y, z, _, h1⟩
 · omega
 · exact kids_one hg (by rw [good_arity hg, h1]; rfl)
 · omega
theorem kind_no' {x : Tr} (hg : good x) (h : x.tok.Kind ≠ 4 ∧ x.tok.Kind ≠ 5 ∧ x.tok.Kind ≠ 6 ∧ x.tok.Kind ≠ 7) : x.kids = [] := by
 rcases (good_cases hg).2.2 with ⟨h1, _⟩ | ⟨y, _, h1⟩ | ⟨y, z, _, h1⟩
 · exact h1
 · omega
 · omega
end Go.Q
namespace Go.Proofs.YtbkhopfpejhnlaaGreat
open Go.RowKit Go.Q Go.D
end Go.Proofs.YtbkhopfpejhnlaaGreat
set_option maxHeartbeats 1000000
set_option maxRecDepth 100000
namespace Go.Q
open Go.RowKit Go.D
theorem grid_put {n : Nat} {F : GR} {i j : Nat} {b : Bool} {c : List T} : (((gridF n F).map cBoolS).set i c).set i [.sl 1 ((((List.range n).map (F i)).map cBool).set j (cBool b))] = (gridF n (setF F i j b)).map cBoolS := by
 rw [List.set_set, ← gridF_set, List.map_set]
 congr 1
 show _ = [T.sl 1 _]
 rw [List.map_set]
def diagR (b : Bool) : GR := fun i j => b && decide (i = j)
theorem diag_id : diagR true = idR := by funext i j; simp [diagR, idR]
theorem diag_no : diagR false = noR := by funext i j; simp [diagR, noR]
theorem diag_row {n k : Nat} {b : Bool} (hk : k < n) : (List.replicate n (cBool false)).set k (cBool b) = ((List.range n).map (diagR b k)).map cBool := by
 apply List.ext_getElem?
 intro y
 rw [List.getElem?_set, List.getElem?_map]
 by_cases hy : y < n
 · rw [row_at hy]
   by_cases e : k = y
   · subst e; simp [hk, diagR]
   · rw [if_neg e]; simp [hy, diagR, e]
 · rw [List.getElem?_eq_none (l := (List.range n).map (diagR b k)) (by simp; omega)]
   by_cases e : k = y
   · subst e; omega
   · rw [if_neg e, List.getElem?_eq_none (by simp; omega)]; rfl
theorem set_self {α : Type} {l : List α} {k : Nat} {x : α} (h : k < l.length) : (l.set k x)[k]? = some x := List.getElem?_set_self h
end Go.Q
namespace Go.Proofs.YtbkhopfpejhnlaaGreat
open Go.RowKit Go.Q Go.D
end Go.Proofs.YtbkhopfpejhnlaaGreat
set_option maxHeartbeats 1000000
set_option maxRecDepth 100000
namespace Go.Q
open Go.D
end Go.Q
namespace Go.Proofs.YtbkhopfpejhnlaaGreat
open Go.RowKit Go.Q Go.D
end Go.Proofs.YtbkhopfpejhnlaaGreat
set_option maxHeartbeats 1000000
set_option maxRecDepth 100000
namespace Go.Q
open Go.RowKit Go.D
def lTo (w : List Int) (L : Int) (k : Nat) : GR := fun i j => decide (i < k) && letR w L i j
theorem lTo_zero (w : List Int) (L : Int) : diagR false = lTo w L 0 := by funext i j; simp [diagR, lTo]
theorem lTo_step {w : List Int} {L y : Int} {k : Nat} (h : w[k]? = some y) : setF (lTo w L k) k (k + 1) (decide (y = L)) = lTo w L (k + 1) := by
 funext i j
 unfold setF lTo letR
 by_cases h1 : i = k
 · subst h1
   by_cases h2 : j = i + 1
   · subst h2; simp [h]
   · simp [h2]
 · by_cases h3 : i < k
   · simp [h1, h3, show i < k + 1 by omega]
   · simp [h1, h3, show ¬ i < k + 1 by omega]
theorem lTo_end {w : List Int} {L : Int} {k : Nat} (h : w.length ≤ k) : lTo w L k = letR w L := by
 funext i j
 unfold lTo
 by_cases hi : i < k
 · simp [hi]
 · unfold letR
   rw [List.getElem?_eq_none (by omega)]
   simp [hi]
end Go.Q
namespace Go.Proofs.YtbkhopfpejhnlaaGreat
open Go.RowKit Go.Q Go.D
end Go.Proofs.YtbkhopfpejhnlaaGreat
set_option maxHeartbeats 1000000
set_option maxRecDepth 100000
namespace Go.Q
open Go.D
def lets : Tr → List Int
 | .leaf t => if t.Kind = 3 then [t.Letter] else []
 | .un _ x => lets x
 | .bin _ x y => lets x ++ lets y
def tk (x : Tr) (w : List Int) : Bool := wordR w x 0 w.length
def letsT (l : List TToken) : List Int := l.filterMap fun t => if t.Kind = 3 then some t.Letter else none
theorem letsT_append (a b : List TToken) : letsT (a ++ b) = letsT a ++ letsT b := by unfold letsT; rw [List.filterMap_append]
theorem lets_toks : ∀ x : Tr, good x → letsT (toks x) = lets x
 | .leaf t, _ => by
  by_cases e : t.Kind = 3 <;> simp [toks, letsT, lets, e]
 | .un t x, hg => by
  have hk : ¬ t.Kind = 3 := by
   rcases (good_cases hg).2.2 with ⟨h1, _⟩ | ⟨y, _, h1⟩ | ⟨y, z, h1, _⟩
   · cases h1
   · simp only [Tr.tok] at h1; omega
   · simp [Tr.kids] at h1
  rw [show toks (.un t x) = toks x ++ [t] from rfl, letsT_append, lets_toks x (good_kids hg x (by simp [Tr.kids])), lets]
  simp [letsT, hk]
 | .bin t x y, hg => by
  have hk : ¬ t.Kind = 3 := by
   rcases (good_cases hg).2.2 with ⟨h1, _⟩ | ⟨z, h1, _⟩ | ⟨y', z, _, h1⟩
   · cases h1
   · simp [Tr.kids] at h1
   · simp only [Tr.tok] at h1; omega
  rw [show toks (.bin t x y) = toks x ++ toks y ++ [t] from rfl, letsT_append, letsT_append, lets_toks x (good_kids hg x (by simp [Tr.kids])), lets_toks y (good_kids hg y (by simp [Tr.kids])), lets]
  simp [letsT, hk]
theorem letter_rng {x : Tr} (hg : good x) (h : x.tok.Kind = 3) : 0 ≤ x.tok.Letter ∧ x.tok.Letter ≤ 8 := by
 have ha := good_arity hg
 unfold arity at ha
 rw [if_neg (by omega), if_pos h] at ha
 split at ha
 · rename_i hc; simp only [Bool.and_eq_true, inB, decide_eq_true_eq] at hc; omega
 · omega
theorem lets_rng : ∀ x : Tr, good x → ∀ c ∈ lets x, 0 ≤ c ∧ c ≤ 8
 | .leaf t, hg, c, hc => by
  rw [lets] at hc
  split at hc
  · rename_i h3
    simp only [List.mem_singleton] at hc
    subst hc
    exact letter_rng (x := .leaf t) hg h3
  · cases hc
 | .un t x, hg, c, hc => lets_rng x (good_kids hg x (by simp [Tr.kids])) c hc
 | .bin t x y, hg, c, hc => by
  rcases List.mem_append.1 hc with h | h
  · exact lets_rng x (good_kids hg x (by simp [Tr.kids])) c h
  · exact lets_rng y (good_kids hg y (by simp [Tr.kids])) c h
end Go.Q
set_option maxHeartbeats 1000000
set_option maxRecDepth 100000
namespace Go.Q
open Go.RowKit Go.D
end Go.Q
namespace Go.Proofs.YtbkhopfpejhnlaaGreat
open Go.RowKit Go.Q Go.D
end Go.Proofs.YtbkhopfpejhnlaaGreat
namespace Go.Proofs.YtbkhopfpejhnlaaGreat
open Go.RowKit Go.Q Go.D
end Go.Proofs.YtbkhopfpejhnlaaGreat
set_option maxHeartbeats 1000000
set_option maxRecDepth 100000
namespace Go.Q
open Go.D
def tok0 (k : Int) : TToken := ⟨k, 0, 0, 0⟩
end Go.Q
namespace Go.Proofs.YtbkhopfpejhnlaaGreat
open Go.RowKit Go.Q Go.D
theorem specl8Leaf (k : Int) : FnT Tryz.prog 129 [.one (.v (.int .i64 k))] (.a (.agg (cExpr ⟨[tok0 k]⟩))) := by
 refine FnT.walk Tryz.func129 U (by kernel_rfl) Tryz.ntmps129 U fun hlen w0 => ?_
 try simp [cPair, cToken, cExpr, cEdge, cGraph, cStep, cWalk, cChange, cBatch, cHistory, cPositions, cAutomaton, cProductStep, cPathAtom, cConjunction, cView, cDelta, cRegistered, cRegistry] at hlen
 refine AW.sr ?_
 refine AWl.add (R_alloc 2 U U U in30 U U U) U ?_
 refine AWl.nil (AW.sr ?_)
 refine AWl.mv U U U U U ?_
 refine AWl.put (R_build (ps := [(0, .tmp 3)]) U U U in100 U U st100 (.cons (.tm U) U U fp100_0 .nil) U) U ?_
 refine AWl.absadd (R_list (xs := [.tmp 4]) 5 U U U (.cons (.tm U) U U .nil) Tryz.underlying28 in100 U U U U) U ?_
 refine AWl.put (R_build (ps := [(0, .tmp 5)]) U U U in30 U U st30 (.cons (.tm U) U U fp30_0 .nil) U) U ?_
 refine AWl.chgb (R_store_pb U U U (.tm U) (.tm U) U ty30 U U U (by kernel_rfl) U) ?_
 refine AWl.nil (AW.ret ?_)
 refine Res.one U (.cell U U ty30 U U .nil) U ?_
 rfl
theorem specl8Copy (l : List TToken) (hz : l.length ≤ 4194304) : FnT Tryz.prog 120 [.one (.sl 4 (l.map cToken))] (.a (.agg (cExpr ⟨l⟩))) := by
 refine FnT.walk Tryz.func120 U (by kernel_rfl) Tryz.ntmps120 U fun hlen w0 => ?_
 try simp [cPair, cToken, cExpr, cEdge, cGraph, cStep, cWalk, cChange, cBatch, cHistory, cPositions, cAutomaton, cProductStep, cPathAtom, cConjunction, cView, cDelta, cRegistered, cRegistry] at hlen
 refine AW.sr ?_
 refine AWl.add (R_alloc 2 U U U in30 U U U) U ?_
 refine AWl.nil (AW.sr ?_)
 refine AWl.add (R_empty 3 U U U Tryz.underlying28 ty100 U) U ?_
 refine AWl.mv U U U U U ?_
 refine AWl.chgput (R_append U U U (.tm U) U (.tm U) (by exact .t) (by exact isV_map (fun _ => rfl) _) Tryz.underlying28 in100 U (by (simp [chunk]; omega)) (by (unfold maxLen; simp [chunk]; omega))) U ?_
 refine AWl.le (σ' := ⟨_, [(0, _), (2, _), (5, _)], [(2, _), (3, _)]⟩) (Le.sub0 U ⟨U, U, U, trivial⟩ ⟨U, U, trivial⟩) ?_
 refine AWl.put (R_build (ps := [(0, .tmp 5)]) U U U in30 U U st30 (.cons (.tm U) U U fp30_0 .nil) U) U ?_
 refine AWl.chgb (R_store_pb U U U (.tm U) (.tm U) U ty30 U U U (by kernel_rfl) U) ?_
 refine AWl.nil (AW.ret ?_)
 refine Res.one U (.cell U U ty30 U U .nil) U ?_
 rfl
theorem specl8Join (a b : TExpr) (t : TToken) (hz : a.Tokens.length + b.Tokens.length ≤ 4194304) : FnT Tryz.prog 121 [.agg (cExpr a), .agg (cExpr b), .agg (cToken t)] (.a (.agg (cExpr ⟨a.Tokens ++ b.Tokens ++ [t]⟩))) := by
 refine FnT.walk Tryz.func121 U (by kernel_rfl) Tryz.ntmps121 U fun hlen w0 => ?_
 try simp [cPair, cToken, cExpr, cEdge, cGraph, cStep, cWalk, cChange, cBatch, cHistory, cPositions, cAutomaton, cProductStep, cPathAtom, cConjunction, cView, cDelta, cRegistered, cRegistry] at hlen
 refine AW.sr ?_
 refine AWl.put (R_boxz U U U (.tm U) (ts := _) (by rfl)) U ?_
 refine AWl.put (R_boxz U U U (.tm U) (ts := _) (by rfl)) U ?_
 refine AWl.put (R_boxz U U U (.tm U) (ts := _) (by rfl)) U ?_
 refine AWl.add (R_alloc 6 U U U in30 U U U) U ?_
 refine AWl.nil (AW.sr ?_)
 refine AWl.put (by exact R_fieldAddr U (.no U) U (.tm U) fl30_0) U ?_
 refine AWl.put (by exact R_load U (.no U) U (.tm U) ty28 U U) U ?_
 refine AWl.adds (R_call 1000 (specl8Copy _ (by omega)) U U U (.cons (.tm U) U .nil) U U) U ?_
 refine AWl.add (R_alloc 7 U U U in30 U U U) U ?_
 refine AWl.chgb (R_store_pb U U U (.tm U) (.tm U) U ty30 U U U (by kernel_rfl) U) ?_
 refine AWl.nil (AW.sr ?_)
 refine AWl.put (by exact R_fieldAddr_pp U (.no U) U (.tm U) fl30_0) U ?_
 refine AWl.put (by exact R_load_pp U (.no U) U (.tm U) U ty28 U U) U ?_
 refine AWl.put (by exact R_fieldAddr U (.no U) U (.tm U) fl30_0) U ?_
 refine AWl.put (by exact R_load U (.no U) U (.tm U) ty28 U U) U ?_
 refine AWl.chgput (R_append U U U (.tm U) U (.tm U) (by exact .t) (by exact isV_map (fun _ => rfl) _) Tryz.underlying28 in100 U (by (simp [chunk]; omega)) (by (unfold maxLen; simp [chunk]; omega))) U ?_
 refine AWl.le (σ' := ⟨_, [(0, _), (1, _), (2, _), (3, _), (4, _), (5, _), (6, _), (7, _), (15, _)], [(6, _), (1000, _), (7, _)]⟩) (Le.sub0 U ⟨U, U, U, U, U, U, U, U, U, trivial⟩ ⟨U, U, U, trivial⟩) ?_
 refine AWl.put (by exact R_fieldAddr_pp U (.no U) U (.tm U) fl30_0) U ?_
 refine AWl.chgb (R_store_pb U U U (.tm U) (.tm U) U ty28 U U U (by kernel_rfl) U) ?_
 refine AWl.nil (AW.sr ?_)
 refine AWl.put (by exact R_fieldAddr_pp U (.no U) U (.tm U) fl30_0) U ?_
 refine AWl.put (by exact R_load_pp U (.no U) U (.tm U) U ty28 U U) U ?_
 refine AWl.put (by exact R_load U (.no U) U (.tm U) ty100 U U) U ?_
 refine AWl.absadd (R_list (xs := [.tmp 19]) 20 U U U (.cons (.tm U) U U .nil) Tryz.underlying28 in100 U U U U) U ?_
 refine AWl.abschgput (R_append_own U U U (.tm U) U (.tm U) U U Tryz.underlying28 in100 U (by (simp [chunk]; omega)) (by (unfold maxLen; simp [chunk]; omega))) U ?_
 refine AWl.le (σ' := ⟨_, [(0, _), (1, _), (2, _), (3, _), (4, _), (5, _), (6, _), (7, _), (21, _)], [(6, _), (1000, _), (7, _)]⟩) (Le.sub0 U ⟨U, U, U, U, U, U, U, U, U, trivial⟩ ⟨U, U, U, trivial⟩) ?_
 refine AWl.put (by exact R_fieldAddr_pp U (.no U) U (.tm U) fl30_0) U ?_
 refine AWl.chgb (R_store_pb U U U (.tm U) (.tm U) U ty28 U U U (by kernel_rfl) U) ?_
 refine AWl.nil (AW.sr ?_)
 refine AWl.put (by exact R_load_pp U (.no U) U (.tm U) U ty30 U U) U ?_
 refine AWl.chgb (R_store_pb U U U (.tm U) (.tm U) U ty30 U U U (by kernel_rfl) U) ?_
 refine AWl.nil (AW.ret ?_)
 refine Res.one U (.cell U U ty30 U U .nil) U ?_
 simp [cExpr, unflT, cToken, chunk]; rfl
end Go.Proofs.YtbkhopfpejhnlaaGreat
