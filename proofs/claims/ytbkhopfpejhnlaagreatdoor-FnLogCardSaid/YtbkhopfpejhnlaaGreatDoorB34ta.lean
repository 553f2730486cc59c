import Derived.Test.YtbkhopfpejhnlaaGreatDoorB18ta
import Derived.Test.YtbkhopfpejhnlaaGreatDoorAbsNta
import Derived.Laws.Cover3
import Derived.Shelf.Bits.Mul64
import Derived.Shelf.Abstract
import Derived.Ground.NamesProg
set_option linter.unusedVariables false
set_option linter.unusedSimpArgs false
namespace Go.Q
open Go.D
def cmpL : List Int → List Int → Int
 | [], [] => 0
 | [], _ :: _ => -1
 | _ :: _, [] => 1
 | x :: l, y :: r => if x < y then -1 else if y < x then 1 else cmpL l r
theorem cmpL_drop {l r : List Int} {k : Nat} {x y : Int} (hx : l[k]? = some x) (hy : r[k]? = some y) : cmpL (l.drop k) (r.drop k) = if x < y then -1 else if y < x then 1 else cmpL (l.drop (k + 1)) (r.drop (k + 1)) := by
 rw [drop_at hx, drop_at hy, cmpL]
theorem cmpL_end {l r : List Int} {k : Nat} (h : l.length ≤ k ∨ r.length ≤ k) (h1 : k ≤ l.length) (h2 : k ≤ r.length) : cmpL (l.drop k) (r.drop k) = if l.length < r.length then -1 else if r.length < l.length then 1 else 0 := by
 by_cases e1 : l.length = k
 · by_cases e2 : r.length = k
   · rw [List.drop_eq_nil_of_le (by omega), List.drop_eq_nil_of_le (by omega), cmpL, if_neg (by omega), if_neg (by omega)]
   · rw [List.drop_eq_nil_of_le (by omega), List.drop_eq_getElem_cons (l := r) (by omega), cmpL, if_pos (by omega)]
 · by_cases e2 : r.length = k
   · rw [List.drop_eq_nil_of_le (show r.length ≤ k by omega), List.drop_eq_getElem_cons (l := l) (by omega), cmpL, if_neg (by omega), if_pos (by omega)]
   · omega
theorem cmpL_zero : ∀ (l r : List Int), decide (cmpL l r = 0) = decide (l = r)
 | [], [] => by simp [cmpL]
 | [], _ :: _ => by simp [cmpL]
 | _ :: _, [] => by simp [cmpL]
 | x :: l, y :: r => by
  have ih := cmpL_zero l r
  rw [cmpL]
  by_cases h1 : x < y
  · rw [if_pos h1]; simp; omega
  · by_cases h2 : y < x
    · rw [if_neg h1, if_pos h2]; simp; omega
    · rw [if_neg h1, if_neg h2, ih]
      have : x = y := by omega
      simp [this]
end Go.Q
namespace Go.Proofs.YtbkhopfpejhnlaaGreatDoor
open Go.RowKit Go.Q Go.D
set_option maxRecDepth 100000 in
theorem specl2Cmp (l r : List Int) : FnT Tryz.prog 127 [.one (.sl 1 (l.map cInt)), .one (.sl 1 (r.map cInt))] (.a (.one (.v (.int .i64 (cmpL l r))))) := by
 refine FnT.walk Tryz.func127 U (by kernel_rfl) Tryz.ntmps127 U fun hlen w0 => ?_
 try simp [cEdge, cGraph, cChange, cBatch, cHistory] at hlen
 refine AW.sr ?_
 refine AWl.ac ?_
 refine AWl.nil (AW.seq ?_)
 refine AW.sr ?_
 refine AWl.ac ?_
 refine AWl.nil (AW.block ?_)
 refine AW.loop (β := Nat) (fun x => (x ≤ l.length ∧ x ≤ r.length) ∧ cmpL l r = cmpL (l.drop x) (r.drop x)) (fun x => ⟨_, [(5, (true, .a (.one (.t (.v (.int .i64 x)))))), (0, _), (1, _)], []⟩) (fun x => l.length - x) (0) ⟨⟨Nat.zero_le _, Nat.zero_le _⟩, U⟩ (Le.sub0 U ⟨U, U, U, Y⟩ trivial) ?_
 intro k hk
 obtain ⟨hk, he⟩ := hk
 refine AW.seq ?_
 refine AW.sr ?_
 refine AWl.mv ?_
 refine AWl.mv ?_
 refine AWl.p (by exact R_lenm U (.no U) U (.tm U) (by exact .t) Tryz.underlying55) U ?_
 refine AWl.p (R_lt U (.no U) U (.tm U) (.tm U)) U ?_
 refine AWl.mv ?_
 refine AWl.p (R_move U (by exact .yes1 U U U U) U (.tmp U (by exact fun _ => rfl))) U ?_
 refine AWl.p (R_move U (by exact .yes1 U U U U) U (.tmp U (by exact fun _ => rfl))) U ?_
 refine AWl.p (by exact R_lenm U (by exact .yes1 U U U U) U (.tmp U (by exact id)) (by exact .t) Tryz.underlying55) U ?_
 refine AWl.p (R_lt U (by exact .yes1 U U U U) U (.tmp U (by exact id)) (.tmp U (by exact id))) U ?_
 refine AWl.p (R_and U (.no U) U (.tm U) (.tmp U (by exact id))) U ?_
 refine AWl.nil ?_
 refine AW.cond (.tm U) (fun hlt => ?_) (fun hlt => ?_)
 · skip
   try simp at hlt
   obtain ⟨x, hx⟩ : ∃ x, l[k]? = some x := ⟨_, List.getElem?_eq_getElem (by omega)⟩
   obtain ⟨y, hy⟩ : ∃ y, r[k]? = some y := ⟨_, List.getElem?_eq_getElem (by omega)⟩
   rw [cmpL_drop hx hy] at he
   refine AW.skip ?_
   refine AW.seq ?_
   refine AW.block ?_
   refine AW.seq ?_
   refine AW.seq ?_
   refine AW.le (σ' := ⟨_, [(0, _), (1, _), (5, _)], []⟩) (Le.sub0 U ⟨U, U, U, Y⟩ trivial) ?_
   refine AW.drawn 9 (nthB [[], [], [0, 1], [0, 1, 2], [], [], [4, 5], [4, 5, 6], [0, 1, 2, 3, 4, 5, 6, 7]]) (by kernel_rfl) (by kernel_rfl) (by kernel_rfl) ?_
   refine DrawC.step U U U (Loc.of U fun σ' hs => R_move U (.no U) (hd_sup hs U) (.tm (hs.slots _ _ U))) ?_
   refine DrawC.step U U U (Loc.of U fun σ' hs => R_move U (.no U) (hd_sup hs U) (.tm (hs.slots _ _ U))) ?_
   refine DrawC.step U U U (Loc.of U fun σ' hs => (by exact R_indexAddr U (.no U) (hd_sup hs U) (.tm (hs.slots _ _ U)) (.tm (hs.slots _ _ U)) Tryz.underlying55 ty3 (fun _ => ⟨by omega, (by exact map_get (by assumption))⟩))) ?_
   refine DrawC.step U U U (Loc.of U fun σ' hs => (by exact R_load U (.no U) (hd_sup hs U) (.tm (hs.slots _ _ U)) ty3 U U)) ?_
   refine DrawC.step U U U (Loc.of U fun σ' hs => R_move U (.no U) (hd_sup hs U) (.tm (hs.slots _ _ U))) ?_
   refine DrawC.step U U U (Loc.of U fun σ' hs => R_move U (.no U) (hd_sup hs U) (.tm (hs.slots _ _ U))) ?_
   refine DrawC.step U U U (Loc.of U fun σ' hs => (by exact R_indexAddr U (.no U) (hd_sup hs U) (.tm (hs.slots _ _ U)) (.tm (hs.slots _ _ U)) Tryz.underlying55 ty3 (fun _ => ⟨by omega, (by exact map_get (by assumption))⟩))) ?_
   refine DrawC.step U U U (Loc.of U fun σ' hs => (by exact R_load U (.no U) (hd_sup hs U) (.tm (hs.slots _ _ U)) ty3 U U)) ?_
   refine DrawC.step U U U (Loc.of U fun σ' hs => R_lt U (.no U) (hd_sup hs U) (.tm (hs.slots _ _ U)) (.tm (hs.slots _ _ U))) ?_
   refine DrawC.fin U U ?_
   refine AWl.nil ?_
   refine AW.cond (.tm U) (fun h26 => ?_) (fun h26 => ?_)
   · skip
     try simp at h26
     refine AW.seq ?_
     refine AW.le (σ' := ⟨_, [(0, _), (1, _), (5, _)], []⟩) (Le.sub0 U ⟨U, U, U, Y⟩ trivial) ?_
     refine AW.region ?_
     refine AWl.ac ?_
     refine AWl.nil (AW.ret ?_)
     refine Res.v U U ?_
     rw [he, if_pos h26]
   · skip
     try simp at h26
     refine AW.skip ?_
     refine AW.seq ?_
     refine AW.le (σ' := ⟨_, [(0, _), (1, _), (5, _)], []⟩) (Le.sub0 U ⟨U, U, U, Y⟩ trivial) ?_
     refine AW.drawn 9 (nthB [[], [], [0, 1], [0, 1, 2], [], [], [4, 5], [4, 5, 6], [0, 1, 2, 3, 4, 5, 6, 7]]) (by kernel_rfl) (by kernel_rfl) (by kernel_rfl) ?_
     refine DrawC.step U U U (Loc.of U fun σ' hs => R_move U (.no U) (hd_sup hs U) (.tm (hs.slots _ _ U))) ?_
     refine DrawC.step U U U (Loc.of U fun σ' hs => R_move U (.no U) (hd_sup hs U) (.tm (hs.slots _ _ U))) ?_
     refine DrawC.step U U U (Loc.of U fun σ' hs => (by exact R_indexAddr U (.no U) (hd_sup hs U) (.tm (hs.slots _ _ U)) (.tm (hs.slots _ _ U)) Tryz.underlying55 ty3 (fun _ => ⟨by omega, (by exact map_get (by assumption))⟩))) ?_
     refine DrawC.step U U U (Loc.of U fun σ' hs => (by exact R_load U (.no U) (hd_sup hs U) (.tm (hs.slots _ _ U)) ty3 U U)) ?_
     refine DrawC.step U U U (Loc.of U fun σ' hs => R_move U (.no U) (hd_sup hs U) (.tm (hs.slots _ _ U))) ?_
     refine DrawC.step U U U (Loc.of U fun σ' hs => R_move U (.no U) (hd_sup hs U) (.tm (hs.slots _ _ U))) ?_
     refine DrawC.step U U U (Loc.of U fun σ' hs => (by exact R_indexAddr U (.no U) (hd_sup hs U) (.tm (hs.slots _ _ U)) (.tm (hs.slots _ _ U)) Tryz.underlying55 ty3 (fun _ => ⟨by omega, (by exact map_get (by assumption))⟩))) ?_
     refine DrawC.step U U U (Loc.of U fun σ' hs => (by exact R_load U (.no U) (hd_sup hs U) (.tm (hs.slots _ _ U)) ty3 U U)) ?_
     refine DrawC.step U U U (Loc.of U fun σ' hs => R_gt U (.no U) (hd_sup hs U) (.tm (hs.slots _ _ U)) (.tm (hs.slots _ _ U))) ?_
     refine DrawC.fin U U ?_
     refine AWl.nil ?_
     refine AW.cond (.tm U) (fun h35 => ?_) (fun h35 => ?_)
     · skip
       try simp at h35
       refine AW.seq ?_
       refine AW.le (σ' := ⟨_, [(0, _), (1, _), (5, _)], []⟩) (Le.sub0 U ⟨U, U, U, Y⟩ trivial) ?_
       refine AW.region ?_
       refine AWl.ac ?_
       refine AWl.nil (AW.ret ?_)
       refine Res.v U U ?_
       rw [he, if_neg (by omega), if_pos h35]
     · skip
       try simp at h35
       refine AW.skip ?_
       refine AW.le (σ' := ⟨_, [(0, _), (1, _), (5, _)], []⟩) (Le.sub0 U ⟨U, U, U, Y⟩ trivial) ?_
       refine AW.region ?_
       refine AWl.mv ?_
       refine AWl.p (R_add U (.no U) U (.tm U) (.const U) (fun _ => by omega)) U ?_
       refine AWl.av ?_
       refine AWl.nil ?_
       refine Round.next (k + 1) ⟨by omega, by rw [he, if_neg (by omega), if_neg (by omega)]⟩ (by omega) (Le.sub0 rfl ⟨rfl, rfl, rfl, Y⟩ trivial)
 · skip
   try simp at hlt
   rw [cmpL_end (by omega) (by omega) (by omega)] at he
   refine AW.exit ?_
   refine AW.seq ?_
   refine AW.seq ?_
   refine AW.le (σ' := ⟨_, [(0, _), (1, _), (5, _)], []⟩) (Le.sub0 U ⟨U, U, U, Y⟩ trivial) ?_
   refine AW.region ?_
   refine AWl.mv ?_
   refine AWl.p (by exact R_lenm U (.no U) U (.tm U) (by exact .t) Tryz.underlying55) U ?_
   refine AWl.mv ?_
   refine AWl.p (by exact R_lenm U (.no U) U (.tm U) (by exact .t) Tryz.underlying55) U ?_
   refine AWl.p (R_lt U (.no U) U (.tm U) (.tm U)) U ?_
   refine AWl.nil ?_
   refine AW.cond (.tm U) (fun h40 => ?_) (fun h40 => ?_)
   · skip
     try simp at h40
     refine AW.sr ?_
     refine AWl.ac ?_
     refine AWl.nil (AW.ret ?_)
     refine Res.v U U ?_
     rw [he]; grind
   · skip
     try simp at h40
     refine AW.skip ?_
     refine AW.seq ?_
     refine AW.sr ?_
     refine AWl.mv ?_
     refine AWl.p (by exact R_lenm U (.no U) U (.tm U) (by exact .t) Tryz.underlying55) U ?_
     refine AWl.mv ?_
     refine AWl.p (by exact R_lenm U (.no U) U (.tm U) (by exact .t) Tryz.underlying55) U ?_
     refine AWl.p (R_gt U (.no U) U (.tm U) (.tm U)) U ?_
     refine AWl.nil ?_
     refine AW.cond (.tm U) (fun h45 => ?_) (fun h45 => ?_)
     · skip
       try simp at h45
       refine AW.seq ?_
       refine AW.le (σ' := ⟨_, [(0, _), (1, _), (5, _)], []⟩) (Le.sub0 U ⟨U, U, U, Y⟩ trivial) ?_
       refine AW.region ?_
       refine AWl.ac ?_
       refine AWl.nil (AW.ret ?_)
       refine Res.v U U ?_
       rw [he]; grind
     · skip
       try simp at h45
       refine AW.skip ?_
       refine AW.seq ?_
       refine AW.le (σ' := ⟨_, [(0, _), (1, _), (5, _)], []⟩) (Le.sub0 U ⟨U, U, U, Y⟩ trivial) ?_
       refine AW.region ?_
       refine AWl.ac ?_
       refine AWl.nil (AW.ret ?_)
       refine Res.v U U ?_
       rw [he]; grind
end Go.Proofs.YtbkhopfpejhnlaaGreatDoor
set_option maxHeartbeats 1000000
set_option maxRecDepth 100000
namespace Go.Q
open Go.D
def negs (out : List Int) : Nat := (out.filter fun x => decide (x < 0)).length
theorem negs_cons (x : Int) (l : List Int) : negs (x :: l) = (if x < 0 then 1 else 0) + negs l := by
 unfold negs
 rw [List.filter_cons]
 split <;> simp_all <;> omega
theorem negs_set {v : Int} (hv : 0 ≤ v) : ∀ {out : List Int} {k : Nat} {x : Int}, out[k]? = some x → x < 0 → negs (out.set k v) + 1 = negs out
 | [], _, _, h, _ => by simp at h
 | y :: l, 0, x, h, hx => by
  simp at h
  subst h
  rw [List.set_cons_zero, negs_cons, negs_cons, if_neg (by omega), if_pos hx]
  omega
 | y :: l, k + 1, x, h, hx => by
  rw [List.set_cons_succ, negs_cons, negs_cons]
  have := negs_set hv (out := l) (k := k) (by simpa using h) hx
  omega
theorem negs_le (out : List Int) : negs out ≤ out.length := List.length_filter_le _ _
def atI (out : List Int) (k : Int) : Int := out[k.toNat]?.getD 0
theorem atI_get {out : List Int} {k : Int} (h : k.toNat < out.length) : out[k.toNat]? = some (atI out k) := by
 unfold atI; rw [List.getElem?_eq_getElem h]; rfl
def rlx (q : Int) (st : List Int × List Int) (k : Int) : List Int × List Int := if atI st.1 k < 0 then (st.1.set k.toNat (atI st.1 q + 1), st.2 ++ [k]) else st
def relax (q : Int) (l : List Int) (st : List Int × List Int) : List Int × List Int := l.foldl (rlx q) st
def bfs (nx : Nat → List Int) : Nat → List Int → List Int → List Int
 | 0, out, _ => out
 | _ + 1, out, [] => out
 | f + 1, out, q :: r => bfs nx f (relax q (nx q.toNat) (out, r)).1 (relax q (nx q.toNat) (out, r)).2
structure BfsI (N : Nat) (out qu : List Int) : Prop where
 len : out.length = N
 mem : ∀ q ∈ qu, 0 ≤ q ∧ q < N
 val : ∀ v ∈ out, -1 ≤ v ∧ v + negs out ≤ N
theorem BfsI.rlx {N : Nat} {out qu : List Int} {q k : Int} (h : BfsI N out qu) (hq : 0 ≤ q ∧ q < N) (hk : 0 ≤ k ∧ k < N) : BfsI N (rlx q (out, qu) k).1 (rlx q (out, qu) k).2 ∧ negs (Go.Q.rlx q (out, qu) k).1 + (Go.Q.rlx q (out, qu) k).2.length = negs out + qu.length ∧ negs (Go.Q.rlx q (out, qu) k).1 ≤ negs out := by
 unfold Go.Q.rlx
 dsimp only
 split
 · rename_i hneg
   have hkl : k.toNat < out.length := by rw [h.len]; omega
   have hql : q.toNat < out.length := by rw [h.len]; omega
   have hvq := h.val _ (List.mem_of_getElem? (atI_get hql))
   have hn := negs_set (v := atI out q + 1) (by omega) (atI_get hkl) hneg
   refine ⟨⟨by simpa using h.len, fun x hx => ?_, fun v hv => ?_⟩, ?_, ?_⟩
   · rcases List.mem_append.1 hx with hx | hx
     · exact h.mem x hx
     · rw [List.mem_singleton] at hx; subst hx; exact hk
   · show -1 ≤ v ∧ v + (negs (out.set k.toNat (atI out q + 1)) : Int) ≤ N
     rcases List.mem_or_eq_of_mem_set hv with hv | rfl
     · have := h.val v hv; omega
     · omega
   · show negs (out.set k.toNat (atI out q + 1)) + (qu ++ [k]).length = _
     simp; omega
   · show negs (out.set k.toNat (atI out q + 1)) ≤ _
     omega
 · exact ⟨h, rfl, Nat.le_refl _⟩
theorem BfsI.relax {N : Nat} {q : Int} (hq : 0 ≤ q ∧ q < N) : ∀ {l : List Int} {st : List Int × List Int}, BfsI N st.1 st.2 → (∀ k ∈ l, 0 ≤ k ∧ k < N) → BfsI N (relax q l st).1 (relax q l st).2 ∧ negs (Go.Q.relax q l st).1 + (Go.Q.relax q l st).2.length = negs st.1 + st.2.length ∧ negs (Go.Q.relax q l st).1 ≤ negs st.1
 | [], st, h, _ => ⟨h, rfl, Nat.le_refl _⟩
 | k :: l, st, h, hl => by
  have e : Go.Q.relax q (k :: l) st = Go.Q.relax q l (Go.Q.rlx q st k) := rfl
  have h1 : BfsI N (Go.Q.rlx q st k).1 (Go.Q.rlx q st k).2 ∧ negs (Go.Q.rlx q st k).1 + (Go.Q.rlx q st k).2.length = negs st.1 + st.2.length ∧ negs (Go.Q.rlx q st k).1 ≤ negs st.1 := h.rlx (k := k) hq (hl k (by simp))
  obtain ⟨h1, h2, h3⟩ := h1
  obtain ⟨g1, g2, g3⟩ := BfsI.relax hq (l := l) h1 fun k hk => hl k (by simp [hk])
  rw [e]
  exact ⟨g1, by omega, by omega⟩
theorem BfsI.tail {N : Nat} {out qu : List Int} {q : Int} (h : BfsI N out (q :: qu)) : BfsI N out qu := ⟨h.len, fun x hx => h.mem x (by simp [hx]), h.val⟩
def zeroAll (from_ : List Int) (out : List Int) : List Int := from_.foldl (fun out i => out.set i.toNat 0) out
def spreadOf (nx : Nat → List Int) (N : Nat) (from_ : List Int) : List Int := bfs nx (2 * N + from_.length + 1) (zeroAll from_ (List.replicate N (-1))) from_
theorem zeroAll_len : ∀ (l out : List Int), (zeroAll l out).length = out.length
 | [], _ => rfl
 | k :: l, out => (zeroAll_len l _).trans (by simp)
theorem bfs_nil {nx : Nat → List Int} {f : Nat} {out : List Int} (h : 0 < f) : bfs nx f out [] = out := by
 match f, h with
 | f + 1, _ => rfl
theorem rlx_pre (q : Int) (out pre r : List Int) (k : Int) : rlx q (out, pre ++ r) k = ((rlx q (out, r) k).1, pre ++ (rlx q (out, r) k).2) := by
 unfold rlx; dsimp only
 split <;> simp
theorem relax_pre (q : Int) : ∀ (l out pre r : List Int), relax q l (out, pre ++ r) = ((relax q l (out, r)).1, pre ++ (relax q l (out, r)).2)
 | [], _, _, _ => rfl
 | k :: l, out, pre, r => by
  have e : ∀ st, relax q (k :: l) st = relax q l (rlx q st k) := fun _ => rfl
  rw [e, e, rlx_pre, relax_pre q l]
def BfsAt (nx : Nat → List Int) (res out qu : List Int) (i : Nat) : Prop := ∃ f, negs out + (qu.length - i) < f ∧ bfs nx f out (qu.drop i) = res
theorem BfsAt.next {nx : Nat → List Int} {N : Nat} {res out qu : List Int} {i : Nat} {q : Int} (h : BfsAt nx res out qu i) (hI : BfsI N out qu) (hq : qu[i]? = some q) (hn : ∀ k ∈ nx q.toNat, 0 ≤ k ∧ k < N) : BfsAt nx res (relax q (nx q.toNat) (out, qu)).1 (relax q (nx q.toNat) (out, qu)).2 (i + 1) := by
 obtain ⟨f, hf, e⟩ := h
 have hil := (List.getElem?_eq_some_iff.1 hq).1
 have hd : qu.drop i = q :: qu.drop (i + 1) := by
  rw [List.drop_eq_getElem_cons hil, (List.getElem?_eq_some_iff.1 hq).2]
 obtain ⟨f', rfl⟩ : ∃ f', f = f' + 1 := ⟨f - 1, by omega⟩
 rw [hd, bfs] at e
 have hr := BfsI.relax (N := N) (hI.mem q (List.mem_of_getElem? hq)) (l := nx q.toNat) (st := (out, qu)) hI hn
 have e2 : qu = qu.take (i + 1) ++ qu.drop (i + 1) := (List.take_append_drop _ _).symm
 have e3 := relax_pre q (nx q.toNat) out (qu.take (i + 1)) (qu.drop (i + 1))
 rw [← e2] at e3
 refine ⟨f', ?_, ?_⟩
 · have h1 := hr.2.1
   have h2 : i + 1 ≤ (relax q (nx q.toNat) (out, qu)).2.length := by rw [e3]; simp; omega
   dsimp only at h1
   omega
 · rw [e3]
   dsimp only
   rw [List.drop_left' (by rw [List.length_take]; omega)]
   exact e
theorem BfsAt.done {nx : Nat → List Int} {res out qu : List Int} {i : Nat} (h : BfsAt nx res out qu i) (hi : qu.length ≤ i) : out = res := by
 obtain ⟨f, hf, e⟩ := h
 rw [List.drop_eq_nil_of_le hi, bfs_nil (by omega)] at e
 exact e
theorem BfsAt.start {nx : Nat → List Int} {N : Nat} {l : List Int} : BfsAt nx (spreadOf nx N l) (zeroAll l (List.replicate N (-1))) l 0 := by
 refine ⟨2 * N + l.length + 1, ?_, rfl⟩
 have := negs_le (zeroAll l (List.replicate N (-1)))
 rw [zeroAll_len] at this
 simp at this
 omega
end Go.Q
namespace Go.Proofs.YtbkhopfpejhnlaaGreatDoor
open Go.RowKit Go.Q Go.D
end Go.Proofs.YtbkhopfpejhnlaaGreatDoor
namespace Go.Q
open Go.RowKit
section
variable {P : Program} {ops : Array Oper} {o : Oper} {σ : St} {q : Bool}
theorem R_conv {t t' : TypeId} {x : Operand} {k0 k : IntKind} {n m : Int} (ho : o.op = .convert t t' x) (hg : Grd ops o σ q) (hd : o.dst.all (fun d => Nat.blt d σ.n) = true) (hx : Get σ q x (.one (.t (.v (.int k0 n))))) (hu0 : (P.underlying t).isSome = true) (hu : P.underlying t' = some (.int k)) (hm : q = true → k.wrap n = m) :
 Op1 P ops o σ (σ.put o.dst (q, .a (.one (.t (.v (.int k m)))))) :=
 .val hg hd fun I w0 a w hr hq => by
  have hv := hx.int hr hq
  obtain ⟨u0, hu0⟩ := Option.isSome_iff_exists.1 hu0
  exact ⟨_, by simp [execOp, ho, hv, Go.convert, run_underlying hu0, run_underlying hu, Conv.intToInt, hm hq], VS_v _⟩
end
end Go.Q
namespace Go.Q
open Go.RowKit
section
variable {P : Program} {ops : Array Oper} {o : Oper} {σ : St} {q : Bool}
end
end Go.Q
set_option maxHeartbeats 1000000
set_option maxRecDepth 100000
namespace Go.Q
open Go.D
end Go.Q
namespace Go.Proofs.YtbkhopfpejhnlaaGreatDoor
open Go.RowKit Go.Q Go.D
end Go.Proofs.YtbkhopfpejhnlaaGreatDoor
set_option maxHeartbeats 1000000
set_option maxRecDepth 100000
namespace Go.Q
open Go.D
end Go.Q
namespace Go.Proofs.YtbkhopfpejhnlaaGreatDoor
open Go.RowKit Go.Q Go.D
end Go.Proofs.YtbkhopfpejhnlaaGreatDoor
set_option maxHeartbeats 1000000
set_option maxRecDepth 100000
namespace Go.Q
open Go.D
def sup1 (R : List Int) (i : Nat) (S : List Int) (k : Int) : List Int := if 0 ≤ atI R i ∧ atI R k = atI R i + 1 then S.set k.toNat (atI S k + 1) else S
def supRow (R : List Int) (i : Nat) (S : List Int) (l : List Int) : List Int := l.foldl (sup1 R i) S
def supAll (nx : Nat → List Int) (R : List Int) (S : List Int) : Nat → List Int
 | 0 => S
 | n + 1 => supRow R n (supAll nx R S n) (nx n)
structure SupI (N : Nat) (b : Int) (S : List Int) : Prop where
 len : S.length = N
 val : ∀ v ∈ S, 0 ≤ v ∧ v ≤ b
theorem SupI.le {N : Nat} {b b' : Int} {S : List Int} (h : SupI N b S) (hb : b ≤ b') : SupI N b' S := ⟨h.len, fun v hv => by have := h.val v hv; omega⟩
theorem SupI.at {N : Nat} {b : Int} {S : List Int} (h : SupI N b S) {k : Int} (hk : k.toNat < N) : 0 ≤ atI S k ∧ atI S k ≤ b := h.val _ (List.mem_of_getElem? (atI_get (by rw [h.len]; exact hk)))
theorem SupI.one {N : Nat} {b : Int} {R S : List Int} {i : Nat} {k : Int} (h : SupI N b S) (hk : 0 ≤ k ∧ k < N) : SupI N (b + 1) (sup1 R i S k) := by
 unfold sup1
 split
 · refine ⟨by simpa using h.len, fun v hv => ?_⟩
   rcases List.mem_or_eq_of_mem_set hv with hv | rfl
   · have := h.val v hv; omega
   · have := h.at (k := k) (by omega); omega
 · exact h.le (by omega)
theorem SupI.row {N : Nat} {R : List Int} {i : Nat} : ∀ {l : List Int} {b : Int} {S : List Int}, SupI N b S → (∀ k ∈ l, 0 ≤ k ∧ k < N) → SupI N (b + l.length) (supRow R i S l)
 | [], b, S, h, _ => by simpa [supRow] using h
 | k :: l, b, S, h, hl => by
  have e : supRow R i S (k :: l) = supRow R i (sup1 R i S k) l := rfl
  rw [e]
  exact (SupI.row (h.one (hl k (by simp))) fun k hk => hl k (by simp [hk])).le (by simp; omega)
theorem SupI.all {nx : Nat → List Int} {N c : Nat} {R : List Int} (hn : ∀ p, p < N → ∀ k ∈ nx p, 0 ≤ k ∧ k < N) (hc : ∀ p, p < N → (nx p).length ≤ c) : ∀ {n : Nat}, n ≤ N → SupI N ((n * c : Nat) : Int) (supAll nx R (List.replicate N 0) n)
 | 0, _ => ⟨by simp [supAll], fun v hv => by rw [(List.mem_replicate.1 hv).2]; simp⟩
 | n + 1, h => by
  rw [supAll, Nat.succ_mul]
  refine (SupI.row (SupI.all hn hc (n := n) (by omega)) (hn n (by omega))).le ?_
  have := hc n (by omega)
  omega
end Go.Q
namespace Go.Proofs.YtbkhopfpejhnlaaGreatDoor
open Go.RowKit Go.Q Go.D
end Go.Proofs.YtbkhopfpejhnlaaGreatDoor
set_option maxHeartbeats 1000000
set_option maxRecDepth 100000
namespace Go.Q
open Go.D
end Go.Q
namespace Go.Proofs.YtbkhopfpejhnlaaGreatDoor
open Go.RowKit Go.Q Go.D
end Go.Proofs.YtbkhopfpejhnlaaGreatDoor
