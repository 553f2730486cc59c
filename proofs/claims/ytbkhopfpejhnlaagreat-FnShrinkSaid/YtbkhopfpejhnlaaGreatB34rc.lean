import Derived.Test.YtbkhopfpejhnlaaGreatAbsKrc
import Derived.Test.YtbkhopfpejhnlaaGreatB17rc
import Derived.Laws.Cover3
import Derived.Shelf.Bits.Mul64
import Derived.Shelf.Abstract
import Derived.Ground.NamesProg
import Derived.Test.YtbkhopfpejhnlaaGreatB47rc
set_option linter.unusedVariables false
set_option linter.unusedSimpArgs false
namespace Go.Q
open Go.RowKit
section
variable {P : Program}
theorem Op1.le {ops : Array Oper} {o : Oper} {σ σ' σ2 : St} (h : Op1 P ops o σ σ2) (hs : Sup σ' σ2) : Op1 P ops o σ σ' := fun w0 a w hr K Q' hK => h w0 a w hr K Q' fun a' w' hr' => hK a' w' (Rel.of_look hr' hs.n.symm (fun t x h => hs.slots t x h) (fun t x h => hs.res t x h))
def FinS (P : Program) (w0 : Base) (Q : Exit → St → Prop) (M e : Nat) (B : Nat → List Nat) (l : List Oper) (n : Nat) (sl : List (Nat × (Bool × S))) (rs : List (Nat × R)) (outs : List Out) : Prop :=
 delS (outs.map (·.1)) sl = sl ∧ outB B ⟨n, sl, rs⟩ outs = true ∧ ∃ σA σ1 σF, (∀ o, l[M]? = some o → Op1 P l.toArray o (stL (fun _ => true) 0 outs ⟨n, sl, rs⟩) σA) ∧ (∀ o, l[M]? = some o → Op1 P l.toArray o (stL (fun j => !(Nat.beq j e)) 0 outs ⟨n, sl, rs⟩) σ1) ∧
 (∀ o, l[e]? = some o → Op1 P l.toArray o σ1 σF) ∧ Sup σF σA ∧ AWl P w0 l.toArray Q (l.drop (M + 1)) σF
theorem FinS.mk {w0 : Base} {Q : Exit → St → Prop} {M e : Nat} {B : Nat → List Nat} {l : List Oper} {n : Nat} {sl : List (Nat × (Bool × S))} {rs : List (Nat × R)} {outs : List Out} {oM oE : Oper} {σA σ1 σE : St} (σF : St) (hd : delS (outs.map (·.1)) sl = sl) (hU : outB B ⟨n, sl, rs⟩ outs = true) (hM : l[M]? = some oM) (hE : l[e]? = some oE)
 (hA : Op1 P l.toArray oM (stL (fun _ => true) 0 outs ⟨n, sl, rs⟩) σA) (h1 : Op1 P l.toArray oM (stL (fun j => !(Nat.beq j e)) 0 outs ⟨n, sl, rs⟩) σ1) (hEE : Op1 P l.toArray oE σ1 σE) (hF : Sup σF σA) (hF2 : Sup σF σE) (hfin : AWl P w0 l.toArray Q (l.drop (M + 1)) σF) : FinS P w0 Q M e B l n sl rs outs :=
 ⟨hd, hU, σA, σ1, σF, fun o h => by rw [hM] at h; cases h; exact hA, fun o h => by rw [hM] at h; cases h; exact h1, fun o h => by rw [hE] at h; cases h; exact hEE.le hF2, hF, hfin⟩
theorem LocK.ofs1 {ops : Array Oper} {o : Oper} {σ : St} {d id : Nat} {r : R} {x : Bool × S} (hd : o.dst = some d) (h : ∀ σ', Sup σ σ' → (∀ z ∈ [(id, r)], σ'.has z.1 = false) → Op1 P ops o σ' ((σ'.adds [(id, r)]).put o.dst x)) : LocK P ops o σ ⟨d, x, some (id, r), false, []⟩ :=
 LocK.of1 hd fun σ' hs hf => h σ' hs fun z hz => by rw [List.mem_singleton] at hz; subst hz; exact hf
end
end Go.Q
namespace Go.Q
open Go.RowKit
section
variable {P : Program}
def EndQ (σt : St) : Exit → St → Prop
 | .normal, σ => Le σ σt
 | _, _ => False
theorem EndQ.run {ops : Array Oper} {o : Oper} {σ σt : St} (h : ∀ w0, AWl P w0 ops (EndQ σt) [o] σ) {w0 : Base} {a : Act} {w : World} (hr : Rel w0 σ a w) (K : Act → World → Prop) (Q : Exit → Act → World → Prop) (hK : ∀ a' w', Rel w0 σt a' w' → K a' w') :
 if Region.wanted o (yielded ops a.tmps) then o.wp P a w K Q else K (a.put o.dst undef) w := by
 have h1 := h w0 a w hr
 unfold wpList at h1
 have hN : ∀ a' w', wpList P ops (lift w0 (EndQ σt)) [] a' w' → K a' w' := fun a' w' h => by
  obtain ⟨σ', h2, h3⟩ := h
  exact hK a' w' (h2 w0 a' w' h3)
 have hF : ∀ e a' w', e ≠ Exit.normal → lift w0 (EndQ σt) e a' w' → False := fun e a' w' he h => by
  obtain ⟨σ', h2, h3⟩ := h
  cases e <;> first | exact he rfl | exact h2
 have hL : LetsOut (lift w0 (EndQ σt)) → False := fun ⟨a', w', h⟩ => hF _ a' w' (by simp) h
 split
 · rename_i hw
   rw [if_pos hw] at h1
   rcases h1 with h1 | ⟨_, h1⟩
   · unfold Oper.wp at *
     generalize (execOp a.eval o).run P w = r at *
     cases r with
     | ok n w' =>
      cases n <;> simp only [Oper.upon] at h1 ⊢ <;>
       first
        | exact hN _ _ h1
        | exact Calls.mono h1 (fun e w'' he => by cases e <;> first | exact hN _ _ he | exact (hL he).elim | exact (hF _ _ _ (by simp) he).elim)
        | exact Rows.mono h1 (fun _ _ he => hN _ _ he)
     | halt x w' => cases x <;> simp only [Oper.upon] at h1 ⊢ <;> first | exact h1.elim | exact (hF _ _ _ (by simp) h1).elim
   · exact (hL h1).elim
 · rename_i hw
   rw [if_neg hw] at h1
   exact hN _ _ h1
def dagB (l : List Oper) (N : Nat) (ms : List (List Nat)) (es : List (Nat × Nat × Nat)) (k : Nat) : Bool :=
 (List.range ms.length).all (fun a => match ms[a]? with
  | none => false
  | some m => ((List.range N).all (fun i => memN m i || (match l[i]? with
   | none => false
   | some o => !((deps o).all (memN m)) || es.any (fun e => Nat.beq e.1 a && Nat.beq e.2.1 i && (match ms[e.2.2]? with
    | none => false
    | some m' => (List.range N).all fun j => memN m' j == (Nat.beq j i || memN m j)))))) &&
   (Nat.beq a k || (List.range N).any (fun i => !(memN m i)))) &&
 (match ms with | [] :: _ => true | _ => false)
theorem AW.dag {w0 : Base} {Q : Exit → St → Prop} {σ : St} {id : Nat} {l : List Oper} (N k : Nat) (ms : List (List Nat)) (es : List (Nat × Nat × Nat)) (st : Nat → St) (hm : P.follows .mixedOrders = true) (hB : planC l.toArray N = true) (hP : dagB l N ms es k = true)
 (hes : ∀ e ∈ es, ∀ o, l[e.2.1]? = some o → ∀ w0, AWl P w0 l.toArray (EndQ (st e.2.2)) [o] (st e.1)) (hσ : Le σ (st 0)) (hfin : AWl P w0 l.toArray Q (l.drop N) (st k)) : AW P w0 (.region id l.toArray true) Q σ := by
 intro a w hr
 refine wp_region_any hm ?_
 simp only [dagB, Bool.and_eq_true] at hP
 obtain ⟨hP, hms⟩ := hP
 have hms0 : ms[0]? = some [] := by
  match ms, hms with
  | [] :: _, _ => rfl
 have hlN : N ≤ l.length := by
  have hB' := hB
  simp only [planC, Bool.and_eq_true, decide_eq_true_eq] at hB'
  simpa using hB'.1.1.1
 have hdep : ∀ i o, i < N → l[i]? = some o → ∀ j ∈ deps o, j < N := fun i o hi ho j hj => by
  have hB' := hB
  simp only [planC, Bool.and_eq_true, decide_eq_true_eq] at hB'
  have := List.all_eq_true.1 hB'.1.1.2 i (List.mem_range.2 hi)
  have ho' : l.toArray[i]? = some o := by simpa using ho
  rw [ho'] at this
  have := List.all_eq_true.1 this j hj
  simp only [decide_eq_true_eq] at this
  omega
 have hat : ∀ (b : Nat) (m : List Nat), ms[b]? = some m → ((∀ i, i < N → memN m i = false → ∀ o, l[i]? = some o → (∀ j ∈ deps o, memN m j = true) → ∃ e ∈ es, e.1 = b ∧ e.2.1 = i ∧ ∃ m', ms[e.2.2]? = some m' ∧ ∀ j, j < N → memN m' j = (Nat.beq j i || memN m j)) ∧ ((∀ i, i < N → memN m i = true) → b = k)) := by
  intro b m hb
  have := List.all_eq_true.1 hP b (List.mem_range.2 (List.getElem?_eq_some_iff.1 hb).1)
  rw [hb] at this
  simp only [Bool.and_eq_true] at this
  refine ⟨fun i hi hu o ho hd => ?_, fun hall => ?_⟩
  · have := List.all_eq_true.1 this.1 i (List.mem_range.2 hi)
    rw [hu, Bool.false_or, ho] at this
    simp only [Bool.or_eq_true, Bool.not_eq_true'] at this
    rcases this with h | h
    · rw [List.all_eq_true.2 hd] at h; cases h
    · obtain ⟨e, he, h⟩ := List.any_eq_true.1 h
      simp only [Bool.and_eq_true] at h
      obtain ⟨⟨h1, h2⟩, h3⟩ := h
      refine ⟨e, he, Nat.eq_of_beq_eq_true h1, Nat.eq_of_beq_eq_true h2, ?_⟩
      split at h3
      · cases h3
      · rename_i m' hm'
        exact ⟨m', hm', fun j hj => by simpa using List.all_eq_true.1 h3 j (List.mem_range.2 hj)⟩
  · have h2 := this.2
    simp only [Bool.or_eq_true] at h2
    rcases h2 with h | h
    · exact Nat.eq_of_beq_eq_true h
    · obtain ⟨i, hi, h⟩ := List.any_eq_true.1 h
      rw [hall i (List.mem_range.1 hi)] at h; cases h
 have H := wpAny_inv (P := P) (Q := lift w0 Q) (J := fun listed a w => ∃ b m, ms[b]? = some m ∧ (∀ j, j < N → memN m j = listed.getD j false) ∧ Rel w0 (st b) a w) hB (fun i o hi ho listed a w inv hd hu hJ => ?_) (fun listed a w hall hJ => ?_)
  (unl N (Array.replicate l.toArray.size false)) (Array.replicate l.toArray.size false) a { w with drawn := w.drawn + 1 } rfl
  ⟨by simp, fun j oj _ hl => (by rw [getD_replicate_false] at hl; cases hl), fun t _ ht => getD_in (by simpa using ht) (getD_replicate_false _ _)⟩ ?_
 · have hu : unl N (Array.replicate l.toArray.size false) = N := by
    unfold unl
    rw [List.countP_eq_length.2 (fun j _ => by rw [getD_replicate_false]; rfl), List.length_range]
   rw [hu, show N + (l.toArray.size - N) = l.toArray.size by simp; omega] at H
   exact H
 · obtain ⟨b, m, hb, hmj, hr⟩ := hJ
   have ho0 : l[i]? = some o := by simpa using ho
   obtain ⟨e, he, rfl, rfl, m', hm', hj'⟩ := (hat b m hb).1 i hi (by rw [hmj i hi]; exact hu) o ho0 fun j hj => by rw [hmj j (hdep i o hi ho0 j hj)]; exact hd j hj
   intro K Q' hK
   refine EndQ.run (hes e he o ho0) hr K Q' fun a' w' hr' => hK a' w' ⟨e.2.2, m', hm', fun j hj => ?_, hr'⟩
   rw [hj' j hj, hmj j hj]
   by_cases ej : j = e.2.1
   · subst ej
     have : e.2.1 < listed.size := by rw [inv.size]; simp; omega
     simp [this, Nat.beq_refl]
   · rw [beq_false ej, Bool.false_or, getD_set_ne false (fun h => ej h.symm)]
 · obtain ⟨b, m, hb, hmj, hr⟩ := hJ
   have := (hat b m hb).2 fun i hi => by rw [hmj i hi]; exact hall i hi
   subst this
   exact hfin a w hr
 · refine ⟨0, [], hms0, fun j _ => by rw [getD_replicate_false]; rfl, ?_⟩
   obtain ⟨I, hI⟩ := hσ w0 a w hr
   exact ⟨I, hI.later (Ext.refl w).drawn⟩
structure Dag (P : Program) (l : List Oper) (acc : List (Nat × St)) (es : List (Nat × Nat × Nat)) (Fin : (Nat → St) → Prop) : Prop where
 pf : ∃ st : Nat → St, (∀ k σ, look acc k = some σ → st k = σ) ∧ (∀ e ∈ es, ∀ o, l[e.2.1]? = some o → ∀ w0, AWl P w0 l.toArray (EndQ (st e.2.2)) [o] (st e.1)) ∧ Fin st
variable {l : List Oper} {acc : List (Nat × St)} {es : List (Nat × Nat × Nat)} {Fin : (Nat → St) → Prop}
theorem Dag.new {a i b : Nat} {σ σ' : St} {o : Oper} (ha : look acc a = some σ) (ho : l[i]? = some o) (hb : look acc b = none) (hE : ∀ w0, AWl P w0 l.toArray (EndQ σ') [o] σ) (h : Dag P l ((b, σ') :: acc) es Fin) : Dag P l acc ((a, i, b) :: es) Fin := by
 obtain ⟨st, h1, h2, h3⟩ := h.pf
 have hne : b ≠ a := fun e => by subst e; rw [hb] at ha; cases ha
 have h1' : ∀ k σ, look acc k = some σ → st k = σ := fun k σ hk => h1 k σ (by
  rw [look_cons, if_neg (fun e => ?_)]
  · exact hk
  · subst e; rw [hb] at hk; cases hk)
 refine ⟨st, h1', fun e he o' ho' w0 => ?_, h3⟩
 rcases List.mem_cons.1 he with rfl | he
 · simp only at ho' ⊢
   rw [ho] at ho'; cases ho'
   rw [h1' a σ ha, h1 b σ' (by rw [look_cons, if_pos rfl])]
   exact hE w0
 · exact h2 e he o' ho' w0
theorem Dag.old {a i b : Nat} {σ σ' : St} {o : Oper} (ha : look acc a = some σ) (ho : l[i]? = some o) (hb : look acc b = some σ') (hE : ∀ w0, AWl P w0 l.toArray (EndQ σ') [o] σ) (h : Dag P l acc es Fin) : Dag P l acc ((a, i, b) :: es) Fin := by
 obtain ⟨st, h1, h2, h3⟩ := h.pf
 refine ⟨st, h1, fun e he o' ho' w0 => ?_, h3⟩
 rcases List.mem_cons.1 he with rfl | he
 · simp only at ho' ⊢
   rw [ho] at ho'; cases ho'
   rw [h1 a σ ha, h1 b σ' hb]
   exact hE w0
 · exact h2 e he o' ho' w0
theorem Dag.fin {w0 : Base} {Q : Exit → St → Prop} {N k : Nat} {σ : St} (hk : look acc k = some σ) (h : AWl P w0 l.toArray Q (l.drop N) σ) : Dag P l acc [] (fun st => AWl P w0 l.toArray Q (l.drop N) (st k)) :=
 ⟨fun i => (look acc i).getD ⟨0, [], []⟩, fun i σ' hi => by simp [hi], fun e he => (by cases he), by simpa [hk] using h⟩
theorem AW.dagn {w0 : Base} {Q : Exit → St → Prop} {σ : St} {id : Nat} (N k : Nat) (ms : List (List Nat)) (es : List (Nat × Nat × Nat)) (hm : P.follows .mixedOrders = true) (hB : planC l.toArray N = true) (hP : dagB l N ms es k = true)
 (h : Dag P l [(0, σ)] es (fun st => AWl P w0 l.toArray Q (l.drop N) (st k))) : AW P w0 (.region id l.toArray true) Q σ := by
 obtain ⟨st, h1, h2, h3⟩ := h.pf
 exact AW.dag N k ms es st hm hB hP h2 (by rw [h1 0 σ U]; exact Le.refl _) h3
end
end Go.Q
set_option maxHeartbeats 1000000
set_option maxRecDepth 100000
namespace Go.Q
open Go.D
end Go.Q
namespace Go.Proofs.YtbkhopfpejhnlaaGreat
open Go.RowKit Go.Q Go.D
end Go.Proofs.YtbkhopfpejhnlaaGreat
set_option maxHeartbeats 1000000
set_option maxRecDepth 100000
namespace Go.Q
open Go.D
def negs (out : List Int) : Nat := (out.filter fun x => decide (x < 0)).length
theorem negs_cons (x : Int) (l : List Int) : negs (x :: l) = (if x < 0 then 1 else 0) + negs l := by
 unfold negs
 rw [List.filter_cons]
 split <;> simp_all <;> omega
theorem negs_set {v : Int} (hv : 0 ≤ v) : ∀ {out : List Int} {k : Nat} {x : Int}, out[k]? = some x → x < 0 → negs (out.set k v) + 1 = negs out
 | [], _, _, h, _ => by simp at h
 | y :: l, 0, x, h, hx => by
  simp at h
  subst h
  rw [List.set_cons_zero, negs_cons, negs_cons, if_neg (by omega), if_pos hx]
  omega
 | y :: l, k + 1, x, h, hx => by
  rw [List.set_cons_succ, negs_cons, negs_cons]
  have := negs_set hv (out := l) (k := k) (by simpa using h) hx
  omega
theorem negs_le (out : List Int) : negs out ≤ out.length := List.length_filter_le _ _
def atI (out : List Int) (k : Int) : Int := out[k.toNat]?.getD 0
theorem atI_get {out : List Int} {k : Int} (h : k.toNat < out.length) : out[k.toNat]? = some (atI out k) := by
 unfold atI; rw [List.getElem?_eq_getElem h]; rfl
def rlx (q : Int) (st : List Int × List Int) (k : Int) : List Int × List Int := if atI st.1 k < 0 then (st.1.set k.toNat (atI st.1 q + 1), st.2 ++ [k]) else st
def relax (q : Int) (l : List Int) (st : List Int × List Int) : List Int × List Int := l.foldl (rlx q) st
def bfs (nx : Nat → List Int) : Nat → List Int → List Int → List Int
 | 0, out, _ => out
 | _ + 1, out, [] => out
 | f + 1, out, q :: r => bfs nx f (relax q (nx q.toNat) (out, r)).1 (relax q (nx q.toNat) (out, r)).2
structure BfsI (N : Nat) (out qu : List Int) : Prop where
 len : out.length = N
 mem : ∀ q ∈ qu, 0 ≤ q ∧ q < N
 val : ∀ v ∈ out, -1 ≤ v ∧ v + negs out ≤ N
theorem BfsI.rlx {N : Nat} {out qu : List Int} {q k : Int} (h : BfsI N out qu) (hq : 0 ≤ q ∧ q < N) (hk : 0 ≤ k ∧ k < N) : BfsI N (rlx q (out, qu) k).1 (rlx q (out, qu) k).2 ∧ negs (Go.Q.rlx q (out, qu) k).1 + (Go.Q.rlx q (out, qu) k).2.length = negs out + qu.length ∧ negs (Go.Q.rlx q (out, qu) k).1 ≤ negs out := by
 unfold Go.Q.rlx
 dsimp only
 split
 · rename_i hneg
   have hkl : k.toNat < out.length := by rw [h.len]; omega
   have hql : q.toNat < out.length := by rw [h.len]; omega
   have hvq := h.val _ (List.mem_of_getElem? (atI_get hql))
   have hn := negs_set (v := atI out q + 1) (by omega) (atI_get hkl) hneg
   refine ⟨⟨by simpa using h.len, fun x hx => ?_, fun v hv => ?_⟩, ?_, ?_⟩
   · rcases List.mem_append.1 hx with hx | hx
     · exact h.mem x hx
     · rw [List.mem_singleton] at hx; subst hx; exact hk
   · show -1 ≤ v ∧ v + (negs (out.set k.toNat (atI out q + 1)) : Int) ≤ N
     rcases List.mem_or_eq_of_mem_set hv with hv | rfl
     · have := h.val v hv; omega
     · omega
   · show negs (out.set k.toNat (atI out q + 1)) + (qu ++ [k]).length = _
     simp; omega
   · show negs (out.set k.toNat (atI out q + 1)) ≤ _
     omega
 · exact ⟨h, rfl, Nat.le_refl _⟩
theorem BfsI.relax {N : Nat} {q : Int} (hq : 0 ≤ q ∧ q < N) : ∀ {l : List Int} {st : List Int × List Int}, BfsI N st.1 st.2 → (∀ k ∈ l, 0 ≤ k ∧ k < N) → BfsI N (relax q l st).1 (relax q l st).2 ∧ negs (Go.Q.relax q l st).1 + (Go.Q.relax q l st).2.length = negs st.1 + st.2.length ∧ negs (Go.Q.relax q l st).1 ≤ negs st.1
 | [], st, h, _ => ⟨h, rfl, Nat.le_refl _⟩
 | k :: l, st, h, hl => by
  have e : Go.Q.relax q (k :: l) st = Go.Q.relax q l (Go.Q.rlx q st k) := rfl
  have h1 : BfsI N (Go.Q.rlx q st k).1 (Go.Q.rlx q st k).2 ∧ negs (Go.Q.rlx q st k).1 + (Go.Q.rlx q st k).2.length = negs st.1 + st.2.length ∧ negs (Go.Q.rlx q st k).1 ≤ negs st.1 := h.rlx (k := k) hq (hl k (by simp))
  obtain ⟨h1, h2, h3⟩ := h1
  obtain ⟨g1, g2, g3⟩ := BfsI.relax hq (l := l) h1 fun k hk => hl k (by simp [hk])
  rw [e]
  exact ⟨g1, by omega, by omega⟩
theorem BfsI.tail {N : Nat} {out qu : List Int} {q : Int} (h : BfsI N out (q :: qu)) : BfsI N out qu := ⟨h.len, fun x hx => h.mem x (by simp [hx]), h.val⟩
def zeroAll (from_ : List Int) (out : List Int) : List Int := from_.foldl (fun out i => out.set i.toNat 0) out
def spreadOf (nx : Nat → List Int) (N : Nat) (from_ : List Int) : List Int := bfs nx (2 * N + from_.length + 1) (zeroAll from_ (List.replicate N (-1))) from_
theorem zeroAll_len : ∀ (l out : List Int), (zeroAll l out).length = out.length
 | [], _ => rfl
 | k :: l, out => (zeroAll_len l _).trans (by simp)
theorem bfs_nil {nx : Nat → List Int} {f : Nat} {out : List Int} (h : 0 < f) : bfs nx f out [] = out := by
 match f, h with
 | f + 1, _ => rfl
theorem rlx_pre (q : Int) (out pre r : List Int) (k : Int) : rlx q (out, pre ++ r) k = ((rlx q (out, r) k).1, pre ++ (rlx q (out, r) k).2) := by
 unfold rlx; dsimp only
 split <;> simp
theorem relax_pre (q : Int) : ∀ (l out pre r : List Int), relax q l (out, pre ++ r) = ((relax q l (out, r)).1, pre ++ (relax q l (out, r)).2)
 | [], _, _, _ => rfl
 | k :: l, out, pre, r => by
  have e : ∀ st, relax q (k :: l) st = relax q l (rlx q st k) := fun _ => rfl
  rw [e, e, rlx_pre, relax_pre q l]
def BfsAt (nx : Nat → List Int) (res out qu : List Int) (i : Nat) : Prop := ∃ f, negs out + (qu.length - i) < f ∧ bfs nx f out (qu.drop i) = res
theorem BfsAt.next {nx : Nat → List Int} {N : Nat} {res out qu : List Int} {i : Nat} {q : Int} (h : BfsAt nx res out qu i) (hI : BfsI N out qu) (hq : qu[i]? = some q) (hn : ∀ k ∈ nx q.toNat, 0 ≤ k ∧ k < N) : BfsAt nx res (relax q (nx q.toNat) (out, qu)).1 (relax q (nx q.toNat) (out, qu)).2 (i + 1) := by
 obtain ⟨f, hf, e⟩ := h
 have hil := (List.getElem?_eq_some_iff.1 hq).1
 have hd : qu.drop i = q :: qu.drop (i + 1) := by
  rw [List.drop_eq_getElem_cons hil, (List.getElem?_eq_some_iff.1 hq).2]
 obtain ⟨f', rfl⟩ : ∃ f', f = f' + 1 := ⟨f - 1, by omega⟩
 rw [hd, bfs] at e
 have hr := BfsI.relax (N := N) (hI.mem q (List.mem_of_getElem? hq)) (l := nx q.toNat) (st := (out, qu)) hI hn
 have e2 : qu = qu.take (i + 1) ++ qu.drop (i + 1) := (List.take_append_drop _ _).symm
 have e3 := relax_pre q (nx q.toNat) out (qu.take (i + 1)) (qu.drop (i + 1))
 rw [← e2] at e3
 refine ⟨f', ?_, ?_⟩
 · have h1 := hr.2.1
   have h2 : i + 1 ≤ (relax q (nx q.toNat) (out, qu)).2.length := by rw [e3]; simp; omega
   dsimp only at h1
   omega
 · rw [e3]
   dsimp only
   rw [List.drop_left' (by rw [List.length_take]; omega)]
   exact e
theorem BfsAt.done {nx : Nat → List Int} {res out qu : List Int} {i : Nat} (h : BfsAt nx res out qu i) (hi : qu.length ≤ i) : out = res := by
 obtain ⟨f, hf, e⟩ := h
 rw [List.drop_eq_nil_of_le hi, bfs_nil (by omega)] at e
 exact e
theorem BfsAt.start {nx : Nat → List Int} {N : Nat} {l : List Int} : BfsAt nx (spreadOf nx N l) (zeroAll l (List.replicate N (-1))) l 0 := by
 refine ⟨2 * N + l.length + 1, ?_, rfl⟩
 have := negs_le (zeroAll l (List.replicate N (-1)))
 rw [zeroAll_len] at this
 simp at this
 omega
end Go.Q
namespace Go.Proofs.YtbkhopfpejhnlaaGreat
open Go.RowKit Go.Q Go.D
end Go.Proofs.YtbkhopfpejhnlaaGreat
namespace Go.Q
open Go.RowKit
section
variable {P : Program} {ops : Array Oper} {o : Oper} {σ : St} {q : Bool}
theorem Cs_td {b : Bool} {w : World} : ∀ {ts : List T} {cs : List Value} (n : Nat), Cs b w ts cs [] → Cs b w (ts.take n) (cs.take n) [] ∧ Cs b w (ts.drop n) (cs.drop n) []
 | ts, cs, 0, h => by simpa [Cs] using h
 | [], cs, n + 1, h => by
  simp only [Cs] at h
  obtain ⟨rfl, _⟩ := h
  simp [Cs]
 | t :: ts, cs, n + 1, h => by
  simp only [Cs] at h
  obtain ⟨c, cr, G1, G2, rfl, h2, h3, h4⟩ := h
  obtain ⟨rfl, rfl⟩ := List.append_eq_nil_iff.1 h4.symm
  obtain ⟨g1, g2⟩ := Cs_td n h3
  rw [List.take_succ_cons, List.take_succ_cons, List.drop_succ_cons, List.drop_succ_cons]
  refine ⟨?_, g2⟩
  simp only [Cs]
  exact ⟨c, _, [], [], rfl, h2, g1, rfl⟩
theorem flatten_take_k {α : Type} {k : Nat} : ∀ {rows : List (List α)} (m : Nat), (∀ r ∈ rows, r.length = k) → (rows.take m).flatten = rows.flatten.take (m * k) ∧ (rows.drop m).flatten = rows.flatten.drop (m * k)
 | rows, 0, _ => by simp
 | [], m + 1, _ => by simp
 | r :: rows, m + 1, h => by
  have hr := h r (by simp)
  obtain ⟨g1, g2⟩ := flatten_take_k m fun r' hr' => h r' (List.mem_cons_of_mem r hr')
  rw [List.take_succ_cons, List.drop_succ_cons, List.flatten_cons, List.flatten_cons, g1, g2, Nat.succ_mul]
  constructor
  · rw [List.take_append, hr, List.take_of_length_le (l := r) (by omega)]; congr 2; omega
  · rw [List.drop_append, hr, @List.drop_eq_nil_of_le _ r _ (by omega), List.nil_append]; congr 1; omega
theorem R_conv {t t' : TypeId} {x : Operand} {k0 k : IntKind} {n m : Int} (ho : o.op = .convert t t' x) (hg : Grd ops o σ q) (hd : o.dst.all (fun d => Nat.blt d σ.n) = true) (hx : Get σ q x (.one (.t (.v (.int k0 n))))) (hu0 : (P.underlying t).isSome = true) (hu : P.underlying t' = some (.int k)) (hm : q = true → k.wrap n = m) :
 Op1 P ops o σ (σ.put o.dst (q, .a (.one (.t (.v (.int k m)))))) :=
 .val hg hd fun I w0 a w hr hq => by
  have hv := hx.int hr hq
  obtain ⟨u0, hu0⟩ := Option.isSome_iff_exists.1 hu0
  exact ⟨_, by simp [execOp, ho, hv, Go.convert, run_underlying hu0, run_underlying hu, Conv.intToInt, hm hq], VS_v _⟩
end
end Go.Q
set_option maxHeartbeats 1000000
set_option maxRecDepth 100000
namespace Go.Q
open Go.D
end Go.Q
namespace Go.Proofs.YtbkhopfpejhnlaaGreat
open Go.RowKit Go.Q Go.D
theorem implcopyInts (l : List Int) (hz : l.length ≤ 1073741824) : FnT Tryz.prog 64 [.one (.sl 1 (l.map cInt))] (.a (.one (.sl 1 (l.map cInt)))) := by
 refine FnT.walk Tryz.func64 U (by kernel_rfl) Tryz.ntmps64 U fun hlen w0 => ?_
 try simp [cPair, cToken, cExpr, cEdge, cGraph] at hlen
 refine AW.sr ?_
 refine AWl.ac ?_
 refine AWl.nilS (i := 2) 20001 1 U U ?_
 refine AWl.nil (AW.sr ?_)
 refine AWl.add (R_empty 3 U U U Tryz.underlying24 ty3 U) U ?_
 refine AWl.mv ?_
 refine AWl.chgput (R_append U U U (.tm U) U (.tm U) (by exact .t) (by exact isV_map (fun _ => rfl) _) Tryz.underlying24 in3 U (by (simp [chunk]; omega)) (by (unfold maxLen; simp [chunk]; omega))) U ?_
 refine AWl.le (σ' := ⟨_, [(0, _), (2, _), (5, _)], [(20001, _), (3, _)]⟩) (Le.sub0 U ⟨U, U, U, Y⟩ ⟨U, U, Y⟩) ?_
 refine AWl.av ?_
 refine AWl.nil (AW.ret ?_)
 refine Res.one U (.tmp U .nil) U ?_
 rfl
end Go.Proofs.YtbkhopfpejhnlaaGreat
set_option maxHeartbeats 1000000
set_option maxRecDepth 100000
namespace Go.Q
open Go.D
end Go.Q
namespace Go.Proofs.YtbkhopfpejhnlaaGreat
open Go.RowKit Go.Q Go.D
end Go.Proofs.YtbkhopfpejhnlaaGreat
namespace Go.Q
open Go.RowKit
section
variable {P : Program}
structure MixD (P : Program) (l : List Oper) (n : Nat) (sl : List (Nat × (Bool × S))) (rs : List (Nat × R)) (outs : List Out) (acc : List (Nat × St)) (todo : List (Nat × List Nat)) (es : List (Nat × Nat × Nat)) (Fin : (Nat → St) → Prop) : Prop where
 pf : ∃ st : Nat → St, (∀ k σ, look acc k = some σ → st k = σ) ∧ (∀ p ∈ todo, Le (stL (memN p.2) 0 outs ⟨n, sl, rs⟩) (st p.1)) ∧ (∀ e ∈ es, ∀ o, l[e.2.1]? = some o → ∀ w0, AWl P w0 l.toArray (EndQ (st e.2.2)) [o] (st e.1)) ∧ Fin st
variable {l : List Oper} {n : Nat} {sl : List (Nat × (Bool × S))} {rs : List (Nat × R)} {outs : List Out} {acc : List (Nat × St)} {todo : List (Nat × List Nat)} {es : List (Nat × Nat × Nat)} {Fin : (Nat → St) → Prop}
theorem MixD.add {b : Nat} {S : List Nat} (σ' : St) (hb : look acc b = none) (hle : Le (stL (memN S) 0 outs ⟨n, sl, rs⟩) σ') (h : MixD P l n sl rs outs ((b, σ') :: acc) todo es Fin) : MixD P l n sl rs outs acc ((b, S) :: todo) es Fin := by
 obtain ⟨st, h1, h2, h3⟩ := h.pf
 have h1' : ∀ k σ, look acc k = some σ → st k = σ := fun k σ hk => h1 k σ (by
  rw [look_cons, if_neg (fun e => ?_)]
  · exact hk
  · subst e; rw [hb] at hk; cases hk)
 refine ⟨st, h1', fun p hp => ?_, h3⟩
 rcases List.mem_cons.1 hp with rfl | hp
 · show Le _ (st b)
   rw [h1 b σ' (by rw [look_cons, if_pos rfl])]
   exact hle
 · exact h2 p hp
theorem MixD.go (h : Dag P l acc es Fin) : MixD P l n sl rs outs acc [] es Fin := by
 obtain ⟨st, h1, h2, h3⟩ := h.pf
 exact ⟨st, h1, fun p hp => (by cases hp), h2, h3⟩
def FinX (P : Program) (w0 : Base) (Q : Exit → St → Prop) (N k : Nat) (B : Nat → List Nat) (es : List (Nat × Nat × Nat)) (todo : List (Nat × List Nat)) (l : List Oper) (n : Nat) (sl : List (Nat × (Bool × S))) (rs : List (Nat × R)) (outs : List Out) : Prop :=
 delS (outs.map (·.1)) sl = sl ∧ outB B ⟨n, sl, rs⟩ outs = true ∧ MixD P l n sl rs outs [] todo es (fun st => AWl P w0 l.toArray Q (l.drop N) (st k))
theorem FinX.mk {w0 : Base} {Q : Exit → St → Prop} {N k : Nat} {B : Nat → List Nat} (hd : delS (outs.map (·.1)) sl = sl) (hU : outB B ⟨n, sl, rs⟩ outs = true) (h : MixD P l n sl rs outs [] todo es (fun st => AWl P w0 l.toArray Q (l.drop N) (st k))) : FinX P w0 Q N k B es todo l n sl rs outs := ⟨hd, hU, h⟩
end
end Go.Q
set_option maxHeartbeats 1000000
set_option maxRecDepth 100000
namespace Go.Q
open Go.D
def sup1 (R : List Int) (i : Nat) (S : List Int) (k : Int) : List Int := if 0 ≤ atI R i ∧ atI R k = atI R i + 1 then S.set k.toNat (atI S k + 1) else S
def supRow (R : List Int) (i : Nat) (S : List Int) (l : List Int) : List Int := l.foldl (sup1 R i) S
def supAll (nx : Nat → List Int) (R : List Int) (S : List Int) : Nat → List Int
 | 0 => S
 | n + 1 => supRow R n (supAll nx R S n) (nx n)
structure SupI (N : Nat) (b : Int) (S : List Int) : Prop where
 len : S.length = N
 val : ∀ v ∈ S, 0 ≤ v ∧ v ≤ b
theorem SupI.le {N : Nat} {b b' : Int} {S : List Int} (h : SupI N b S) (hb : b ≤ b') : SupI N b' S := ⟨h.len, fun v hv => by have := h.val v hv; omega⟩
theorem SupI.at {N : Nat} {b : Int} {S : List Int} (h : SupI N b S) {k : Int} (hk : k.toNat < N) : 0 ≤ atI S k ∧ atI S k ≤ b := h.val _ (List.mem_of_getElem? (atI_get (by rw [h.len]; exact hk)))
theorem SupI.one {N : Nat} {b : Int} {R S : List Int} {i : Nat} {k : Int} (h : SupI N b S) (hk : 0 ≤ k ∧ k < N) : SupI N (b + 1) (sup1 R i S k) := by
 unfold sup1
 split
 · refine ⟨by simpa using h.len, fun v hv => ?_⟩
   rcases List.mem_or_eq_of_mem_set hv with hv | rfl
   · have := h.val v hv; omega
   · have := h.at (k := k) (by omega); omega
 · exact h.le (by omega)
theorem SupI.row {N : Nat} {R : List Int} {i : Nat} : ∀ {l : List Int} {b : Int} {S : List Int}, SupI N b S → (∀ k ∈ l, 0 ≤ k ∧ k < N) → SupI N (b + l.length) (supRow R i S l)
 | [], b, S, h, _ => by simpa [supRow] using h
 | k :: l, b, S, h, hl => by
  have e : supRow R i S (k :: l) = supRow R i (sup1 R i S k) l := rfl
  rw [e]
  exact (SupI.row (h.one (hl k (by simp))) fun k hk => hl k (by simp [hk])).le (by simp; omega)
theorem SupI.all {nx : Nat → List Int} {N c : Nat} {R : List Int} (hn : ∀ p, p < N → ∀ k ∈ nx p, 0 ≤ k ∧ k < N) (hc : ∀ p, p < N → (nx p).length ≤ c) : ∀ {n : Nat}, n ≤ N → SupI N ((n * c : Nat) : Int) (supAll nx R (List.replicate N 0) n)
 | 0, _ => ⟨by simp [supAll], fun v hv => by rw [(List.mem_replicate.1 hv).2]; simp⟩
 | n + 1, h => by
  rw [supAll, Nat.succ_mul]
  refine (SupI.row (SupI.all hn hc (n := n) (by omega)) (hn n (by omega))).le ?_
  have := hc n (by omega)
  omega
end Go.Q
namespace Go.Proofs.YtbkhopfpejhnlaaGreat
open Go.RowKit Go.Q Go.D
end Go.Proofs.YtbkhopfpejhnlaaGreat
set_option maxHeartbeats 1000000
set_option maxRecDepth 100000
namespace Go.Q
open Go.D
end Go.Q
namespace Go.Proofs.YtbkhopfpejhnlaaGreat
open Go.RowKit Go.Q Go.D
end Go.Proofs.YtbkhopfpejhnlaaGreat
