import Derived.Test.YtamnfkfjfelbbaaAbsLxw
import Derived.Test.YtamnfkfjfelbbaaB54xw
import Derived.Laws.Cover3
set_option linter.unusedVariables false
set_option linter.unusedSimpArgs false
namespace Go.Q
open Go.RowKit
section
variable {P : Program}
def EndQ (σt : St) : Exit → St → Prop
 | .normal, σ => Le σ σt
 | _, _ => False
theorem EndQ.run {ops : Array Oper} {o : Oper} {σ σt : St} (h : ∀ w0, AWl P w0 ops (EndQ σt) [o] σ) {w0 : Base} {a : Act} {w : World} (hr : Rel w0 σ a w) (K : Act → World → Prop) (Q : Exit → Act → World → Prop) (hK : ∀ a' w', Rel w0 σt a' w' → K a' w') :
 if Region.wanted o (yielded ops a.tmps) then o.wp P a w K Q else K (a.put o.dst undef) w := by
 have h1 := h w0 a w hr
 unfold wpList at h1
 have hN : ∀ a' w', wpList P ops (lift w0 (EndQ σt)) [] a' w' → K a' w' := fun a' w' h => by
  obtain ⟨σ', h2, h3⟩ := h
  exact hK a' w' (h2 w0 a' w' h3)
 have hF : ∀ e a' w', e ≠ Exit.normal → lift w0 (EndQ σt) e a' w' → False := fun e a' w' he h => by
  obtain ⟨σ', h2, h3⟩ := h
  cases e <;> first | exact he rfl | exact h2
 have hL : LetsOut (lift w0 (EndQ σt)) → False := fun ⟨a', w', h⟩ => hF _ a' w' (by simp) h
 split
 · rename_i hw
   rw [if_pos hw] at h1
   rcases h1 with h1 | ⟨_, h1⟩
   · unfold Oper.wp at *
     generalize (execOp a.eval o).run P w = r at *
     cases r with
     | ok n w' =>
      cases n <;> simp only [Oper.upon] at h1 ⊢ <;>
       first
        | exact hN _ _ h1
        | exact Calls.mono h1 (fun e w'' he => by cases e <;> first | exact hN _ _ he | exact (hL he).elim | exact (hF _ _ _ (by simp) he).elim)
        | exact Rows.mono h1 (fun _ _ he => hN _ _ he)
     | halt x w' => cases x <;> simp only [Oper.upon] at h1 ⊢ <;> first | exact h1.elim | exact (hF _ _ _ (by simp) h1).elim
   · exact (hL h1).elim
 · rename_i hw
   rw [if_neg hw] at h1
   exact hN _ _ h1
def dagB (l : List Oper) (N : Nat) (ms : List (List Nat)) (es : List (Nat × Nat × Nat)) (k : Nat) : Bool :=
 (List.range ms.length).all (fun a => match ms[a]? with
  | none => false
  | some m => ((List.range N).all (fun i => memN m i || (match l[i]? with
   | none => false
   | some o => !((deps o).all (memN m)) || es.any (fun e => Nat.beq e.1 a && Nat.beq e.2.1 i && (match ms[e.2.2]? with
    | none => false
    | some m' => (List.range N).all fun j => memN m' j == (Nat.beq j i || memN m j)))))) &&
   (Nat.beq a k || (List.range N).any (fun i => !(memN m i)))) &&
 (match ms with | [] :: _ => true | _ => false)
theorem AW.dag {w0 : Base} {Q : Exit → St → Prop} {σ : St} {id : Nat} {l : List Oper} (N k : Nat) (ms : List (List Nat)) (es : List (Nat × Nat × Nat)) (st : Nat → St) (hm : P.follows .mixedOrders = true) (hB : planC l.toArray N = true) (hP : dagB l N ms es k = true)
 (hes : ∀ e ∈ es, ∀ o, l[e.2.1]? = some o → ∀ w0, AWl P w0 l.toArray (EndQ (st e.2.2)) [o] (st e.1)) (hσ : Le σ (st 0)) (hfin : AWl P w0 l.toArray Q (l.drop N) (st k)) : AW P w0 (.region id l.toArray true) Q σ := by
 intro a w hr
 refine wp_region_any hm ?_
 simp only [dagB, Bool.and_eq_true] at hP
 obtain ⟨hP, hms⟩ := hP
 have hms0 : ms[0]? = some [] := by
  match ms, hms with
  | [] :: _, _ => rfl
 have hlN : N ≤ l.length := by
  have hB' := hB
  simp only [planC, Bool.and_eq_true, decide_eq_true_eq] at hB'
  simpa using hB'.1.1.1
 have hdep : ∀ i o, i < N → l[i]? = some o → ∀ j ∈ deps o, j < N := fun i o hi ho j hj => by
  have hB' := hB
  simp only [planC, Bool.and_eq_true, decide_eq_true_eq] at hB'
  have := List.all_eq_true.1 hB'.1.1.2 i (List.mem_range.2 hi)
  have ho' : l.toArray[i]? = some o := by simpa using ho
  rw [ho'] at this
  have := List.all_eq_true.1 this j hj
  simp only [decide_eq_true_eq] at this
  omega
 have hat : ∀ (b : Nat) (m : List Nat), ms[b]? = some m → ((∀ i, i < N → memN m i = false → ∀ o, l[i]? = some o → (∀ j ∈ deps o, memN m j = true) → ∃ e ∈ es, e.1 = b ∧ e.2.1 = i ∧ ∃ m', ms[e.2.2]? = some m' ∧ ∀ j, j < N → memN m' j = (Nat.beq j i || memN m j)) ∧ ((∀ i, i < N → memN m i = true) → b = k)) := by
  intro b m hb
  have := List.all_eq_true.1 hP b (List.mem_range.2 (List.getElem?_eq_some_iff.1 hb).1)
  rw [hb] at this
  simp only [Bool.and_eq_true] at this
  refine ⟨fun i hi hu o ho hd => ?_, fun hall => ?_⟩
  · have := List.all_eq_true.1 this.1 i (List.mem_range.2 hi)
    rw [hu, Bool.false_or, ho] at this
    simp only [Bool.or_eq_true, Bool.not_eq_true'] at this
    rcases this with h | h
    · rw [List.all_eq_true.2 hd] at h; cases h
    · obtain ⟨e, he, h⟩ := List.any_eq_true.1 h
      simp only [Bool.and_eq_true] at h
      obtain ⟨⟨h1, h2⟩, h3⟩ := h
      refine ⟨e, he, Nat.eq_of_beq_eq_true h1, Nat.eq_of_beq_eq_true h2, ?_⟩
      split at h3
      · cases h3
      · rename_i m' hm'
        exact ⟨m', hm', fun j hj => by simpa using List.all_eq_true.1 h3 j (List.mem_range.2 hj)⟩
  · have h2 := this.2
    simp only [Bool.or_eq_true] at h2
    rcases h2 with h | h
    · exact Nat.eq_of_beq_eq_true h
    · obtain ⟨i, hi, h⟩ := List.any_eq_true.1 h
      rw [hall i (List.mem_range.1 hi)] at h; cases h
 have H := wpAny_inv (P := P) (Q := lift w0 Q) (J := fun listed a w => ∃ b m, ms[b]? = some m ∧ (∀ j, j < N → memN m j = listed.getD j false) ∧ Rel w0 (st b) a w) hB (fun i o hi ho listed a w inv hd hu hJ => ?_) (fun listed a w hall hJ => ?_)
  (unl N (Array.replicate l.toArray.size false)) (Array.replicate l.toArray.size false) a { w with drawn := w.drawn + 1 } rfl
  ⟨by simp, fun j oj _ hl => (by rw [getD_replicate_false] at hl; cases hl), fun t _ ht => getD_in (by simpa using ht) (getD_replicate_false _ _)⟩ ?_
 · have hu : unl N (Array.replicate l.toArray.size false) = N := by
    unfold unl
    rw [List.countP_eq_length.2 (fun j _ => by rw [getD_replicate_false]; rfl), List.length_range]
   rw [hu, show N + (l.toArray.size - N) = l.toArray.size by simp; omega] at H
   exact H
 · obtain ⟨b, m, hb, hmj, hr⟩ := hJ
   have ho0 : l[i]? = some o := by simpa using ho
   obtain ⟨e, he, rfl, rfl, m', hm', hj'⟩ := (hat b m hb).1 i hi (by rw [hmj i hi]; exact hu) o ho0 fun j hj => by rw [hmj j (hdep i o hi ho0 j hj)]; exact hd j hj
   intro K Q' hK
   refine EndQ.run (hes e he o ho0) hr K Q' fun a' w' hr' => hK a' w' ⟨e.2.2, m', hm', fun j hj => ?_, hr'⟩
   rw [hj' j hj, hmj j hj]
   by_cases ej : j = e.2.1
   · subst ej
     have : e.2.1 < listed.size := by rw [inv.size]; simp; omega
     simp [this, Nat.beq_refl]
   · rw [beq_false ej, Bool.false_or, getD_set_ne false (fun h => ej h.symm)]
 · obtain ⟨b, m, hb, hmj, hr⟩ := hJ
   have := (hat b m hb).2 fun i hi => by rw [hmj i hi]; exact hall i hi
   subst this
   exact hfin a w hr
 · refine ⟨0, [], hms0, fun j _ => by rw [getD_replicate_false]; rfl, ?_⟩
   obtain ⟨I, hI⟩ := hσ w0 a w hr
   exact ⟨I, hI.later (Ext.refl w).drawn⟩
structure Dag (P : Program) (l : List Oper) (acc : List (Nat × St)) (es : List (Nat × Nat × Nat)) (Fin : (Nat → St) → Prop) : Prop where
 pf : ∃ st : Nat → St, (∀ k σ, look acc k = some σ → st k = σ) ∧ (∀ e ∈ es, ∀ o, l[e.2.1]? = some o → ∀ w0, AWl P w0 l.toArray (EndQ (st e.2.2)) [o] (st e.1)) ∧ Fin st
variable {l : List Oper} {acc : List (Nat × St)} {es : List (Nat × Nat × Nat)} {Fin : (Nat → St) → Prop}
theorem Dag.new {a i b : Nat} {σ σ' : St} {o : Oper} (ha : look acc a = some σ) (ho : l[i]? = some o) (hb : look acc b = none) (hE : ∀ w0, AWl P w0 l.toArray (EndQ σ') [o] σ) (h : Dag P l ((b, σ') :: acc) es Fin) : Dag P l acc ((a, i, b) :: es) Fin := by
 obtain ⟨st, h1, h2, h3⟩ := h.pf
 have hne : b ≠ a := fun e => by subst e; rw [hb] at ha; cases ha
 have h1' : ∀ k σ, look acc k = some σ → st k = σ := fun k σ hk => h1 k σ (by
  rw [look_cons, if_neg (fun e => ?_)]
  · exact hk
  · subst e; rw [hb] at hk; cases hk)
 refine ⟨st, h1', fun e he o' ho' w0 => ?_, h3⟩
 rcases List.mem_cons.1 he with rfl | he
 · simp only at ho' ⊢
   rw [ho] at ho'; cases ho'
   rw [h1' a σ ha, h1 b σ' (by rw [look_cons, if_pos rfl])]
   exact hE w0
 · exact h2 e he o' ho' w0
theorem Dag.old {a i b : Nat} {σ σ' : St} {o : Oper} (ha : look acc a = some σ) (ho : l[i]? = some o) (hb : look acc b = some σ') (hE : ∀ w0, AWl P w0 l.toArray (EndQ σ') [o] σ) (h : Dag P l acc es Fin) : Dag P l acc ((a, i, b) :: es) Fin := by
 obtain ⟨st, h1, h2, h3⟩ := h.pf
 refine ⟨st, h1, fun e he o' ho' w0 => ?_, h3⟩
 rcases List.mem_cons.1 he with rfl | he
 · simp only at ho' ⊢
   rw [ho] at ho'; cases ho'
   rw [h1 a σ ha, h1 b σ' hb]
   exact hE w0
 · exact h2 e he o' ho' w0
theorem Dag.fin {w0 : Base} {Q : Exit → St → Prop} {N k : Nat} {σ : St} (hk : look acc k = some σ) (h : AWl P w0 l.toArray Q (l.drop N) σ) : Dag P l acc [] (fun st => AWl P w0 l.toArray Q (l.drop N) (st k)) :=
 ⟨fun i => (look acc i).getD ⟨0, [], []⟩, fun i σ' hi => by simp [hi], fun e he => (by cases he), by simpa [hk] using h⟩
theorem AW.dagn {w0 : Base} {Q : Exit → St → Prop} {σ : St} {id : Nat} (N k : Nat) (ms : List (List Nat)) (es : List (Nat × Nat × Nat)) (hm : P.follows .mixedOrders = true) (hB : planC l.toArray N = true) (hP : dagB l N ms es k = true)
 (h : Dag P l [(0, σ)] es (fun st => AWl P w0 l.toArray Q (l.drop N) (st k))) : AW P w0 (.region id l.toArray true) Q σ := by
 obtain ⟨st, h1, h2, h3⟩ := h.pf
 exact AW.dag N k ms es st hm hB hP h2 (by rw [h1 0 σ U]; exact Le.refl _) h3
end
end Go.Q
set_option maxHeartbeats 1000000
set_option maxRecDepth 100000
namespace Go.Q
open Go.D
end Go.Q
namespace Go.Proofs.Ytamnfkfjfelbbaa
open Go.RowKit Go.Q Go.D
end Go.Proofs.Ytamnfkfjfelbbaa
namespace Go.Q
open Go.RowKit
section
variable {P : Program} {ops : Array Oper} {o : Oper} {σ : St} {q : Bool}
theorem Cs_td {b : Bool} {w : World} : ∀ {ts : List T} {cs : List Value} (n : Nat), Cs b w ts cs [] → Cs b w (ts.take n) (cs.take n) [] ∧ Cs b w (ts.drop n) (cs.drop n) []
 | ts, cs, 0, h => by simpa [Cs] using h
 | [], cs, n + 1, h => by
  simp only [Cs] at h
  obtain ⟨rfl, _⟩ := h
  simp [Cs]
 | t :: ts, cs, n + 1, h => by
  simp only [Cs] at h
  obtain ⟨c, cr, G1, G2, rfl, h2, h3, h4⟩ := h
  obtain ⟨rfl, rfl⟩ := List.append_eq_nil_iff.1 h4.symm
  obtain ⟨g1, g2⟩ := Cs_td n h3
  rw [List.take_succ_cons, List.take_succ_cons, List.drop_succ_cons, List.drop_succ_cons]
  refine ⟨?_, g2⟩
  simp only [Cs]
  exact ⟨c, _, [], [], rfl, h2, g1, rfl⟩
theorem flatten_take_k {α : Type} {k : Nat} : ∀ {rows : List (List α)} (m : Nat), (∀ r ∈ rows, r.length = k) → (rows.take m).flatten = rows.flatten.take (m * k) ∧ (rows.drop m).flatten = rows.flatten.drop (m * k)
 | rows, 0, _ => by simp
 | [], m + 1, _ => by simp
 | r :: rows, m + 1, h => by
  have hr := h r (by simp)
  obtain ⟨g1, g2⟩ := flatten_take_k m fun r' hr' => h r' (List.mem_cons_of_mem r hr')
  rw [List.take_succ_cons, List.drop_succ_cons, List.flatten_cons, List.flatten_cons, g1, g2, Nat.succ_mul]
  constructor
  · rw [List.take_append, hr, List.take_of_length_le (l := r) (by omega)]; congr 2; omega
  · rw [List.drop_append, hr, @List.drop_eq_nil_of_le _ r _ (by omega), List.nil_append]; congr 1; omega
theorem isV_rep {r : List T} (n : Nat) (h : r.all T.isV = true) : (List.replicate n r).flatten.all T.isV = true := by
 rw [List.all_eq_true]
 intro x hx
 rw [List.mem_flatten] at hx
 obtain ⟨l, hl, hx⟩ := hx
 rw [(List.mem_replicate.1 hl).2] at hx
 exact List.all_eq_true.1 h x hx
theorem R_copy {id k j c : Nat} {t t' e : TypeId} {x y : Operand} {A2 : A} {ag : Bool} {rows rows2 : List (List T)} (ho : o.op = .call { callee := .builtin .copy, args := #[x, y], argTypes := #[t, t'] }) (hg : o.guard = none) (hd : o.dst.all (fun d => Nat.blt d σ.n) = true)
 (hx : Get σ true x (.one (.tl id k j))) (hs : look σ.res id = some (.row k rows)) (hy : Get σ true y A2) (hq : Sq σ A2 k rows2) (hv1 : rows.flatten.all T.isV = true) (hv2 : rows2.flatten.all T.isV = true) (hu : P.underlying t = some (.slice e)) (hk : tyB P e ag k = true) (hc : c = min rows2.length (rows.length - j)) :
 Op1 P ops o σ ((σ.upd id (.row k (rows.take j ++ rows2.take c ++ rows.drop (j + c)))).put o.dst (true, .a (.one (.t (.v (.int .i64 c)))))) :=
 .eff hg fun w0 a w ⟨I, hr⟩ => by
  obtain ⟨a0, a', N, M, h1, h2, h3, h4, h5⟩ : VE I w (.tl id k j) (a.eval x) := hx.va hr rfl
  have hC : C true w (.sl k rows) (I.hd id) (I.F id) := hr.res id _ hs
  have hC0 := hC
  have own := hr.own id _ hs
  rw [h1] at hC
  obtain ⟨e1, e2, e3⟩ := hC.hdr
  obtain ⟨F2, hC2⟩ := hq.val hr (hy.va hr rfl)
  generalize hev : a.eval y = yv at hC2
  have hC2' := hC2
  simp only [C] at hC2'
  obtain ⟨a2, m, cc, rfl, g2, g3, g4, g5⟩ := hC2'
  rw [g2, e1] at hc
  by_cases hc0 : c = 0
  · have hrun : (Builtin.copy_ #[t, t'] o.type #[a.eval x, .slice a2 m cc]).run P w = .ok (.int .i64 (0 : Nat)) w := by
     have hmin : Nat.min m (N - j) = 0 := by rw [← hc0, hc]
     have hf : ∀ w : World, (Builtin.firstCells k 0 (.slice a2 m cc)).run P w = .ok #[] w := by
      intro w; cases a2 <;> simp [Builtin.firstCells, loadCells, loadCellsFrom]
     rw [h2]
     cases a' <;> simp [Builtin.copy_, run_underlying hu, tyB_size hk, Builtin.lenOf, hmin, hf, storeCells, goInt]
    have er : rows.take j ++ rows2.take c ++ rows.drop (j + c) = rows := by rw [hc0]; simp
    rw [er, hc0]
    have hR := hr.upd (G := I.F id) (r := .row k rows) hs (Chg.refl _ _) ⟨own.1, fun b hb => ⟨(own.2 b hb).1, (hr.lt id b hb).1, (own.2 b hb).2, .inl hb⟩⟩ (by show C true _ _ _ _; simpa [Ip.set] using hC0)
    exact ⟨.int .i64 (0 : Nat), w, by simp [execOp, ho, resolve, invoke, builtin, hev, hrun], _, hR.put hd (VS_v _)⟩
  · have hjN : j < N := by omega
    obtain ⟨g', rfl, rfl⟩ := h5 (by omega)
    rcases hC.blk with ⟨q1, _⟩ | ⟨g, G, cur, e', q1, q2, q3, q4, q5⟩
    · omega
    cases q1
    rcases g5 with ⟨g5, _⟩ | ⟨b2, off2, G2, rfl, rfl, g6, _, g8⟩
    · omega
    obtain ⟨r1, news, r2, r3, r4⟩ := g8.flat
    obtain ⟨r2', _⟩ := Cs_flat (o' := true) (w' := w) hv2 r2
    rw [g2] at r3
    obtain ⟨s1, xs, s2, s3, s4⟩ := q5.flat
    simp only [Nat.zero_add] at s4
    have hG : G = [] := (Cs_flat (o' := true) (w' := w) hv1 s2).2
    subst hG
    rw [e1] at s3
    have hcm : c ≤ m := by omega
    have hcN : j + c ≤ N := by omega
    have hjk : j * k + c * k = (j + c) * k := by rw [← Nat.add_mul]
    have hle1 : c * k ≤ m * k := Nat.mul_le_mul_right _ hcm
    have hle2 : (j + c) * k ≤ N * k := Nat.mul_le_mul_right _ hcN
    have hNM : N * k ≤ M * k := Nat.mul_le_mul_right _ e2
    have hnl : (news.take (c * k)).length = c * k := by rw [List.length_take, r3]; omega
    have hnews : ∀ p u, (news.take (c * k))[p]? = some u → w.cell? ((⟨b2, off2, none⟩ : Addr).add p) = some u := fun p u hp => by
     rw [List.getElem?_take] at hp
     split at hp
     · rw [Addr.add_lit]; exact r4 p u hp
     · cases hp
    have hone : ∀ u ∈ news.take (c * k), u.oneCell' = true := fun u hu => r2.cell1' u (List.mem_of_mem_take hu)
    have hf := run_firstCells_some (P := P) w k c ⟨b2, off2, none⟩ m cc (news.take (c * k)) hnl hnews
    have hst := run_storeCells_at P g' (j * k) e' (news.take (c * k)) 0 cur w q3 (by rw [hnl, q4]; omega) hone
    simp only [Nat.add_zero] at hst
    have hrun : (Builtin.copy_ #[t, t'] o.type #[a.eval x, .slice (some ⟨b2, off2, none⟩) m cc]).run P w = .ok (.int .i64 c) (w.setRow g' (cur.toList.take (j * k) ++ news.take (c * k) ++ cur.toList.drop (j * k + (news.take (c * k)).length)).toArray) := by
     have hmin : Nat.min m (N - j) = c := by rw [hc]
     rw [h2]
     simp [Builtin.copy_, run_underlying hu, tyB_size hk, Builtin.lenOf, hmin, hf, hst, goInt]
    rw [hnl, hjk] at hrun
    generalize harr : (cur.toList.take (j * k) ++ news.take (c * k) ++ cur.toList.drop ((j + c) * k)).toArray = arr at hrun
    have hgn : (w.setRow g' arr).heap[g']? = some (.cells arr e' (0, 0)) := setRow_heap w g' cur _ e' _ q3
    have hcl : cur.toList.length = M * k := by rw [← q4]; rfl
    have hsz : arr.size = M * k := by
     rw [← harr]
     simp only [List.size_toArray, List.length_append, hnl, List.length_take, List.length_drop, hcl] at *
     omega
    have hch : Chg w (w.setRow g' arr) (I.F id) := ⟨rfl, rfl, rfl, by simp [World.setRow], fun b _ hb => setRow_other w g' b _ (fun e => hb (by rw [q2, e]; simp))⟩
    rw [q2] at own
    have hxs : cur.toList.take (N * k) = xs := by
     apply List.ext_getElem?
     intro p
     by_cases hp : p < xs.length
     · have := s4 p _ (List.getElem?_eq_getElem hp)
       simp only [World.cell?, q3] at this
       rw [List.getElem?_take, if_pos (by omega), List.getElem?_eq_getElem hp]
       simpa using this
     · rw [List.getElem?_eq_none (by simp; omega), List.getElem?_eq_none (by omega)]
    have hcur : cur.toList = xs ++ cur.toList.drop (N * k) := by rw [← hxs, List.take_append_drop]
    have ht : cur.toList.take (j * k) = xs.take (j * k) := by
     rw [hcur, List.take_append, show j * k - xs.length = 0 by rw [s3]; omega]; simp
    have hdr : cur.toList.drop ((j + c) * k) = xs.drop ((j + c) * k) ++ cur.toList.drop (N * k) := by
     conv => lhs; rw [hcur]
     rw [List.drop_append, show (j + c) * k - xs.length = 0 by rw [s3]; omega, List.drop_zero]
    have harr2 : arr.toList = (xs.take (j * k) ++ news.take (c * k) ++ xs.drop ((j + c) * k)) ++ cur.toList.drop (N * k) := by
     rw [← harr, ht, hdr]; simp
    have hrows : ∀ r ∈ rows, r.length = k := s1
    have hnl2 : (rows.take j ++ rows2.take c ++ rows.drop (j + c)).length = N := by simp; omega
    have hR := hr.upd (G := [g']) (r := .row k (rows.take j ++ rows2.take c ++ rows.drop (j + c))) hs hch ⟨by simp, fun b hb => by
     obtain ⟨o1, o2⟩ := own.2 b hb
     refine ⟨o1, Nat.lt_of_lt_of_le (hr.lt id b (by rw [q2]; exact hb)).1 hch.size, ?_, .inl (by rw [q2]; exact hb)⟩
     rw [List.mem_singleton] at hb
     subst hb
     exact ⟨.inl _, _, hgn⟩⟩ (by
     show C true _ _ _ _
     simp only [Ip.set, if_true]
     rw [h1]
     unfold C
     refine ⟨_, _, _, rfl, hnl2, e2, e3, .inr ⟨g', 0, [], rfl, rfl, (Array.getElem?_eq_some_iff.1 hgn).1, fun _ => ⟨rfl, arr, e', hgn, hsz⟩, Rws.of (xs := xs.take (j * k) ++ news.take (c * k) ++ xs.drop ((j + c) * k)) (fun row hm => ?_) ?_ fun p u hp => ?_⟩⟩
     · rcases List.mem_append.1 hm with hm | hm
       · rcases List.mem_append.1 hm with hm | hm
         · exact s1 row (List.mem_of_mem_take hm)
         · exact r1 row (List.mem_of_mem_take hm)
       · exact s1 row (List.mem_of_mem_drop hm)
     · rw [List.flatten_append, List.flatten_append, (flatten_take_k j hrows).1, (flatten_take_k (j + c) hrows).2, (flatten_take_k c r1).1]
       have c1 := (Cs_flat (o' := true) (w' := w.setRow g' arr) hv1 s2).1
       have c2 := (Cs_flat (o' := true) (w' := w.setRow g' arr) hv2 r2').1
       exact Cs.append (F := []) (Cs.append (F := []) (Cs_td _ c1).1 (Cs_td _ c2).1) (Cs_td _ c1).2
     · simp only [World.cell?, hgn, Nat.zero_add]
       have hlt := (List.getElem?_eq_some_iff.1 hp).1
       simp only [Option.isSome_none, Bool.false_eq_true, if_false]
       rw [← Array.getElem?_toList, harr2, List.getElem?_append_left hlt]; exact hp)
    exact ⟨.int .i64 c, _, by simp [execOp, ho, resolve, invoke, builtin, hev, hrun], _, hR.put hd (VS_v _)⟩
theorem R_conv {t t' : TypeId} {x : Operand} {k0 k : IntKind} {n m : Int} (ho : o.op = .convert t t' x) (hg : Grd ops o σ q) (hd : o.dst.all (fun d => Nat.blt d σ.n) = true) (hx : Get σ q x (.one (.t (.v (.int k0 n))))) (hu0 : (P.underlying t).isSome = true) (hu : P.underlying t' = some (.int k)) (hm : q = true → k.wrap n = m) :
 Op1 P ops o σ (σ.put o.dst (q, .a (.one (.t (.v (.int k m)))))) :=
 .val hg hd fun I w0 a w hr hq => by
  have hv := hx.int hr hq
  obtain ⟨u0, hu0⟩ := Option.isSome_iff_exists.1 hu0
  exact ⟨_, by simp [execOp, ho, hv, Go.convert, run_underlying hu0, run_underlying hu, Conv.intToInt, hm hq], VS_v _⟩
end
end Go.Q
