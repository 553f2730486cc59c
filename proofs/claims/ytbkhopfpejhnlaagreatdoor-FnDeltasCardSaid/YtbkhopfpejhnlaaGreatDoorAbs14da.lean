import Derived.Test.YtbkhopfpejhnlaaGreatDoorAbs13da
set_option linter.unusedVariables false
set_option linter.unusedSimpArgs false
namespace Go.Q
open Go.RowKit
def E.nv (id : Nat) : E → Bool
 | .vw i _ => !(Nat.beq i id)
 | .sb i _ _ _ => !(Nat.beq i id)
 | _ => true
def A.nv (id : Nat) : A → Bool
 | .one e => e.nv id
 | .agg l => l.all (E.nv id)
def S.nv (id : Nat) : S → Bool
 | .a x => x.nv id
 | .tup l => l.all (A.nv id)
def R.nv (id : Nat) : R → Bool
 | .row _ _ => true
 | .box cs => cs.all (E.nv id)
 | .hdr _ _ => true
 | .kept _ => true
 | .opq => true
 | .cur _ => true
def nvB (id : Nat) (sl : List (Nat × (Bool × S))) (rs : List (Nat × R)) : Bool := sl.all (fun x => x.2.2.nv id) && rs.all (fun x => x.2.nv id)
theorem E.puv_nv {id : Nat} {e : E} (h : e.nv id = true) : e.puv id = e := by
 cases e with
 | vw i x => simp only [E.nv, Bool.not_eq_true'] at h; simp only [E.puv, h, cond_false]
 | sb i k p q => simp only [E.nv, Bool.not_eq_true'] at h; simp only [E.puv, h, cond_false]
 | _ => rfl
theorem map_same {α : Type} {f : α → α} : ∀ {l : List α}, (∀ x ∈ l, f x = x) → l.map f = l
 | [], _ => rfl
 | x :: l, h => by rw [List.map_cons, h x (by simp), map_same fun y hy => h y (by simp [hy])]
theorem A.puv_nv {id : Nat} {x : A} (h : x.nv id = true) : x.puv id = x := by
 cases x with
 | one e => simp only [A.puv, E.puv_nv h]
 | agg l => simp only [A.puv]; rw [map_same fun e he => E.puv_nv (List.all_eq_true.1 h e he)]
theorem S.puv_nv {id : Nat} {x : S} (h : x.nv id = true) : x.puv id = x := by
 cases x with
 | a x => simp only [S.puv, A.puv_nv h]
 | tup l => simp only [S.puv]; rw [map_same fun e he => A.puv_nv (List.all_eq_true.1 h e he)]
theorem R.puv_nv {id : Nat} {x : R} (h : x.nv id = true) : x.puv id = x := by
 cases x with
 | row k rows => rfl
 | box cs => simp only [R.puv]; rw [map_same fun e he => E.puv_nv (List.all_eq_true.1 h e he)]
 | hdr j x => rfl
 | kept K => rfl
 | opq => rfl
 | cur g => rfl
def overL : List E → List E → List E
 | [], cs => cs
 | e :: l, cs => e :: overL l (cs.drop 1)
def setC : List E → Nat → List E → List E
 | cs, 0, l => overL l cs
 | [], _ + 1, l => l
 | c :: cs, p + 1, l => c :: setC cs p l
theorem overL_eq : ∀ (l cs : List E), overL l cs = l ++ cs.drop l.length
 | [], cs => rfl
 | e :: l, cs => by rw [overL, overL_eq l]; simp
theorem setC_eq : ∀ (cs : List E) (p : Nat) (l : List E), p ≤ cs.length → setC cs p l = setL cs p l
 | cs, 0, l, _ => by unfold setC; rw [overL_eq]; simp [setL]
 | [], p + 1, l, h => by simp at h
 | c :: cs, p + 1, l, h => by rw [setC, setC_eq cs p l (by simpa using h)]; simp [setL, Nat.succ_add]
section
variable {P : Program} {ops : Array Oper} {o : Oper} {σ : St} {q : Bool}
theorem upd_nv {id : Nat} {r : R} (h : nvB id σ.slots σ.res = true) : σ.upd id r = ⟨σ.n, σ.slots, setR σ.res id r⟩ := by
 simp only [nvB, Bool.and_eq_true, List.all_eq_true] at h
 unfold St.upd
 rw [map_same fun x hx => ?_, map_same fun x hx => ?_]
 · rw [R.puv_nv (h.2 x hx)]
 · rw [S.puv_nv (h.1 x hx)]
theorem R_store_pb {id p : Nat} {t : TypeId} {x y : Operand} {cs : List E} {A0 : A} {ag : Bool} {n : Nat} (ho : o.op = .store t x y) (hg : o.guard = none) (hdn : o.dst = none) (hx : Get σ true x (.one (.pp id p))) (hy : Get σ true y A0) (hs : look σ.res id = some (.box cs)) (ht : tyB P t ag n = true)
 (he : (cellsA A0).all E.cell1 = true) (hl : Nat.beq (cellsA A0).length n = true) (hn : Nat.ble (p + n) cs.length = true) (hv1 : nvB id σ.slots σ.res = true) (hv2 : (cellsA A0).all (E.nv id) = true) : Op1 P ops o σ ⟨σ.n, σ.slots, setR σ.res id (.box (setC cs p (cellsA A0)))⟩ :=
 .skip hg fun w0 a w ⟨I, hr⟩ => by
  have hv : a.eval x = .pointer (some ⟨I.B id, p, none⟩) := hx.va hr rfl
  obtain ⟨ds, h1, h2, h3⟩ := (hy.va hr rfl).cells he
  obtain ⟨hF, vs, ty, g1, g2⟩ := hr.res id _ hs
  have hn' := Nat.le_of_ble_eq_true hn
  have hl' := Nat.eq_of_beq_eq_true hl
  have e1 := VEs_len h2
  have e2 := VEs_len g2
  have hst := run_storeCells_at P (I.B id) p ty ds 0 vs.toArray w g1 (by simp; omega) h3
  simp only [Nat.add_zero] at hst
  have hsz : (a.eval y).cells.size = n := by rw [h1]; simp; omega
  have hc : Chg w (w.setRow (I.B id) (vs.take p ++ ds ++ vs.drop (p + ds.length)).toArray) (I.F id) :=
   ⟨rfl, rfl, rfl, by simp [World.setRow], fun k _ hk => setRow_other w (I.B id) k _ (fun e => hk (by rw [hF, e]; simp))⟩
  refine ⟨w.setRow (I.B id) (vs.take p ++ ds ++ vs.drop (p + ds.length)).toArray, ?_, I.set id [I.B id] (I.hd id) (I.B id), ?_⟩
  · simp [execOp, ho, hv, Instr.storeAt, Instr.sureAddr, storeVar, tyB_size ht, h1, hst]
    omega
  · rw [hdn]
    have hcs : cs.all (E.nv id) = true := by
     have key : ∀ (l : List (Nat × R)), (l.all fun x => x.2.nv id) = true → look l id = some (.box cs) → cs.all (E.nv id) = true := by
      intro l
      induction l with
      | nil => intro _ h; cases h
      | cons y l ih =>
       obtain ⟨j, y⟩ := y
       intro ha hk
       simp only [List.all_cons, Bool.and_eq_true] at ha
       rw [look_cons] at hk
       split at hk
       · cases hk; exact ha.1
       · exact ih ha.2 hk
     simp only [nvB, Bool.and_eq_true] at hv1
     exact key _ hv1.2 hs
    have hall : ∀ e ∈ setL cs p (cellsA A0), e.puv id = e := by
     intro e hm
     simp only [setL, List.mem_append] at hm
     rcases hm with (hm | hm) | hm
     · exact E.puv_nv (List.all_eq_true.1 hcs e (List.mem_of_mem_take hm))
     · exact E.puv_nv (List.all_eq_true.1 hv2 e hm)
     · exact E.puv_nv (List.all_eq_true.1 hcs e (List.mem_of_mem_drop hm))
    rw [← upd_nv hv1, setC_eq cs p _ (by omega)]
    refine hr.upd hs hc ⟨by simp, fun b hb => ?_⟩ ⟨by simp [Ip.set], _, ty, by simp only [Ip.set, if_true]; exact setRow_heap w (I.B id) vs.toArray _ ty (0, 0) g1, ?_⟩
    · simp only [List.mem_singleton] at hb
      subst hb
      exact ⟨((hr.own id _ hs).2 _ (by rw [hF]; simp)).1, by simp [World.setRow]; exact (Array.getElem?_eq_some_iff.1 g1).1, ⟨_, ty, setRow_heap w (I.B id) vs.toArray _ ty (0, 0) g1⟩, .inl (by rw [hF]; simp)⟩
    · have hlist : VEs I w (setL cs p (cellsA A0)) (vs.take p ++ ds ++ vs.drop (p + ds.length)) := by
       rw [setL, ← e1]
       exact VEs_append (VEs_append (VEs_take p g2) h2) (VEs_drop _ g2)
      have := hlist.puv (G := [I.B id]) hc (fun b hz hb => (hr.lt id b hb).2 hz) (fun i hi => hr.apart i id hi)
      rwa [map_same hall] at this
variable {w0 : Base} {Q : Exit → St → Prop} {n : Nat} {sl : List (Nat × (Bool × S))} {rs : List (Nat × R)} {l : List Oper}
theorem AWl.chgb {rs' : List (Nat × R)} (ho : Op1 P ops o ⟨n, sl, rs⟩ ⟨n, sl, rs'⟩) (h : AWl P w0 ops Q l ⟨n, sl, rs'⟩) : AWl P w0 ops Q (o :: l) ⟨n, sl, rs⟩ := AWl.op ho h
end
end Go.Q
