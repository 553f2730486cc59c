/- The operations that make or change memory; calls. -/
import Derived.Test.YtjmbiiciogakoaaAbs5x
import Derived.Laws.OwnMore
set_option linter.unusedVariables false
set_option linter.unusedSimpArgs false
namespace Go.Q
open Go.RowKit
section
variable {P : Program} {ops : Array Oper} {o : Oper} {σ : St} {q : Bool}
theorem Op1.eff {σ' : St} (hg : o.guard = none) (h : ∀ w0 a w, Rel w0 σ a w → ∃ v w', (execOp a.eval o).run P w = .ok (.value v) w' ∧ Rel w0 σ' (a.put o.dst v) w') : Op1 P ops o σ σ' := by
  intro w0 a w hr K Q hK
  simp only [Region.wanted, hg, if_true]
  obtain ⟨v, w', h1, h2⟩ := h w0 a w hr
  unfold Oper.wp
  rw [h1]
  exact hK _ _ h2
theorem Op1.skip {σ' : St} (hg : o.guard = none) (h : ∀ w0 a w, Rel w0 σ a w → ∃ w', (execOp a.eval o).run P w = .ok .skip w' ∧ Rel w0 σ' (a.put o.dst undef) w') : Op1 P ops o σ σ' := by
  intro w0 a w hr K Q hK
  simp only [Region.wanted, hg, if_true]
  obtain ⟨w', h1, h2⟩ := h w0 a w hr
  unfold Oper.wp
  rw [h1]
  exact hK _ _ h2
def cellsA : A → List E
  | .one e => [e]
  | .agg l => l
def E.cell1 : E → Bool
  | .no => false
  | .sb _ _ _ _ => false
  | _ => true
theorem C.cell1 {o : Bool} {w : World} {t : T} {c : Value} {F : List Nat} (h : C o w t c F) : c.oneCell' = true := by
  cases t with
  | v x => simp only [C] at h; obtain ⟨rfl, _, h⟩ := h; exact h
  | sl k rows => simp only [C] at h; obtain ⟨a, l, k, rfl, _⟩ := h; rfl
  | ad cs => simp only [C] at h; obtain ⟨b, off, G, rfl, _⟩ := h; rfl
  | fn f x y => simp only [C] at h; obtain ⟨xs, ys, G1, G2, rfl, _⟩ := h; rfl
theorem VE.cell1 {I : Ip} {w : World} {e : E} {c : Value} (h : VE I w e c) (he : e.cell1 = true) : c.oneCell' = true := by
  cases e with
  | t x => obtain ⟨G, h1, _⟩ := h; exact h1.cell1
  | rf id => obtain ⟨_, a, l, k, rfl⟩ := h; rfl
  | tl id k j => obtain ⟨_, _, _, _, _, rfl, _⟩ := h; rfl
  | pf id k j => obtain ⟨_, _, _, _, rfl, _⟩ := h; rfl
  | vw id x => obtain ⟨G, h1, _⟩ := h; exact h1.cell1
  | pp id o => have h' : c = _ := h; rw [h']; rfl
  | pr id k i j => obtain ⟨_, _, _, _, h'⟩ := h; rw [h']; rfl
  | sb id k i j => cases he
  | no => cases he
theorem VEs.cell1 {I : Ip} {w : World} : ∀ {l : List E} {cs : List Value}, VEs I w l cs → l.all E.cell1 = true → ∀ c ∈ cs, c.oneCell' = true
  | [], cs, h, _, c, hc => by simp only [VEs] at h; subst h; cases hc
  | e :: l, cs, h, he, c, hc => by
    obtain ⟨c0, cr, rfl, h1, h2⟩ := h
    simp only [List.all_cons, Bool.and_eq_true] at he
    rcases List.mem_cons.1 hc with rfl | hc
    · exact h1.cell1 he.1
    · exact VEs.cell1 h2 he.2 c hc
theorem cells_one {v : Value} (h : v.oneCell' = true) : v.cells = #[v] := by cases v <;> first | rfl | cases h
/-- A value as its cells. -/
theorem VA.cells {I : Ip} {w : World} {x : A} {v : Value} (h : VA I w x v) (he : (cellsA x).all E.cell1 = true) : ∃ cs, v.cells = List.toArray cs ∧ VEs I w (cellsA x) cs ∧ ∀ c ∈ cs, c.oneCell' = true := by
  cases x with
  | one e =>
    have h1 : VEs I w [e] [v] := ⟨v, [], rfl, h, rfl⟩
    have h2 := h1.cell1 he
    exact ⟨[v], by rw [cells_one (h2 v (by simp))], h1, h2⟩
  | agg l =>
    obtain ⟨cs, rfl, h1⟩ := h
    exact ⟨cs, rfl, h1, h1.cell1 he⟩
theorem thaw_new {w : World} {cs : Array Value} {t : TypeId} : Thaw (w.alloc (.cells cs t)) w.heap.size := ⟨cs, t, heap_alloc_new w _⟩
theorem RelI.box {I : Ip} {w0 : Base} {w : World} {a : Act} (hr : RelI I w0 σ a w) {id : Nat} {l : List E} {cs : List Value} {t : TypeId} (hf : σ.has id = false) (hfl : l.any (E.has id) = false) (hv : VEs I w l cs) :
    RelI (I.set id [w.heap.size] undef w.heap.size) w0 (σ.add id (.box l)) a (w.alloc (.cells cs.toArray t)) := by
  refine hr.add hf ((Ext.refl w).alloc _) ⟨by simp, fun b hb => ?_⟩ ⟨by simp [Ip.set], cs, t, by simp only [Ip.set, if_true]; exact heap_alloc_new w _, ?_⟩
  · simp only [List.mem_singleton] at hb
    subst hb
    exact ⟨Nat.le_refl _, by simp, thaw_new⟩
  · exact VEs.set hfl (hv.mono ((Ext.refl w).alloc _))
theorem VEs_vals {I : Ip} {w : World} : ∀ {zs : List Value}, zs.all Value.oneCell' = true → VEs I w (zs.map fun v => .t (.v v)) zs
  | [], _ => rfl
  | z :: zs, h => by
    simp only [List.all_cons, Bool.and_eq_true] at h
    exact ⟨z, zs, rfl, ⟨[], by unfold C; exact ⟨rfl, rfl, h.1⟩, by simp⟩, VEs_vals h.2⟩
theorem has_vals (id : Nat) : ∀ (zs : List Value), (zs.map fun v => E.t (.v v)).any (E.has id) = false
  | [] => rfl
  | z :: zs => by simp [E.has]
theorem R_alloc {t : TypeId} {z : Value} {n by_ : Nat} {zs : List Value} (id : Nat) (ho : o.op = .alloc t) (hg : o.guard = none) (hd : o.dst.all (fun d => Nat.blt d σ.n) = true) (hi : (P.info? t).map (fun i => (i.zero, i.size, i.bytes)) = some (some z, n, by_)) (hz : z.cells = zs.toArray)
    (h1 : zs.all Value.oneCell' = true) (hf : σ.has id = false) :
    Op1 P ops o σ ((σ.add id (.box (zs.map fun v => .t (.v v)))).put o.dst (true, .a (.one (.pp id 0)))) :=
  .eff hg fun w0 a w ⟨I, hr⟩ => by
    obtain ⟨i, hi1, hi2, _, _⟩ := info_parts hi
    have hb := hr.box (id := id) (t := t) hf (has_vals id zs) (VEs_vals h1)
    refine ⟨.pointer (some ⟨w.heap.size, 0, none⟩), w.alloc (.cells zs.toArray t), by simp [execOp, ho, Instr.alloc, zeroValue, typeInfo, hi1, hi2, newVar, newRow, hz], _, hb.put hd ?_⟩
    show Value.pointer _ = Value.pointer _
    simp [Ip.set]
theorem R_load_pp {id p : Nat} {t : TypeId} {x : Operand} {cs : List E} {ag : Bool} {n : Nat} (ho : o.op = .load t x) (hg : Grd ops o σ q) (hd : o.dst.all (fun d => Nat.blt d σ.n) = true) (hx : Get σ q x (.one (.pp id p))) (hs : look σ.res id = some (.box cs)) (ht : tyB P t ag n = true)
    (hn : Nat.ble (p + n) cs.length = true) (h1 : (ag || Nat.beq n 1) = true) : Op1 P ops o σ (σ.put o.dst (q, .a (mkA ag ((cs.drop p).take n)))) :=
  .val hg hd fun I w0 a w hr hq => by
    have hv : a.eval x = .pointer (some ⟨I.B id, p, none⟩) := hx.va hr hq
    obtain ⟨hF, vs, ty, g1, g2⟩ := hr.res id _ hs
    have g3 := VEs_take n (VEs_drop p g2)
    have hn' := Nat.le_of_ble_eq_true hn
    have hl := VEs_len g2
    have h1' : ag = false → n = 1 := fun e => by rw [e] at h1; exact Nat.eq_of_beq_eq_true (by simpa using h1)
    have hc : ∀ (j : Nat) (u : Value), ((vs.drop p).take n)[j]? = some u → w.cell? ⟨I.B id, p + j, none⟩ = some u := by
      intro j u hj
      rw [List.getElem?_take] at hj
      split at hj
      · rw [List.getElem?_drop] at hj; simp [World.cell?, g1, hj]
      · cases hj
    exact ⟨_, by simp [execOp, ho, hv, run_load ht (cs := (vs.drop p).take n) (by simp; omega) h1' hc], VA_mk g3 fun e => by have := h1' e; simp; omega⟩
theorem R_load_pr {id k i p : Nat} {t : TypeId} {x : Operand} {rows : List (List T)} {row : List T} {ag : Bool} {n : Nat} (ho : o.op = .load t x) (hg : Grd ops o σ q) (hd : o.dst.all (fun d => Nat.blt d σ.n) = true) (hx : Get σ q x (.one (.pr id k i p))) (hs : look σ.res id = some (.row k rows)) (hi : rows[i]? = some row) (ht : tyB P t ag n = true)
    (hn : Nat.ble (p + n) row.length = true) (h1 : (ag || Nat.beq n 1) = true) : Op1 P ops o σ (σ.put o.dst (q, .a (mkA ag (((row.drop p).take n).map (toE id))))) :=
  .val hg hd fun I w0 a w hr hq => by
    obtain ⟨g, n', m', hg1, hv⟩ : VE I w (.pr id k i p) (a.eval x) := hx.va hr hq
    have hC : C true w (.sl k rows) _ _ := hr.res id _ hs
    simp only [C] at hC
    obtain ⟨a0, len, cap, g1, g2, g3, g4, g5⟩ := hC
    have hlt : i < rows.length := (List.getElem?_eq_some_iff.1 hi).1
    have hn' := Nat.le_of_ble_eq_true hn
    have h1' : ag = false → n = 1 := fun e => by rw [e] at h1; exact Nat.eq_of_beq_eq_true (by simpa using h1)
    rcases g5 with ⟨g5, _⟩ | ⟨b, off, G, rfl, hF, g6, g7, g8⟩
    · omega
    · obtain ⟨rfl, cur, e, _⟩ := g7 trivial
      rw [hg1] at g1
      cases g1
      obtain ⟨G', k1, k2, k3⟩ := g8.get hi
      obtain ⟨G1, k4, k5⟩ := k1.drop p
      obtain ⟨G2, k6, k7⟩ := k4.take n
      obtain ⟨vs, k8, k9, k10⟩ := Ms.cells k6
      have hl : ((row.drop p).take n).length = n := by simp; omega
      have hc : ∀ (j : Nat) (u : Value), vs[j]? = some u → w.cell? ⟨g, i * k + p + j, none⟩ = some u := fun j u hj => by have := k10 j u hj; simpa using this
      refine ⟨_, by simp [execOp, ho, hv, run_load ht (cs := vs) (by rw [k9, hl]) h1' hc], VA_mk (Cs_vw k8.read fun x hx => ?_) fun e => by have := h1' e; rw [List.length_map, hl]; exact this⟩
      rw [hF]; simp [k3 x (k5 x (k7 x hx))]
/-- The first n cells of a list are set. -/
def setL (cs : List E) (p : Nat) (l : List E) : List E := cs.take p ++ l ++ cs.drop (p + l.length)
theorem VEs_append {I : Ip} {w : World} : ∀ {l m : List E} {cs ds : List Value}, VEs I w l cs → VEs I w m ds → VEs I w (l ++ m) (cs ++ ds)
  | [], m, cs, ds, h, h' => by simp only [VEs] at h; subst h; exact h'
  | e :: l, m, cs, ds, h, h' => by obtain ⟨c, cr, rfl, h1, h2⟩ := h; exact ⟨c, cr ++ ds, rfl, h1, VEs_append h2 h'⟩
/-! ### Struct literals -/
def partsE : List (Nat × List E) → List E → List E
  | [], cs => cs
  | (p, l) :: r, cs => partsE r (setL cs p l)
/-- What is put where: the parts of a literal. -/
inductive Parts (P : Program) (σ : St) (t : TypeId) : List (Nat × Operand) → List (Nat × List E) → Prop where
  | nil : Parts P σ t [] []
  | cons {j off n : Nat} {x : Operand} {A0 : A} {r : List (Nat × Operand)} {r' : List (Nat × List E)} (hx : Get σ true x A0) (he : (cellsA A0).all E.cell1 = true) (hn : Nat.beq (cellsA A0).length n = true) (hf : (match P.underlying t with | some (.struct fs) => (match fs[j]? with | some f => Nat.beq f.offset off && (match P.info? f.type with | some i => Nat.beq i.size n | none => false) | none => false) | _ => false) = true) (h : Parts P σ t r r') : Parts P σ t ((j, x) :: r) ((off, cellsA A0) :: r')
theorem foldl_setAll (p : Nat) : ∀ (ds : List Value) (k : Nat) (cs : List Value), ((ds.zipIdx k).foldl (fun (acc : Array Value) x => acc.setIfInBounds (p + x.2) x.1) cs.toArray) = (setAll cs (p + k) ds).toArray
  | [], k, cs => by simp [setAll]
  | d :: ds, k, cs => by
    simp only [List.zipIdx_cons, List.foldl_cons, List.setIfInBounds_toArray]
    rw [foldl_setAll p ds (k + 1), setAll, Nat.add_assoc]
theorem foldl_set (p : Nat) (ds cs : List Value) (h : p + ds.length ≤ cs.length) :
    ((ds.zipIdx 0).foldl (fun (acc : Array Value) x => acc.setIfInBounds (p + x.2) x.1) cs.toArray) = (cs.take p ++ ds ++ cs.drop (p + ds.length)).toArray := by
  rw [foldl_setAll p ds 0 cs, Nat.add_zero]
  have e : cs = cs.take p ++ ((cs.drop p).take ds.length ++ cs.drop (p + ds.length)) := by
    rw [← List.drop_drop, List.take_append_drop, List.take_append_drop]
  have hl : (cs.take p).length = p := by simp; omega
  have := setAll_mid ds (cs.take p) ((cs.drop p).take ds.length) (cs.drop (p + ds.length)) (by simp; omega)
  rw [← e, hl] at this
  rw [this, List.append_assoc]
theorem run_fill {I : Ip} {w0 : Base} {w : World} {a : Act} (hr : RelI I w0 σ a w) {t : TypeId} {fs : Array Field} (hu : P.underlying t = some (.struct fs)) {pl : Array (Nat × Nat)}
    (hpl : ∀ (j : Nat) (f : Field), fs[j]? = some f → ∃ i, P.info? f.type = some i ∧ pl[j]? = some (f.offset, i.size)) : ∀ {ps : List (Nat × Operand)} {ds : List (Nat × List E)} {l : List E} {cs : List Value}, Parts P σ t ps ds → VEs I w l cs → (ds.all fun x => Nat.ble (x.1 + x.2.length) l.length) = true →
    ∃ cs', Instr.fill (fun i => pl[i]?) cs.toArray (ps.map fun x => (x.1, a.eval x.2)) = some (List.toArray cs') ∧ VEs I w (partsE ds l) cs'
  | [], ds, l, cs, hp, hv, _ => by cases hp; exact ⟨cs, rfl, hv⟩
  | (j, x) :: ps, ds, l, cs, hp, hv, hb => by
    cases hp with
    | cons hx he hn hf h =>
      rename_i off n A0 r'
      rw [hu] at hf
      simp only at hf
      split at hf
      · rename_i f hf1
        simp only [Bool.and_eq_true] at hf
        obtain ⟨i, hi1, hi2⟩ := hpl j f hf1
        rw [hi1] at hf
        have e1 := Nat.eq_of_beq_eq_true hf.1
        have e2 := Nat.eq_of_beq_eq_true hf.2
        have e3 := Nat.eq_of_beq_eq_true hn
        obtain ⟨xs, h1, h2, h3⟩ := (hx.va hr rfl).cells he
        have e4 := VEs_len h2
        have e5 := VEs_len hv
        simp only [List.all_cons, Bool.and_eq_true] at hb
        have hb1 := Nat.le_of_ble_eq_true hb.1
        have hlen : (setL l off (cellsA A0)).length = l.length := by simp [setL]; omega
        obtain ⟨cs', g1, g2⟩ := run_fill hr hu hpl (ps := ps) (l := setL l off (cellsA A0)) (cs := cs.take off ++ xs ++ cs.drop (off + xs.length)) h (by rw [setL, ← e4]; exact VEs_append (VEs_append (VEs_take off hv) h2) (VEs_drop _ hv)) (by rw [hlen]; exact hb.2)
        refine ⟨cs', ?_, g2⟩
        have hfo := foldl_set off xs cs (by omega)
        simp only [List.map_cons, Instr.fill, hi2, e1, h1]
        rw [if_neg (by simp; omega)]
        rw [← g1, ← hfo]
        congr 1
        simp
      · cases hf
theorem run_fmap {α β : Type} (f : α → β) (s : Sem α) (w : World) : (Functor.map f s).run P w = (s.run P w).andThen fun a w' => .ok (f a) w' := by
  rw [map_eq_pure_bind]; simp
theorem R_build {t : TypeId} {ps : List (Nat × Operand)} {z : Value} {n by_ : Nat} {zs : List Value} {ds : List (Nat × List E)} (ho : o.op = .build t ps.toArray) (hg : o.guard = none) (hd : o.dst.all (fun d => Nat.blt d σ.n) = true) (hi : (P.info? t).map (fun i => (i.zero, i.size, i.bytes)) = some (some z, n, by_)) (hz : z.cells = zs.toArray)
    (h1 : zs.all Value.oneCell' = true) (hS : (match P.underlying t with | some (.struct fs) => fs.all (fun f => (P.info? f.type).isSome) | _ => false) = true) (hp : Parts P σ t ps ds) (hb : (ds.all fun x => Nat.ble (x.1 + x.2.length) zs.length) = true) :
    Op1 P ops o σ (σ.put o.dst (true, .a (.agg (partsE ds (zs.map fun v => .t (.v v)))))) :=
  .eff hg fun w0 a w ⟨I, hr⟩ => by
    obtain ⟨i, hi1, hi2, _, _⟩ := info_parts hi
    split at hS
    · rename_i fs hu
      have hm : ∀ (l : List Field), (∀ f ∈ l, (P.info? f.type).isSome = true) → (l.mapM fun f => Functor.map (Prod.mk f.offset) (sizeOf f.type) : Sem (List (Nat × Nat))).run P w = .ok (l.map fun f => (f.offset, P.cellsOf f.type)) w := by
        intro l
        induction l with
        | nil => intro _; rfl
        | cons f l ih =>
          intro hl
          have hf := hl f (by simp)
          obtain ⟨fi, hfi⟩ := Option.isSome_iff_exists.1 hf
          have hs : (sizeOf f.type).run P w = .ok (P.cellsOf f.type) w := run_sizeOf _ hfi
          rw [List.mapM_cons]
          simp only [map_eq_pure_bind, Sem.run_bind, hs, Result.andThen_ok, Sem.run_pure] at ih ⊢
          simp only [ih (fun g hg => hl g (by simp [hg])), Result.andThen_ok, List.map_cons]
      have hall : ∀ f ∈ fs.toList, (P.info? f.type).isSome = true := by
        intro f hf
        have := Array.all_eq_true_iff_forall_mem.1 hS f (by simpa using hf)
        simpa using this
      obtain ⟨cs', g1, g2⟩ := run_fill hr hu (pl := (fs.toList.map fun f => (f.offset, P.cellsOf f.type)).toArray) (fun j f hj => by
        have hmem : f ∈ fs.toList := by simpa using Array.mem_of_getElem? hj
        obtain ⟨fi, hfi⟩ := Option.isSome_iff_exists.1 (hall f hmem)
        refine ⟨fi, hfi, ?_⟩
        have e : P.cellsOf f.type = fi.size := by simp [Program.cellsOf, hfi]
        simp [hj, e]) hp (VEs_vals h1) (by simpa using hb)
      refine ⟨.agg cs'.toArray, w, ?_, I, hr.put hd ⟨cs', rfl, g2⟩⟩
      have hma : (fs.mapM fun f => Functor.map (Prod.mk f.offset) (sizeOf f.type) : Sem (Array (Nat × Nat))).run P w = .ok (fs.toList.map fun f => (f.offset, P.cellsOf f.type)).toArray w := by
        rw [Array.mapM_eq_mapM_toList, run_fmap, hm _ hall]
        rfl
      simp [execOp, ho, Instr.build, zeroValue, typeInfo, hi1, hi2, run_underlying hu, hma, hz]
      have e : (fun (x : Nat) => Option.map (fun f => (f.offset, P.cellsOf f.type)) fs[x]?) = fun (i : Nat) => (List.map (fun f => (f.offset, P.cellsOf f.type)) fs.toList).toArray[i]? := by funext x; simp
      rw [e, g1]
      simp
    · cases hS
end
end Go.Q
