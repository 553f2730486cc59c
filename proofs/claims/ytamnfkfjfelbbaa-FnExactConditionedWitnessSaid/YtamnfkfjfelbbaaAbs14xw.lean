import Derived.Test.YtamnfkfjfelbbaaAbs12xw
set_option linter.unusedVariables false
set_option linter.unusedSimpArgs false
namespace Go.Q
open Go.RowKit
section
variable {P : Program} {ops : Array Oper} {o : Oper} {σ : St} {q : Bool}
def E.puv (id : Nat) : E → E
 | .vw i x => bif Nat.beq i id then .no else .vw i x
 | .sb i k p q => bif Nat.beq i id then .no else .sb i k p q
 | e => e
def A.puv (id : Nat) : A → A
 | .one e => .one (e.puv id)
 | .agg l => .agg (l.map (E.puv id))
def S.puv (id : Nat) : S → S
 | .a x => .a (x.puv id)
 | .tup l => .tup (l.map (A.puv id))
def R.puv (id : Nat) : R → R
 | .row k rows => .row k rows
 | .box cs => .box (cs.map (E.puv id))
 | .hdr j x => .hdr j x
 | .kept K => .kept K
 | .opq => .opq
 | .cur g => .cur g
 | .mp b f => .mp b f
def St.upd (σ : St) (id : Nat) (r : R) : St := { σ with slots := σ.slots.map (fun x => (x.1, (x.2.1, x.2.2.puv id))), res := setR (σ.res.map fun x => (x.1, x.2.puv id)) id r }
theorem VE.puv {I : Ip} {w w' : World} {id : Nat} {G : List Nat} (hc : Chg w w' (I.F id)) (hZ : ∀ b, I.Z b → b ∉ I.F id) (hv : ∀ i, i ≠ id → ∀ b ∈ I.F i, b ∉ I.F id) {e : E} {c : Value} (h : VE I w e c) :
 VE (I.set id G (I.hd id) (I.B id)) w' (e.puv id) c := by
 have hhd : ∀ i, (I.set id G (I.hd id) (I.B id)).hd i = I.hd i := fun i => by simp only [Ip.set]; split; (rename_i e; rw [e]); rfl
 have hB : ∀ i, (I.set id G (I.hd id) (I.B id)).B i = I.B i := fun i => by simp only [Ip.set]; split; (rename_i e; rw [e]); rfl
 cases e with
 | t x => obtain ⟨G, h1, h2⟩ := h; exact ⟨G, h1.congr fun b hb => hc.block b (h1.lt b hb) (hZ b (h2 b hb)), h2⟩
 | no => trivial
 | rf i => simp only [E.puv, VE, hhd] at h ⊢; exact h
 | tl i k j => simp only [E.puv, VE, hhd] at h ⊢; exact h
 | pf i k j => simp only [E.puv, VE, hhd] at h ⊢; exact h
 | vw i x =>
  simp only [E.puv]
  cases e : Nat.beq i id with
  | true => trivial
  | false =>
   obtain ⟨G', h1, h2⟩ := h
   simp only [cond_false, VE, Ip.set, if_neg (beq_ne e)]
   exact ⟨G', h1.congr fun b hb => hc.block b (h1.lt b hb) (hv i (beq_ne e) b (h2 b hb)), h2⟩
 | pr i k p q => simp only [E.puv, VE, hhd] at h ⊢; exact h
 | sb i k p q =>
  simp only [E.puv]
  cases e : Nat.beq i id with
  | true => trivial
  | false =>
   obtain ⟨g, n, m, h1, h2, h3, h4⟩ := h
   have hb' := hc.block g h3 (hv i (beq_ne e) g h2)
   simp only [cond_false, VE, Ip.set, if_neg (beq_ne e)]
   exact ⟨g, n, m, h1, h2, heap_lt hb' h3, (World.cell?_of_block (a := ⟨g, _, none⟩) hb').trans h4⟩
 | pp i o => simp only [E.puv, VE, hB] at h ⊢; exact h
theorem VEs.puv {I : Ip} {w w' : World} {id : Nat} {G : List Nat} (hc : Chg w w' (I.F id)) (hZ : ∀ b, I.Z b → b ∉ I.F id) (hv : ∀ i, i ≠ id → ∀ b ∈ I.F i, b ∉ I.F id) : ∀ {l : List E} {cs : List Value}, VEs I w l cs →
 VEs (I.set id G (I.hd id) (I.B id)) w' (l.map (E.puv id)) cs
 | [], _, h => h
 | _ :: _, _, ⟨c, cr, h1, h2, h3⟩ => ⟨c, cr, h1, h2.puv hc hZ hv, h3.puv hc hZ hv⟩
theorem VA.puv {I : Ip} {w w' : World} {id : Nat} {G : List Nat} (hc : Chg w w' (I.F id)) (hZ : ∀ b, I.Z b → b ∉ I.F id) (hv : ∀ i, i ≠ id → ∀ b ∈ I.F i, b ∉ I.F id) {x : A} {v : Value} (h : VA I w x v) :
 VA (I.set id G (I.hd id) (I.B id)) w' (x.puv id) v := by
 cases x with
 | one e => exact VE.puv hc hZ hv h
 | agg l => obtain ⟨cs, h1, h2⟩ := h; exact ⟨cs, h1, h2.puv hc hZ hv⟩
theorem VAs.puv {I : Ip} {w w' : World} {id : Nat} {G : List Nat} (hc : Chg w w' (I.F id)) (hZ : ∀ b, I.Z b → b ∉ I.F id) (hv : ∀ i, i ≠ id → ∀ b ∈ I.F i, b ∉ I.F id) : ∀ {l : List A} {cs : List Value}, VAs I w l cs →
 VAs (I.set id G (I.hd id) (I.B id)) w' (l.map (A.puv id)) cs
 | [], _, h => h
 | _ :: _, _, ⟨c, cr, h1, h2, h3⟩ => ⟨c, cr, h1, h2.puv hc hZ hv, h3.puv hc hZ hv⟩
theorem VS.puv {I : Ip} {w w' : World} {id : Nat} {G : List Nat} (hc : Chg w w' (I.F id)) (hZ : ∀ b, I.Z b → b ∉ I.F id) (hv : ∀ i, i ≠ id → ∀ b ∈ I.F i, b ∉ I.F id) {x : Bool × S} {v : Value} (h : VS I w x v) :
 VS (I.set id G (I.hd id) (I.B id)) w' (x.1, x.2.puv id) v := by
 obtain ⟨p, x⟩ := x
 cases p
 · exact h
 · cases x with
   | a x => exact VA.puv hc hZ hv h
   | tup l => obtain ⟨vs, h1, h2⟩ := h; exact ⟨vs, h1, h2.puv hc hZ hv⟩
theorem RelI.upd {I : Ip} {w0 : Base} {w w' : World} {σ : St} {a : Act} (h : RelI I w0 σ a w) {id : Nat} {r0 : R} (h0 : look σ.res id = some r0) (hc : Chg w w' (I.F id)) {G : List Nat} {r : R}
 (hG : G.Nodup ∧ ∀ b ∈ G, w0.own b ∧ b < w'.heap.size ∧ Thaw w' b ∧ (b ∈ I.F id ∨ w.heap.size ≤ b ∨ Free I w0 w b)) (hr : RR (I.set id G (I.hd id) (I.B id)) w' id r) : RelI (I.set id G (I.hd id) (I.B id)) w0 (σ.upd id r) a w' := by
 have base := h.chg h0 hc hG hr
 have hZ : ∀ b, I.Z b → b ∉ I.F id := fun b hz hb => (h.lt id b hb).2 hz
 have hv : ∀ i, i ≠ id → ∀ b ∈ I.F i, b ∉ I.F id := fun i hi => h.apart i id hi
 have key : ∀ i r', look (σ.upd id r).res i = some r' → (i = id ∧ r' = r) ∨ (i ≠ id ∧ ∃ y, look σ.res i = some y ∧ r' = y.puv id) := by
  intro i r' hi
  rcases look_setR _ _ _ _ _ hi with ⟨h1, h2, _⟩ | ⟨h1, h2⟩
  · exact .inl ⟨h1, h2⟩
  · refine .inr ⟨h1, ?_⟩
    rw [look_map] at h2
    obtain ⟨y, hy, e⟩ := Option.map_eq_some_iff.1 h2
    exact ⟨y, hy, e.symm⟩
 have Foth : ∀ i, i ≠ id → (I.set id G (I.hd id) (I.B id)).F i = I.F i := fun i hi => by simp [Ip.set, hi]
 have Fid : (I.set id G (I.hd id) (I.B id)).F id = G := by simp [Ip.set]
 refine ⟨base.ext, base.defers, h.size, fun i x hi => ?_, fun i r' hi => ?_, base.old, base.lt, fun i r' hi => ?_, base.apart⟩
 · have hi' : look (σ.slots.map fun x => (x.1, (x.2.1, x.2.2.puv id))) i = some x := hi
   rw [look_map (fun x : Bool × S => (x.1, x.2.puv id))] at hi'
   obtain ⟨y, hy, rfl⟩ := Option.map_eq_some_iff.1 hi'
   exact (h.slots i y hy).puv hc hZ hv
 · rcases key i r' hi with ⟨rfl, rfl⟩ | ⟨e, y, hy, rfl⟩
   · exact hr
   · have := h.res i y hy
     cases y with
     | row k rows =>
      have this : C true w (.sl k rows) (I.hd i) (I.F i) := this
      show C true w' (.sl k rows) _ _
      simp only [Ip.set, if_neg e]
      exact this.congr fun b hb => hc.block b (this.lt b hb) (hv i e b hb)
     | box cs =>
      obtain ⟨h1, vs, t, h2, h3⟩ := this
      refine ⟨by simpa only [Ip.set, if_neg e] using h1, vs, t, ?_, h3.puv hc hZ hv⟩
      simp only [Ip.set, if_neg e]
      exact (hc.block _ (Array.getElem?_eq_some_iff.1 h2).1 (hv i e _ (by rw [h1]; simp))).trans h2
     | opq => trivial
     | cur g =>
      have this : I.F i = [g.1] ∧ I.B i = g.1 ∧ CuB I.Z w g := this
      refine ⟨by simpa only [Ip.set, if_neg e] using this.1, by simpa only [Ip.set, if_neg e] using this.2.1, ?_⟩
      exact this.2.2.congr (hc.block _ this.2.2.lt (hv i e _ (by rw [this.1]; simp))) fun b hb hz => ⟨hz, hc.block b hb (hZ b hz)⟩
     | mp b f =>
      have this : I.F i = [b] ∧ MapB w b f := this
      exact ⟨by simpa only [Ip.set, if_neg e] using this.1, this.2.congr (hc.block _ this.2.lt (hv i e _ (by rw [this.1]; simp)))⟩
     | kept K => exact ⟨by simp only [Ip.set, if_neg e]; exact this.1, fun x hx => ⟨(hc.block x.1 (h.old _ (this.2 x hx).2) (hZ _ (this.2 x hx).2)).trans (this.2 x hx).1, (this.2 x hx).2⟩⟩
     | hdr j x =>
      refine ⟨by simp only [Ip.set, if_neg e]; exact this.1, fun k hk => ?_⟩
      have := this.2 k hk
      simp only [Ip.set]
      split
      · rename_i e'; rw [← e']; exact this
      · exact this
 · rcases key i r' hi with ⟨rfl, rfl⟩ | ⟨e, y, hy, rfl⟩
   · rw [Fid]; exact ⟨hG.1, fun b hb => ⟨(hG.2 b hb).1, (hG.2 b hb).2.2.1⟩⟩
   · rw [Foth i e]
     exact ⟨(h.own i y hy).1, fun b hb => ⟨((h.own i y hy).2 b hb).1, ((h.own i y hy).2 b hb).2.chg hc (hv i e b hb)⟩⟩
theorem set_split {α : Type} {l : List α} {i : Nat} {x : α} (y : α) (h : l[i]? = some x) : l = l.take i ++ x :: l.drop (i + 1) ∧ l.set i y = l.take i ++ y :: l.drop (i + 1) := by
 obtain ⟨hi, rfl⟩ := List.getElem?_eq_some_iff.1 h
 refine ⟨?_, List.set_eq_take_append_cons_drop .. |>.trans (if_pos hi)⟩
 rw [← List.drop_eq_getElem_cons hi, List.take_append_drop]
theorem R_store_pr {id k i p : Nat} {t : TypeId} {x y : Operand} {rows : List (List T)} {row : List T} {A0 : A} {σ' : St} {ts : List T} {ag : Bool} {n : Nat} (ho : o.op = .store t x y) (hg : o.guard = none) (hdn : o.dst = none) (hy : Get σ true y A0) (ha : absorb σ (cellsA A0) = some (σ', ts))
 (hx : Get σ' true x (.one (.pr id k i p))) (hs : look σ'.res id = some (.row k rows)) (hi : rows[i]? = some row) (ht : tyB P t ag n = true) (he : (cellsA A0).all E.cell1 = true) (hl : Nat.beq (cellsA A0).length n = true) (hn : Nat.ble (p + n) row.length = true) (hold : ((row.drop p).take n).all T.isV = true) :
 Op1 P ops o σ (σ'.upd id (.row k (rows.set i (row.take p ++ ts ++ row.drop (p + n))))) :=
 .skip hg fun w0 a w ⟨I, hr⟩ => by
  obtain ⟨ds, hd1, hd2, hd3⟩ := (hy.va hr rfl).cells he
  have hdl := VEs_len hd2
  obtain ⟨I', G, r1, r2, r3, r4, _⟩ := RelI.absorb ha hr hd2
  obtain ⟨g, n', m', hg1, hv⟩ : VE I' w (.pr id k i p) (a.eval x) := hx.va r1 rfl
  have hC : C true w (.sl k rows) _ _ := r1.res id _ hs
  have own := r1.own id _ hs
  have hlt := r1.lt id
  simp only [C] at hC
  obtain ⟨a0, len, cap, g1, g2, g3, g4, g5⟩ := hC
  have hlti : i < rows.length := (List.getElem?_eq_some_iff.1 hi).1
  have hn' := Nat.le_of_ble_eq_true hn
  have hl' := Nat.eq_of_beq_eq_true hl
  rcases g5 with ⟨g5, _⟩ | ⟨b, off, Gr, rfl, hF, g6, g7, g8⟩
  · omega
  obtain ⟨rfl, cur, e, hcur, hcs⟩ := g7 trivial
  rw [hg1] at g1
  cases g1
  rw [hF] at own hlt
  obtain ⟨u1, xs, u2, u3, u4⟩ := g8.flat
  simp only [Nat.zero_add] at u4
  obtain ⟨s1, s2⟩ := set_split (row.take p ++ ts ++ row.drop (p + n)) hi
  have hrow : row = row.take p ++ ((row.drop p).take n ++ row.drop (p + n)) := by
   rw [← List.drop_drop, List.take_append_drop, List.take_append_drop]
  have hrk : row.length = k := u1 row (List.mem_of_getElem? hi)
  have e1 : rows.flatten = ((rows.take i).flatten ++ row.take p) ++ ((row.drop p).take n ++ (row.drop (p + n) ++ (rows.drop (i + 1)).flatten)) := by
   conv => lhs; rw [s1, hrow]
   simp
  rw [e1] at u2
  obtain ⟨x1, x23, F1, F23, rfl, rfl, v1, v2, v3⟩ := u2.split
  obtain ⟨x2, x3, F2, F3, rfl, rfl, v4, v5, v6⟩ := v2.split
  obtain ⟨_, rfl⟩ := Cs_flat (o' := true) (w' := w) hold v4
  have hfl : ((rows.take i).flatten).length = i * k := by
   have key : ∀ (l : List (List T)), (∀ r ∈ l, r.length = k) → l.flatten.length = l.length * k := by
    intro l
    induction l with
    | nil => intro _; simp
    | cons r l ih => intro h; rw [List.flatten_cons, List.length_append, ih fun r hr => h r (by simp [hr]), h r (by simp), List.length_cons, Nat.succ_mul]; omega
   rw [key _ fun r hr => u1 r (List.mem_of_mem_take hr), List.length_take, Nat.min_eq_left (Nat.le_of_lt hlti)]
  have lx1 : x1.length = i * k + p := by rw [v3, List.length_append, hfl, List.length_take]; omega
  have lx2 : x2.length = n := by rw [v6, List.length_take, List.length_drop]; omega
  have hdn' : ds.length = n := hdl.trans hl'
  have htot : (i * k + p) + n + x3.length = rows.length * k := by
   have := u3
   simp only [List.length_append] at this
   omega
  have hcurl : cur.toList = x1 ++ (x2 ++ x3) ++ cur.toList.drop (x1 ++ (x2 ++ x3)).length := by
   apply List.ext_getElem?
   intro j
   by_cases hj : j < (x1 ++ (x2 ++ x3)).length
   · have := u4 j _ (List.getElem?_eq_getElem hj)
     simp only [World.cell?, hcur] at this
     rw [List.getElem?_append_left hj, List.getElem?_eq_getElem hj]
     simpa using this
   · rw [List.getElem?_append_right (by omega), List.getElem?_drop]
     congr 1
     omega
  have hst := run_storeCells_at P g (i * k + p) e ds 0 cur w hcur (by rw [hcs]; have := Nat.mul_le_mul_right k g3; rw [← g2] at this; simp; omega) hd3
  simp only [Nat.add_zero] at hst
  have hnew : cur.toList.take (i * k + p) ++ ds ++ cur.toList.drop (i * k + p + ds.length) = x1 ++ (ds ++ x3) ++ cur.toList.drop (x1 ++ (x2 ++ x3)).length := by
   rw [hcurl]
   generalize cur.toList.drop (x1 ++ (x2 ++ x3)).length = tl
   have t1 : (x1 ++ (x2 ++ x3) ++ tl).take (i * k + p) = x1 := by rw [List.append_assoc, ← lx1, List.take_left' rfl]
   have t2 : (x1 ++ (x2 ++ x3) ++ tl).drop (i * k + p + ds.length) = x3 ++ tl := by
    rw [← List.drop_drop, List.append_assoc, ← lx1, List.drop_left' rfl, List.append_assoc, hdn', ← lx2, List.drop_left' rfl]
   rw [t1, t2]
   have t3 : (x1 ++ (x2 ++ x3) ++ tl).drop (x1 ++ (x2 ++ x3)).length = tl := List.drop_left' rfl
   simp
  rw [hnew] at hst
  generalize htl : cur.toList.drop (x1 ++ (x2 ++ x3)).length = tl at hst
  have hb : g ∈ I'.F id := by rw [hF]; simp
  have hgG : ∀ c ∈ G, c ≠ g := fun c hc e => (r4 c hc).2.2.2.2 id (e ▸ hb)
  have hgF : ∀ c ∈ F1 ++ ([] ++ F3), c ≠ g := fun c hc e => (List.nodup_cons.1 own.1).1 (e ▸ hc)
  have hch : Chg w (w.setRow g (x1 ++ (ds ++ x3) ++ tl).toArray) (I'.F id) :=
   ⟨rfl, rfl, rfl, by simp [World.setRow], fun c _ hk => setRow_other w g c _ (fun e => hk (by rw [hF, e]; simp))⟩
  have hset := setRow_heap w g cur (x1 ++ (ds ++ x3) ++ tl).toArray e (0, 0) hcur
  have hoth : ∀ c, c ≠ g → (w.setRow g (x1 ++ (ds ++ x3) ++ tl).toArray).heap[c]? = w.heap[c]? := fun c hc => setRow_other w g c _ hc
  have hsz : (w.setRow g (x1 ++ (ds ++ x3) ++ tl).toArray).heap.size = w.heap.size := by simp [World.setRow]
  refine ⟨w.setRow g (x1 ++ (ds ++ x3) ++ tl).toArray, ?_, I'.set id (g :: (F1 ++ (G ++ F3))) (I'.hd id) (I'.B id), ?_⟩
  · have hsz' : (a.eval y).cells.size = n := by rw [hd1]; simpa using hdn'
    simp [execOp, ho, hv, Instr.storeAt, Instr.sureAddr, storeVar, tyB_size ht, hd1, hst]
    omega
  · rw [hdn]
    refine r1.upd hs hch ⟨List.nodup_cons.2 ⟨fun hm => ?_, ?_⟩, fun c hc => ?_⟩ ?_
    · rcases List.mem_append.1 hm with hm | hm
      · exact hgF g (by simp [hm]) rfl
      · rcases List.mem_append.1 hm with hm | hm
        · exact hgG g hm rfl
        · exact hgF g (by simp [hm]) rfl
    · have hnd := (List.nodup_cons.1 own.1).2
      rw [List.nil_append] at hnd
      obtain ⟨d1, d2, d3⟩ := List.nodup_append.1 hnd
      have hGF : ∀ c ∈ G, c ∉ F1 ∧ c ∉ F3 := fun c hc => ⟨fun h => (r4 c hc).2.2.2.2 id (by rw [hF]; simp [h]), fun h => (r4 c hc).2.2.2.2 id (by rw [hF]; simp [h])⟩
      refine List.nodup_append.2 ⟨d1, List.nodup_append.2 ⟨r3, d2, fun c hc d hd e => (hGF c hc).2 (e ▸ hd)⟩, fun c hc d hd e => ?_⟩
      rcases List.mem_append.1 hd with hd | hd
      · exact (hGF d hd).1 (e ▸ hc)
      · exact d3 c hc d hd e
    · by_cases hcg : c = g
      · subst hcg
        exact ⟨(own.2 c (by simp)).1, by rw [hsz]; exact g6, ⟨.inl _, e, hset⟩, .inl hb⟩
      · have hold' : c ∈ F1 ++ ([] ++ F3) → w0.own c ∧ c < (w.setRow g (x1 ++ (ds ++ x3) ++ tl).toArray).heap.size ∧ Thaw (w.setRow g (x1 ++ (ds ++ x3) ++ tl).toArray) c ∧ (c ∈ I'.F id ∨ w.heap.size ≤ c ∨ Free I' w0 w c) := fun hm => by
         obtain ⟨o1, cc, ee, o2⟩ := own.2 c (List.mem_cons_of_mem _ hm)
         exact ⟨o1, by rw [hsz]; exact (hlt c (List.mem_cons_of_mem _ hm)).1, ⟨cc, ee, (hoth c hcg).trans o2⟩, .inl (by rw [hF]; exact List.mem_cons_of_mem _ hm)⟩
        rcases List.mem_cons.1 hc with hc | hc
        · exact absurd hc hcg
        · rcases List.mem_append.1 hc with hc | hc
          · exact hold' (by simp [hc])
          · rcases List.mem_append.1 hc with hc | hc
            · obtain ⟨f1, f2, ⟨cc, ee, f3⟩, f4⟩ := r4 c hc
              exact ⟨f1, by rw [hsz]; exact f2, ⟨cc, ee, (hoth c hcg).trans f3⟩, .inr (.inr ⟨f1, f2, ⟨cc, ee, f3⟩, f4⟩)⟩
            · exact hold' (by simp [hc])
    · show C true _ _ _ _
      simp only [Ip.set, if_true]
      unfold C
      refine ⟨_, _, _, hg1, by simpa using g2, g3, g4, .inr ⟨g, 0, F1 ++ (G ++ F3), rfl, rfl, by rw [hsz]; exact g6, fun _ => ⟨rfl, _, e, hset, ?_⟩, Rws.of (xs := x1 ++ (ds ++ x3)) (fun r hm => ?_) ?_ fun j u hj => ?_⟩⟩
      · rw [← hcs]
        have := congrArg List.length hcurl
        rw [htl] at this
        simp only [List.length_append, Array.length_toList] at this
        simp only [List.size_toArray, List.length_append]
        omega
      · rcases List.mem_or_eq_of_mem_set hm with hm | rfl
        · exact u1 r hm
        · have := Cs.len r2
          simp only [List.length_append, List.length_take, List.length_drop]
          omega
      · rw [s2]
        have ef : (rows.take i ++ (row.take p ++ ts ++ row.drop (p + n)) :: rows.drop (i + 1)).flatten = ((rows.take i).flatten ++ row.take p) ++ (ts ++ (row.drop (p + n) ++ (rows.drop (i + 1)).flatten)) := by simp
        rw [ef]
        exact (v1.congr fun c hc => hoth c (hgF c (by simp [hc]))).append ((r2.congr fun c hc => hoth c (hgG c hc)).append (v5.congr fun c hc => hoth c (hgF c (by simp [hc]))))
      · simp only [World.cell?, hset, Nat.zero_add]
        simp only [Option.isSome_none, Bool.false_eq_true, if_false, List.getElem?_toArray]
        rw [List.getElem?_append_left (List.getElem?_eq_some_iff.1 hj).1]
        exact hj
theorem R_shl1 {t t' : TypeId} {x y : Operand} {n : Int} {m : Int} (ho : o.op = .binOp .shl t x y t') (hg : Grd ops o σ q) (hd : o.dst.all (fun d => Nat.blt d σ.n) = true) (hx : Get σ q x (.one (.t (.v (.int .i64 n))))) (hy : Get σ q y (.one (.t (.v (.int .i64 m)))))
 (hb : q = true → 0 ≤ m ∧ m ≤ 63 ∧ 0 ≤ n ∧ n * 2 ^ m.toNat ≤ 9223372036854775807) : Op1 P ops o σ (σ.put o.dst (q, .a (.one (.t (.v (.int .i64 (n * 2 ^ m.toNat))))))) :=
 R_bin ho hg hd hx hy guard_int (h := fun hq w => by
  obtain ⟨h1, h2, h3, h4⟩ := hb hq
  have e1 : min m.toNat IntKind.i64.bits = m.toNat := by simp [IntKind.bits]; omega
  have h5 : 0 ≤ n * 2 ^ m.toNat := Int.mul_nonneg h3 (Int.pow_nonneg (by omega))
  simp only [binOp, Op.shift, e1]
  rw [if_neg (by omega), wrap_in ⟨by omega, h4⟩]
  rfl)
theorem R_or_int {t t' : TypeId} {x y : Operand} {n m : Int} (ho : o.op = .binOp .or t x y t') (hg : Grd ops o σ q) (hd : o.dst.all (fun d => Nat.blt d σ.n) = true) (hx : Get σ q x (.one (.t (.v (.int .i64 n))))) (hy : Get σ q y (.one (.t (.v (.int .i64 m)))))
 (hb : q = true → 0 ≤ n ∧ n ≤ 9223372036854775807 ∧ 0 ≤ m ∧ m ≤ 9223372036854775807) : Op1 P ops o σ (σ.put o.dst (q, .a (.one (.t (.v (.int .i64 ((n.toNat ||| m.toNat : Nat) : Int))))))) :=
 R_bin ho hg hd hx hy guard_int (h := fun hq w => by
  obtain ⟨h1, h2, h3, h4⟩ := hb hq
  have b1 : n.toNat < 2 ^ 63 := by omega
  have b2 : m.toNat < 2 ^ 63 := by omega
  have b3 := Nat.or_lt_two_pow b1 b2
  have e1 : (BitVec.ofInt 64 n ||| BitVec.ofInt 64 m).toNat = (n.toNat ||| m.toNat) := by
   rw [BitVec.toNat_or, BitVec.toNat_ofInt, BitVec.toNat_ofInt]
   congr 1
   · omega
   · omega
  simp only [binOp, Op.intBits]
  simp only [ne_eq, not_true_eq_false, if_false]
  show (pure (Value.int .i64 (IntKind.i64.wrap ((BitVec.ofInt 64 n ||| BitVec.ofInt 64 m).toNat : Int))) : Sem Value).run P w = _
  rw [e1, wrap_in ⟨by omega, by omega⟩]
  rfl)
end
end Go.Q
namespace Go.Q
section
variable {P : Program} {ops : Array Oper} {o : Oper} {σ' : St} {w0 : Base} {Q : Exit → St → Prop} {n : Nat} {sl : List (Nat × (Bool × S))} {rs : List (Nat × R)} {l : List Oper}
theorem all_fresh {σ : St} {rl : List (Nat × R)} (h : ∀ z ∈ rl, σ.has z.1 = false) : (rl.all fun x => !σ.has x.1) = true := by
 rw [List.all_eq_true]
 intro x hx
 rw [h x hx]
 rfl
theorem R_movet {σ : St} {q p : Bool} {t : Nat} {x : List A} (ho : o.op = .move (.tmp t)) (hg : Grd ops o σ q) (hd : o.dst.all (fun d => Nat.blt d σ.n) = true) (hx : look σ.slots t = some (p, .tup x)) (hp : q = true → p = true) : Op1 P ops o σ (σ.put o.dst (q, .tup x)) :=
 .val hg hd fun I w0 a w hr hq => by
  have := hr.slots _ _ hx
  rw [hp hq] at this
  exact ⟨a.eval (.tmp t), by simp [execOp, ho], this⟩
theorem AWl.absadd {d id : Nat} {r : R} {x : Bool × S} (ho : Op1 P ops o ⟨n, sl, rs⟩ ((σ'.add id r).put o.dst x)) (hd : o.dst = some d) (h : AWl P w0 ops Q l ⟨σ'.n, (d, x) :: σ'.slots, (id, r) :: σ'.res⟩) : AWl P w0 ops Q (o :: l) ⟨n, sl, rs⟩ :=
 AWl.op ho (by rw [hd]; exact h)
def puvS (id : Nat) (sl : List (Nat × (Bool × S))) : List (Nat × (Bool × S)) := sl.map fun x => (x.1, (x.2.1, x.2.2.puv id))
def updR (id : Nat) (r : R) (rs : List (Nat × R)) : List (Nat × R) := setR (rs.map fun x => (x.1, x.2.puv id)) id r
theorem AWl.absupd {id : Nat} {r : R} (ho : Op1 P ops o ⟨n, sl, rs⟩ (σ'.upd id r)) (h : AWl P w0 ops Q l ⟨σ'.n, puvS id σ'.slots, updR id r σ'.res⟩) : AWl P w0 ops Q (o :: l) ⟨n, sl, rs⟩ := AWl.op ho h
end
end Go.Q
namespace Go.Q
open Go.RowKit
def E.nv (id : Nat) : E → Bool
 | .vw i _ => !(Nat.beq i id)
 | .sb i _ _ _ => !(Nat.beq i id)
 | _ => true
def A.nv (id : Nat) : A → Bool
 | .one e => e.nv id
 | .agg l => l.all (E.nv id)
def S.nv (id : Nat) : S → Bool
 | .a x => x.nv id
 | .tup l => l.all (A.nv id)
def R.nv (id : Nat) : R → Bool
 | .row _ _ => true
 | .box cs => cs.all (E.nv id)
 | .hdr _ _ => true
 | .kept _ => true
 | .opq => true
 | .cur _ => true
 | .mp _ _ => true
def nvB (id : Nat) (sl : List (Nat × (Bool × S))) (rs : List (Nat × R)) : Bool := sl.all (fun x => x.2.2.nv id) && rs.all (fun x => x.2.nv id)
theorem E.puv_nv {id : Nat} {e : E} (h : e.nv id = true) : e.puv id = e := by
 cases e with
 | vw i x => simp only [E.nv, Bool.not_eq_true'] at h; simp only [E.puv, h, cond_false]
 | sb i k p q => simp only [E.nv, Bool.not_eq_true'] at h; simp only [E.puv, h, cond_false]
 | _ => rfl
theorem map_same {α : Type} {f : α → α} : ∀ {l : List α}, (∀ x ∈ l, f x = x) → l.map f = l
 | [], _ => rfl
 | x :: l, h => by rw [List.map_cons, h x (by simp), map_same fun y hy => h y (by simp [hy])]
theorem A.puv_nv {id : Nat} {x : A} (h : x.nv id = true) : x.puv id = x := by
 cases x with
 | one e => simp only [A.puv, E.puv_nv h]
 | agg l => simp only [A.puv]; rw [map_same fun e he => E.puv_nv (List.all_eq_true.1 h e he)]
theorem S.puv_nv {id : Nat} {x : S} (h : x.nv id = true) : x.puv id = x := by
 cases x with
 | a x => simp only [S.puv, A.puv_nv h]
 | tup l => simp only [S.puv]; rw [map_same fun e he => A.puv_nv (List.all_eq_true.1 h e he)]
theorem R.puv_nv {id : Nat} {x : R} (h : x.nv id = true) : x.puv id = x := by
 cases x with
 | row k rows => rfl
 | box cs => simp only [R.puv]; rw [map_same fun e he => E.puv_nv (List.all_eq_true.1 h e he)]
 | hdr j x => rfl
 | kept K => rfl
 | opq => rfl
 | cur g => rfl
 | mp b f => rfl
def overL : List E → List E → List E
 | [], cs => cs
 | e :: l, cs => e :: overL l (cs.drop 1)
def setC : List E → Nat → List E → List E
 | cs, 0, l => overL l cs
 | [], _ + 1, l => l
 | c :: cs, p + 1, l => c :: setC cs p l
theorem overL_eq : ∀ (l cs : List E), overL l cs = l ++ cs.drop l.length
 | [], cs => rfl
 | e :: l, cs => by rw [overL, overL_eq l]; simp
theorem setC_eq : ∀ (cs : List E) (p : Nat) (l : List E), p ≤ cs.length → setC cs p l = setL cs p l
 | cs, 0, l, _ => by unfold setC; rw [overL_eq]; simp [setL]
 | [], p + 1, l, h => by simp at h
 | c :: cs, p + 1, l, h => by rw [setC, setC_eq cs p l (by simpa using h)]; simp [setL, Nat.succ_add]
section
variable {P : Program} {ops : Array Oper} {o : Oper} {σ : St} {q : Bool}
theorem upd_nv {id : Nat} {r : R} (h : nvB id σ.slots σ.res = true) : σ.upd id r = ⟨σ.n, σ.slots, setR σ.res id r⟩ := by
 simp only [nvB, Bool.and_eq_true, List.all_eq_true] at h
 unfold St.upd
 rw [map_same fun x hx => ?_, map_same fun x hx => ?_]
 · rw [R.puv_nv (h.2 x hx)]
 · rw [S.puv_nv (h.1 x hx)]
theorem R_store_pb {id p : Nat} {t : TypeId} {x y : Operand} {cs : List E} {A0 : A} {ag : Bool} {n : Nat} (ho : o.op = .store t x y) (hg : o.guard = none) (hdn : o.dst = none) (hx : Get σ true x (.one (.pp id p))) (hy : Get σ true y A0) (hs : look σ.res id = some (.box cs)) (ht : tyB P t ag n = true)
 (he : (cellsA A0).all E.cell1 = true) (hl : Nat.beq (cellsA A0).length n = true) (hn : Nat.ble (p + n) cs.length = true) (hv1 : nvB id σ.slots σ.res = true) (hv2 : (cellsA A0).all (E.nv id) = true) : Op1 P ops o σ ⟨σ.n, σ.slots, setR σ.res id (.box (setC cs p (cellsA A0)))⟩ :=
 .skip hg fun w0 a w ⟨I, hr⟩ => by
  have hv : a.eval x = .pointer (some ⟨I.B id, p, none⟩) := hx.va hr rfl
  obtain ⟨ds, h1, h2, h3⟩ := (hy.va hr rfl).cells he
  obtain ⟨hF, vs, ty, g1, g2⟩ := hr.res id _ hs
  have hn' := Nat.le_of_ble_eq_true hn
  have hl' := Nat.eq_of_beq_eq_true hl
  have e1 := VEs_len h2
  have e2 := VEs_len g2
  have hst := run_storeCells_at P (I.B id) p ty ds 0 vs.toArray w g1 (by simp; omega) h3
  simp only [Nat.add_zero] at hst
  have hsz : (a.eval y).cells.size = n := by rw [h1]; simp; omega
  have hc : Chg w (w.setRow (I.B id) (vs.take p ++ ds ++ vs.drop (p + ds.length)).toArray) (I.F id) :=
   ⟨rfl, rfl, rfl, by simp [World.setRow], fun k _ hk => setRow_other w (I.B id) k _ (fun e => hk (by rw [hF, e]; simp))⟩
  refine ⟨w.setRow (I.B id) (vs.take p ++ ds ++ vs.drop (p + ds.length)).toArray, ?_, I.set id [I.B id] (I.hd id) (I.B id), ?_⟩
  · simp [execOp, ho, hv, Instr.storeAt, Instr.sureAddr, storeVar, tyB_size ht, h1, hst]
    omega
  · rw [hdn]
    have hcs : cs.all (E.nv id) = true := by
     have key : ∀ (l : List (Nat × R)), (l.all fun x => x.2.nv id) = true → look l id = some (.box cs) → cs.all (E.nv id) = true := by
      intro l
      induction l with
      | nil => intro _ h; cases h
      | cons y l ih =>
       obtain ⟨j, y⟩ := y
       intro ha hk
       simp only [List.all_cons, Bool.and_eq_true] at ha
       rw [look_cons] at hk
       split at hk
       · cases hk; exact ha.1
       · exact ih ha.2 hk
     simp only [nvB, Bool.and_eq_true] at hv1
     exact key _ hv1.2 hs
    have hall : ∀ e ∈ setL cs p (cellsA A0), e.puv id = e := by
     intro e hm
     simp only [setL, List.mem_append] at hm
     rcases hm with (hm | hm) | hm
     · exact E.puv_nv (List.all_eq_true.1 hcs e (List.mem_of_mem_take hm))
     · exact E.puv_nv (List.all_eq_true.1 hv2 e hm)
     · exact E.puv_nv (List.all_eq_true.1 hcs e (List.mem_of_mem_drop hm))
    rw [← upd_nv hv1, setC_eq cs p _ (by omega)]
    refine hr.upd hs hc ⟨by simp, fun b hb => ?_⟩ ⟨by simp [Ip.set], _, ty, by simp only [Ip.set, if_true]; exact setRow_heap w (I.B id) vs.toArray _ ty (0, 0) g1, ?_⟩
    · simp only [List.mem_singleton] at hb
      subst hb
      exact ⟨((hr.own id _ hs).2 _ (by rw [hF]; simp)).1, by simp [World.setRow]; exact (Array.getElem?_eq_some_iff.1 g1).1, ⟨.inl _, ty, setRow_heap w (I.B id) vs.toArray _ ty (0, 0) g1⟩, .inl (by rw [hF]; simp)⟩
    · have hlist : VEs I w (setL cs p (cellsA A0)) (vs.take p ++ ds ++ vs.drop (p + ds.length)) := by
       rw [setL, ← e1]
       exact VEs_append (VEs_append (VEs_take p g2) h2) (VEs_drop _ g2)
      have := hlist.puv (G := [I.B id]) hc (fun b hz hb => (hr.lt id b hb).2 hz) (fun i hi => hr.apart i id hi)
      rwa [map_same hall] at this
variable {w0 : Base} {Q : Exit → St → Prop} {n : Nat} {sl : List (Nat × (Bool × S))} {rs : List (Nat × R)} {l : List Oper}
theorem AWl.chgb {rs' : List (Nat × R)} (ho : Op1 P ops o ⟨n, sl, rs⟩ ⟨n, sl, rs'⟩) (h : AWl P w0 ops Q l ⟨n, sl, rs'⟩) : AWl P w0 ops Q (o :: l) ⟨n, sl, rs⟩ := AWl.op ho h
end
end Go.Q
