import Derived.Test.YtoealglkenhphaaGreatAbsGxb
set_option linter.unusedVariables false
set_option linter.unusedSimpArgs false
namespace Go.Q
open Go.RowKit
section
variable {P : Program} {ops : Array Oper} {o : Oper} {σ : St} {q : Bool}
theorem C.hdr {o : Bool} {w : World} {k : Nat} {rows : List (List T)} {a : Option Addr} {n m : Nat} {F : List Nat} (h : C o w (.sl k rows) (.slice a n m) F) : rows.length = n ∧ n ≤ m ∧ m ≤ maxLen := by
 simp only [C] at h
 obtain ⟨a', n', m', e, h1, h2, h3, _⟩ := h
 cases e
 exact ⟨h1, h2, h3⟩
theorem C.blk {w : World} {k : Nat} {rows : List (List T)} {a : Option Addr} {n m : Nat} {F : List Nat} (h : C true w (.sl k rows) (.slice a n m) F) : (m = 0 ∧ F = [] ∧ rows = []) ∨ ∃ g G cur e, a = some ⟨g, 0, none⟩ ∧ F = g :: G ∧ w.heap[g]? = some (.cells cur e (0, 0)) ∧ cur.size = m * k ∧ Rws true w g k 0 rows G := by
 simp only [C] at h
 obtain ⟨a', n', m', e, h1, h2, h3, h4⟩ := h
 cases e
 rcases h4 with ⟨h4, rfl, h5⟩ | ⟨b, off, G, rfl, rfl, h6, h7, h8⟩
 ·exact .inl ⟨h5 trivial, rfl, List.eq_nil_of_length_eq_zero (by omega)⟩
 ·obtain ⟨rfl, cur, e, h9, h10⟩ := h7 trivial
  exact .inr ⟨b, G, cur, e, rfl, rfl, h9, h10, h8⟩
theorem Le.toTl {n : Nat} {sl : List (Nat × (Bool × S))} {rs : List (Nat × R)} {d id k : Nat} {rows : List (List T)} (hd : look sl d = some (true, .a (.one (.rf id)))) (hs : look rs id = some (.row k rows)) : Le ⟨n, sl, rs⟩ ⟨n, (d, (true, .a (.one (.tl id k 0)))) :: sl, rs⟩ := fun w0 a w ⟨I, hr⟩ => by
 refine ⟨I, hr.reslot (x := (true, .a (.one (.tl id k 0)))) ?_⟩
 obtain ⟨h1, a0, n0, m0, h2⟩ : VE I w (.rf id) (a.tmps.getD d undef) := hr.slots _ _ hd
 have hC : C true w (.sl k rows) (I.hd id) (I.F id) := hr.res id _ hs
 rw [h1] at h2
 rw [h2] at hC
 obtain ⟨e1, e2, e3⟩ := hC.hdr
 refine ⟨a0, a0, n0, m0, h2, by rw [h1, h2]; rfl, Nat.zero_le _, e2, fun hm => ?_⟩
 rcases hC.blk with ⟨h3, _⟩ | ⟨g, G, cur, e, h4, _⟩
 ·omega
 ·exact ⟨g, h4, by rw [h4]; simp⟩
theorem R_len_tl {id k j : Nat} {rows : List (List T)} {x : Operand} {t e : TypeId} (ho : o.op = .call { callee := .builtin .len, args := #[x], argTypes := #[t] }) (hg : Grd ops o σ q) (hd : o.dst.all (fun d => Nat.blt d σ.n) = true)
  (hx : Get σ q x (.one (.tl id k j))) (hs : look σ.res id = some (.row k rows)) (hu : P.underlying t = some (.slice e)) : Op1 P ops o σ (σ.put o.dst (q, .a (.one (.t (.v (.int .i64 ((rows.length - j : Nat) : Int))))))) :=
 .val hg hd fun I w0 a w hr hq => by
  obtain ⟨a0, a', n, m, h1, h2, h3, h4, h5⟩ : VE I w (.tl id k j) (a.eval x) := hx.va hr hq
  have hC : C true w (.sl k rows) (I.hd id) (I.F id) := hr.res id _ hs
  rw [h1] at hC
  obtain ⟨e1, e2, e3⟩ := hC.hdr
  refine ⟨.int .i64 ((rows.length - j : Nat) : Int), ?_, [], by unfold C; exact ⟨rfl, rfl, rfl⟩, by simp⟩
  simp [execOp, ho, resolve, invoke, builtin, Builtin.len_, h2, run_underlying hu, Builtin.lenOf, e1]
  rfl
theorem R_indexAddr_tl {id k j : Nat} {t e : TypeId} {x y : Operand} {n : Int} {ag : Bool} {rows : List (List T)} {row : List T} (ho : o.op = .indexAddr t x y) (hg : Grd ops o σ q) (hd : o.dst.all (fun d => Nat.blt d σ.n) = true) (hx : Get σ q x (.one (.tl id k j)))
  (hs : look σ.res id = some (.row k rows)) (hy : Get σ q y (.one (.t (.v (.int .i64 n))))) (hu : P.underlying t = some (.slice e)) (hk : tyB P e ag k = true) (hi : q = true → 0 ≤ n ∧ rows[j + n.toNat]? = some row) : Op1 P ops o σ (σ.put o.dst (q, .a (.one (.pr id k (j + n.toNat) 0)))) :=
 .val hg hd fun I w0 a w hr hq => by
  obtain ⟨a0, a', N, M, h1, h2, h3, h4, h5⟩ : VE I w (.tl id k j) (a.eval x) := hx.va hr hq
  have hC : C true w (.sl k rows) (I.hd id) (I.F id) := hr.res id _ hs
  rw [h1] at hC
  obtain ⟨e1, e2, e3⟩ := hC.hdr
  obtain ⟨h0, hi⟩ := hi hq
  have hlt : j + n.toNat < rows.length := (List.getElem?_eq_some_iff.1 hi).1
  obtain ⟨g, rfl, rfl⟩ := h5 (by omega)
  have hn : n < ((N - j : Nat) : Int) := by omega
  refine ⟨.pointer (some ⟨g, j * k + n.toNat * k, none⟩), ?_, g, N, M, h1, by rw [Nat.add_mul]; simp⟩
  simp [execOp, ho, hy.int hr hq, h2, Instr.indexAt, asIntOf, run_underlying hu, h0, hn, tyB_size hk, Addr.add_lit]
theorem R_slice_tl {id k j m : Nat} {t e : TypeId} {x : Operand} {lo : Option Operand} {ag : Bool} {rows : List (List T)} (ho : o.op = .slice t x lo none none) (hg : Grd ops o σ q) (hd : o.dst.all (fun d => Nat.blt d σ.n) = true) (hx : Get σ q x (.one (.tl id k j)))
  (hs : look σ.res id = some (.row k rows)) (hl : Bnd σ q lo 0 m) (hu : P.underlying t = some (.slice e)) (hk : tyB P e ag k = true) (hb : q = true → j + m ≤ rows.length) : Op1 P ops o σ (σ.put o.dst (q, .a (.one (.tl id k (j + m))))) :=
 .val hg hd fun I w0 a w hr hq => by
  obtain ⟨a0, a', N, M, h1, h2, h3, h4, h5⟩ : VE I w (.tl id k j) (a.eval x) := hx.va hr hq
  have hC : C true w (.sl k rows) (I.hd id) (I.F id) := hr.res id _ hs
  rw [h1] at hC
  obtain ⟨e1, e2, e3⟩ := hC.hdr
  have hb := hb hq
  have hrun : (Instr.sliceAt t (.slice a' (N - j) (M - j)) (lo.map a.eval) none none).run P w = .ok (.slice (if M - j = m then a' else a'.map (·.add (m * k))) (N - j - m) (M - j - m)) w := by
   have b1 : m ≤ M - j := by omega
   have b2 : m ≤ N - j := by omega
   have b3 : N - j ≤ M - j := by omega
   rcases hl.val hr hq with ⟨h6, rfl⟩ | h6 <;> rw [h6] <;> simp [Instr.sliceAt, Instr.slice, run_underlying hu, Instr.sliceBounds, Instr.sliceBound, asIntOf, tyB_size hk, b1, b2, b3]
  rw [Nat.sub_sub, Nat.sub_sub] at hrun
  refine ⟨.slice (if M - j = m then a' else a'.map (·.add (m * k))) (N - (j + m)) (M - (j + m)), by simp [execOp, ho, h2, hrun], a0, (if M - j = m then a' else a'.map (·.add (m * k))), N, M, h1, rfl, by omega, h4, fun hm => ?_⟩
  obtain ⟨g, rfl, rfl⟩ := h5 (by omega)
  refine ⟨g, rfl, ?_⟩
  rw [if_neg (by omega)]
  simp [Addr.add_lit, Nat.add_mul]
theorem R_slice_rf {id k m : Nat} {t e : TypeId} {x : Operand} {lo : Option Operand} {ag : Bool} {rows : List (List T)} (ho : o.op = .slice t x lo none none) (hg : Grd ops o σ q) (hd : o.dst.all (fun d => Nat.blt d σ.n) = true) (hx : Get σ q x (.one (.rf id)))
  (hs : look σ.res id = some (.row k rows)) (hl : Bnd σ q lo 0 m) (hu : P.underlying t = some (.slice e)) (hk : tyB P e ag k = true) (hb : q = true → m ≤ rows.length) : Op1 P ops o σ (σ.put o.dst (q, .a (.one (.tl id k m)))) :=
 .val hg hd fun I w0 a w hr hq => by
  obtain ⟨h1, a0, N, M, h2⟩ : VE I w (.rf id) (a.eval x) := hx.va hr hq
  have hC : C true w (.sl k rows) (I.hd id) (I.F id) := hr.res id _ hs
  rw [← h1, h2] at hC
  obtain ⟨e1, e2, e3⟩ := hC.hdr
  have hb := hb hq
  have hrun : (Instr.sliceAt t (.slice a0 N M) (lo.map a.eval) none none).run P w = .ok (.slice (if M = m then a0 else a0.map (·.add (m * k))) (N - m) (M - m)) w := by
   have b1 : m ≤ M := by omega
   have b2 : m ≤ N := by omega
   rcases hl.val hr hq with ⟨h6, rfl⟩ | h6 <;> rw [h6] <;> simp [Instr.sliceAt, Instr.slice, run_underlying hu, Instr.sliceBounds, Instr.sliceBound, asIntOf, tyB_size hk, b1, b2, e2]
  refine ⟨.slice (if M = m then a0 else a0.map (·.add (m * k))) (N - m) (M - m), by simp [execOp, ho, h2, hrun], a0, (if M = m then a0 else a0.map (·.add (m * k))), N, M, by rw [← h1, h2], rfl, by omega, e2, fun hm => ?_⟩
  rcases hC.blk with ⟨h3, _⟩ | ⟨g, G, cur, e, rfl, _⟩
  ·omega
  ·refine ⟨g, rfl, ?_⟩
   rw [if_neg (by omega)]
   simp [Addr.add_lit]
theorem run_append_at (w : World) (t ty e e0 : TypeId) (i : TypeInfo) (ht : P.underlying t = some (.slice e)) (hi : P.info? e = some i)
  (g p sLen sCap : Nat) (cur : Array Value) (hg : w.heap[g]? = some (.cells cur e0 (0, 0)))
  (a : Addr) (m c : Nat) (news : List Value) (hl : news.length = m * i.size) (hnews : ∀ j u, news[j]? = some u → w.cell? (a.add j) = some u) (h1 : ∀ u ∈ news, u.oneCell' = true)
  (hroom : sLen + m ≤ sCap) (hfit : p + sLen * i.size + news.length ≤ cur.size) :
  (Builtin.append_ #[t, t] ty #[.slice (some ⟨g, p, none⟩) sLen sCap, .slice (some a) m c]).run P w =
   .ok (.slice (some ⟨g, p, none⟩) (sLen + m) sCap) (w.setRow g (cur.toList.take (p + sLen * i.size) ++ news ++ cur.toList.drop (p + sLen * i.size + news.length)).toArray) := by
 have hf := run_firstCells_some (P := P) w i.size m a m c news hl hnews
 have hst := run_storeCells_at P g (p + sLen * i.size) e0 news 0 cur w hg (by simpa using hfit) h1
 simp only [Nat.add_zero] at hst
 simp [Builtin.append_, run_underlying ht, sizeOf, typeInfo, hi, Builtin.lenOf, hroom, hf, Addr.add_lit, hst]
theorem Cs.cell1' {o : Bool} {w : World} {ts : List T} {cs : List Value} {F : List Nat} (h : Cs o w ts cs F) : ∀ u ∈ cs, u.oneCell' = true := by
 intro u hu
 obtain ⟨j, hj⟩ := List.getElem?_of_mem hu
 have hjl := (List.getElem?_eq_some_iff.1 hj).1
 have := h.len
 obtain ⟨c', G', k1, k2, _⟩ := h.get (i := j) (t := ts[j]'(by omega)) (List.getElem?_eq_getElem _)
 rw [hj] at k1; cases k1
 exact k2.cell1
def OpE (P : Program) (ops : Array Oper) (o : Oper) (σ : St) (Φ : St → Prop) : Prop := ∀ w0 a w, Rel w0 σ a w → ∀ (K : Act → World → Prop) (Q : Exit → Act → World → Prop), (∀ σ' a' w', Φ σ' → Rel w0 σ' a' w' → K a' w') →
 if Region.wanted o (yielded ops a.tmps) then o.wp P a w K Q else K (a.put o.dst undef) w
theorem OpE.eff {Φ : St → Prop} (hg : o.guard = none) (h : ∀ w0 a w, Rel w0 σ a w → ∃ v w' σ', (execOp a.eval o).run P w = .ok (.value v) w' ∧ Φ σ' ∧ Rel w0 σ' (a.put o.dst v) w') : OpE P ops o σ Φ := by
 intro w0 a w hr K Q hK
 simp only [Region.wanted, hg, if_true]
 obtain ⟨v, w', σ', h1, h2, h3⟩ := h w0 a w hr
 unfold Oper.wp
 rw [h1]
 exact hK _ _ _ h2 h3
theorem AWl.opE {w0 : Base} {Q : Exit → St → Prop} {l : List Oper} {Φ : St → Prop} (ho : OpE P ops o σ Φ) (h : ∀ σ', Φ σ' → AWl P w0 ops Q l σ') : AWl P w0 ops Q (o :: l) σ := fun a w hr =>
 wpList_step fun K hK => ho w0 a w hr K _ fun σ' a' w' hφ hr' => hK a' w' (h σ' hφ a' w' hr')
theorem R_append_tl {id k j : Nat} {t e : TypeId} {x y : Operand} {A2 : A} {rows rows2 : List (List T)} {z : Value} {bytes : Nat} (ho : o.op = .call { callee := .builtin .append, args := #[x, y], argTypes := #[t, t] }) (hg : o.guard = none) (hd : o.dst.all (fun d => Nat.blt d σ.n) = true)
  (hx : Get σ true x (.one (.tl id k j))) (hs : look σ.res id = some (.row k rows)) (hy : Get σ true y A2) (hq : Sq σ A2 k rows2) (hv1 : rows.flatten.all T.isV = true) (hv2 : rows2.flatten.all T.isV = true) (ht : P.underlying t = some (.slice e)) (hi : (P.info? e).map (fun i => (i.zero, i.size, i.bytes)) = some (some z, k, bytes)) (hzs : z.cells.size = k)
  (hj : j ≤ rows.length) (hb : (rows.length + rows2.length) * bytes ≤ 140737488355328) (hm : rows.length + rows2.length ≤ maxLen) :
  OpE P ops o σ fun σ' => ∃ j' rows', j' ≤ rows'.length ∧ rows'.drop j' = rows.drop j ++ rows2 ∧ rows'.flatten.all T.isV = true ∧ rows'.length ≤ rows.length + rows2.length ∧ σ' = (σ.chg id (.row k rows')).put o.dst (true, .a (.one (.tl id k j'))) :=
 .eff hg fun w0 a w ⟨I, hr⟩ => by
 obtain ⟨a0, a', N, M, h1, h2, h3, h4, h5⟩ : VE I w (.tl id k j) (a.eval x) := hx.va hr rfl
 have hC : C true w (.sl k rows) (I.hd id) (I.F id) := hr.res id _ hs
 have own := hr.own id _ hs
 have hC0 := hC
 rw [h1] at hC
 obtain ⟨e1, e2, e3⟩ := hC.hdr
 obtain ⟨F2, hC2⟩ := hq.val hr (hy.va hr rfl)
 obtain ⟨i, hi1, hi2, hi3, hi4⟩ := info_parts hi
 subst hi3; subst hi4
 have key : ∀ (v' : Value) (w' : World) (j' : Nat) (rows' : List (List T)) (u : Value) (G : List Nat), (Builtin.append_ #[t, t] o.type #[a.eval x, a.eval y]).run P w = .ok v' w' → RelI (I.set id G u (I.B id)) w0 (σ.chg id (.row i.size rows')) a w' → VE (I.set id G u (I.B id)) w' (.tl id i.size j') v' →
   j' ≤ rows'.length → rows'.drop j' = rows.drop j ++ rows2 → rows'.flatten.all T.isV = true → rows'.length ≤ rows.length + rows2.length →
   ∃ v w' σ', (execOp a.eval o).run P w = .ok (.value v) w' ∧ (∃ j' rows', j' ≤ rows'.length ∧ rows'.drop j' = rows.drop j ++ rows2 ∧ rows'.flatten.all T.isV = true ∧ rows'.length ≤ rows.length + rows2.length ∧ σ' = (σ.chg id (.row i.size rows')).put o.dst (true, .a (.one (.tl id i.size j')))) ∧ Rel w0 σ' (a.put o.dst v) w' := by
  intro v' w' j' rows' u G hrun hR hV g1 g2 g3 g4
  exact ⟨v', w', _, by simp [execOp, ho, resolve, invoke, builtin, hrun], ⟨j', rows', g1, g2, g3, g4, rfl⟩, _, hR.put hd hV⟩
 generalize hev : a.eval y = yv at hC2 key
 have hC2' := hC2
 simp only [C] at hC2'
 obtain ⟨a2, m, c, rfl, rfl, g3, g4, g5⟩ := hC2'
 by_cases h0 : rows2 = []
 ·subst h0
  have hrun : (Builtin.append_ #[t, t] o.type #[a.eval x, .slice a2 0 c]).run P w = .ok (a.eval x) w := by
   have hf : ∀ w : World, (Builtin.firstCells i.size 0 (.slice a2 0 c)).run P w = .ok #[] w := by
    intro w; cases a2 <;> simp [Builtin.firstCells, loadCells, loadCellsFrom]
   have h34 : N - j ≤ M - j := by omega
   rw [h2]
   cases a' <;> simp [Builtin.append_, run_underlying ht, sizeOf, typeInfo, hi1, Builtin.lenOf, h34, hf, storeCells]
  have hR := hr.chg hs (Chg.refl _ _) (G := I.F id) (u := I.hd id) (r := .row i.size rows) ⟨own.1, fun b hb => ⟨(own.2 b hb).1, (hr.lt id b hb).1, (own.2 b hb).2, .inl hb⟩⟩ (by show C true _ _ _ _; simpa [Ip.set] using hC0)
  exact key _ w j rows _ _ hrun hR ⟨a0, a', N, M, by simp [Ip.set, h1], h2, h3, h4, h5⟩ hj (by simp) hv1 (by simp)
 have hpos : 0 < rows2.length := List.length_pos_iff.2 h0
 rcases g5 with ⟨g5, _⟩ | ⟨b2, off2, G2, rfl, rfl, g6, _, g8⟩
 ·omega
 obtain ⟨r1, news, r2, r3, r4⟩ := g8.flat
 have hone := r2.cell1'
 obtain ⟨r2', _⟩ := Cs_flat (o' := true) (w' := w) hv2 r2
 have hnews : ∀ j u, news[j]? = some u → w.cell? ((⟨b2, off2, none⟩ : Addr).add j) = some u := fun j u hj => by rw [Addr.add_lit]; exact r4 j u hj
 have h63 : rows.length + rows2.length ≤ 9223372036854775807 := by simp only [maxLen] at hm; omega
 have hdl : (rows.drop j).length = N - j := by simp [e1]
 have hvd : (rows.drop j).flatten.all T.isV = true := by
  have : rows.flatten = (rows.take j).flatten ++ (rows.drop j).flatten := by rw [← List.flatten_append, List.take_append_drop]
  rw [this, List.all_append, Bool.and_eq_true] at hv1
  exact hv1.2
 have grown : ∀ (xs : List Value), Cs true w (rows.drop j).flatten xs [] → xs.length = (N - j) * i.size → (∀ row ∈ rows.drop j, row.length = i.size) →
   (Builtin.append_ #[t, t] o.type #[a.eval x, .slice (some ⟨b2, off2, none⟩) rows2.length c]).run P w = .ok (.slice (some ⟨w.heap.size, 0, none⟩) (N - j + rows2.length) (grownCap w (N - j + rows2.length) (M - j) e))
      (w.drew.alloc (.cells (xs.toArray ++ news.toArray ++ Builtin.zeroCells z.cells (grownCap w (N - j + rows2.length) (M - j) e - (N - j + rows2.length))) e)) →
   M - j < N - j + rows2.length → ∃ v w' σ', (execOp a.eval o).run P w = .ok (.value v) w' ∧ (∃ j' rows', j' ≤ rows'.length ∧ rows'.drop j' = rows.drop j ++ rows2 ∧ rows'.flatten.all T.isV = true ∧ rows'.length ≤ rows.length + rows2.length ∧ σ' = (σ.chg id (.row i.size rows')).put o.dst (true, .a (.one (.tl id i.size j')))) ∧ Rel w0 σ' (a.put o.dst v) w' := by
  intro xs x1 x2 x3 hrun hlt
  have hge := grownCap_ge w (N - j + rows2.length) (M - j) e
  have hle := grownCap_le_maxLen w (N - j + rows2.length) (M - j) e (by omega)
  generalize hcap : grownCap w (N - j + rows2.length) (M - j) e = cap at hrun hge hle
  generalize hobj : xs.toArray ++ news.toArray ++ Builtin.zeroCells z.cells (cap - (N - j + rows2.length)) = arr at hrun
  have hgn : (w.drew.alloc (.cells arr e)).heap[w.heap.size]? = some (.cells arr e (0, 0)) := heap_alloc_new w.drew _
  have hsz : arr.size = cap * i.size := by
   rw [← hobj]
   simp only [Array.size_append, List.size_toArray, size_zeroCells, hzs, x2, r3, ← Nat.add_mul]
   congr 1
   omega
  have hcell : ∀ (q : Nat) (u : Value), (xs ++ news)[q]? = some u → (w.drew.alloc (.cells arr e)).cell? ⟨w.heap.size, q, none⟩ = some u := fun q u hq => by
   have hq' : arr[q]? = some u := by
    have hlt := (List.getElem?_eq_some_iff.1 hq).1
    rw [← hobj, Array.getElem?_append_left (by simpa using hlt)]
    simpa using hq
   simp only [World.cell?, hgn]
   simpa using hq'
  have hch : Chg w (w.drew.alloc (.cells arr e)) (I.F id) := ⟨rfl, rfl, rfl, by simp, fun k hk _ => heap_alloc_old w.drew _ (by simpa using hk)⟩
  have hR := hr.chg hs hch (G := [w.heap.size]) (u := .slice (some ⟨w.heap.size, 0, none⟩) (N - j + rows2.length) cap) (r := .row i.size (rows.drop j ++ rows2)) ⟨by simp, fun b hb => by
    simp only [List.mem_singleton] at hb
    subst hb
    exact ⟨.inl hr.ext.size, (Array.getElem?_eq_some_iff.1 hgn).1, ⟨_, _, hgn⟩, .inr (.inl (Nat.le_refl _))⟩⟩ (by
   show C true _ _ _ _
   simp only [Ip.set, if_true]
   unfold C
   refine ⟨_, _, _, rfl, by simp [hdl], hge, hle, .inr ⟨w.heap.size, 0, [], rfl, rfl, (Array.getElem?_eq_some_iff.1 hgn).1, fun _ => ⟨rfl, arr, e, hgn, hsz⟩, Rws.of (xs := xs ++ news) (fun row hm => ?_) ?_ fun q u hq => by simpa using hcell q u hq⟩⟩
   ·rcases List.mem_append.1 hm with hm | hm
    ·exact x3 row hm
    ·exact r1 row hm
   ·rw [List.flatten_append]
    exact Cs.append (F := []) (Cs_flat (o' := true) (w' := _) hvd x1).1 (Cs_flat (o' := true) (w' := _) hv2 r2').1)
  exact key _ _ 0 (rows.drop j ++ rows2) _ _ hrun hR ⟨some ⟨w.heap.size, 0, none⟩, some ⟨w.heap.size, 0, none⟩, N - j + rows2.length, cap, by simp only [Ip.set, if_true], by simp, by omega, hge, fun _ => ⟨w.heap.size, rfl, by rw [Nat.zero_mul]⟩⟩ (by simp) (by simp) (by rw [List.flatten_append, List.all_append, hvd, hv2]; rfl) (by simp <;> omega)
 rcases hC.blk with ⟨q1, q2, q3⟩ | ⟨g, G, cur, e', q1, q2, q3, q4, q5⟩
 · -- an empty row without memory
  subst q3
  have hN : N = 0 := by simpa using e1.symm
  have hj0 : j = 0 := by omega
  refine grown [] (by unfold Cs; simp) (by simp [hN]) (by simp) ?_ (by omega)
  rw [h2, hN, q1]
  have hb' : rows2.length * i.bytes ≤ 140737488355328 := by simpa using hb
  simp only [Nat.zero_sub, Nat.zero_add]
  cases a' with
  | none =>
   have hr' := run_append_nil (P := P) w t o.type e i z ht hi1 hi2 ⟨b2, off2, none⟩ rows2.length c news r3 hnews (by omega) (by omega) (by omega)
   simpa using hr'
  | some ga =>
   have hr' := run_append_grow (P := P) w t o.type e i z ht hi1 hi2 ga 0 0 [] (by simp) (by simp) ⟨b2, off2, none⟩ rows2.length c news r3 hnews (by omega) (by omega) (growslice_fits (by omega) (by simpa using hb'))
   simpa using hr'
 obtain ⟨s1, xs, s2, s3, s4⟩ := q5.flat
 simp only [Nat.zero_add] at s4
 have hG : G = [] := (Cs_flat (o' := true) (w' := w) hv1 s2).2
 subst hG
 have hxd : Cs true w (rows.drop j).flatten (xs.drop (j * i.size)) [] := by
  have e5 : rows.flatten = (rows.take j).flatten ++ (rows.drop j).flatten := by rw [← List.flatten_append, List.take_append_drop]
  rw [e5] at s2
  obtain ⟨x1, x2, F1, F2, rfl, hF, v1, v2, v3⟩ := s2.split
  have : x1.length = j * i.size := by
   rw [v3]
   have key : ∀ (l : List (List T)), (∀ r ∈ l, r.length = i.size) → l.flatten.length = l.length * i.size := by
    intro l
    induction l with
    | nil => intro _; simp
    | cons r l ih => intro h; rw [List.flatten_cons, List.length_append, ih fun r hr => h r (by simp [hr]), h r (by simp), List.length_cons, Nat.succ_mul]; omega
   rw [key _ fun r hr => s1 r (List.mem_of_mem_take hr), List.length_take, Nat.min_eq_left hj]
  rw [List.drop_left' this]
  have : F1 = [] ∧ F2 = [] := List.append_eq_nil_iff.1 hF.symm
  rw [← this.2]; exact v2
 have hxl : (xs.drop (j * i.size)).length = (N - j) * i.size := by rw [List.length_drop, s3, e1, Nat.sub_mul]
 by_cases hroom : N + rows2.length ≤ M
 · -- in place
  obtain ⟨g', e6, e7⟩ := h5 (by omega)
  rw [q1] at e6
  cases e6
  have hjk : j * i.size + (N - j) * i.size = N * i.size := by rw [← Nat.add_mul]; congr 1; omega
  have hfit : j * i.size + (N - j) * i.size + news.length ≤ cur.size := by rw [hjk, r3, q4, ← Nat.add_mul]; exact Nat.mul_le_mul_right _ hroom
  have hrun := run_append_at (P := P) w t o.type e e' i ht hi1 g (j * i.size) (N - j) (M - j) cur q3 ⟨b2, off2, none⟩ rows2.length c news r3 hnews hone (by omega) hfit
  rw [hjk] at hrun hfit
  rw [← e7, ← h2] at hrun
  have hxs : cur.toList.take (N * i.size) = xs := by
   apply List.ext_getElem?
   intro q
   by_cases hq : q < xs.length
   ·have := s4 q _ (List.getElem?_eq_getElem hq)
    simp only [World.cell?, q3] at this
    rw [List.getElem?_take, if_pos (by rw [s3, e1] at hq; exact hq), List.getElem?_eq_getElem hq]
    simpa using this
   ·rw [List.getElem?_eq_none (by simp; rw [s3, e1] at hq; omega), List.getElem?_eq_none (by omega)]
  generalize harr : (cur.toList.take (N * i.size) ++ news ++ cur.toList.drop (N * i.size + news.length)).toArray = arr at hrun
  have hgn : (w.setRow g arr).heap[g]? = some (.cells arr e' (0, 0)) := setRow_heap w g cur _ e' _ q3
  have hsz : arr.size = M * i.size := by
   rw [← harr, ← q4]
   simp only [List.size_toArray, List.length_append, List.length_take, List.length_drop, Array.length_toList]
   omega
  have hcell : ∀ (q : Nat) (u : Value), (xs ++ news)[q]? = some u → (w.setRow g arr).cell? ⟨g, q, none⟩ = some u := fun q u hq => by
   simp only [World.cell?, hgn]
   rw [← harr, hxs]
   have hlt := (List.getElem?_eq_some_iff.1 hq).1
   simp only [Option.isSome_none, Bool.false_eq_true, if_false, List.getElem?_toArray]
   rw [List.getElem?_append_left hlt]; exact hq
  have hch : Chg w (w.setRow g arr) (I.F id) := ⟨rfl, rfl, rfl, by simp [World.setRow], fun b _ hb => setRow_other w g b _ (fun e => hb (by rw [q2, e]; simp))⟩
  have hR := hr.chg hs hch (G := [g]) (u := .slice (some ⟨g, 0, none⟩) (N + rows2.length) M) (r := .row i.size (rows ++ rows2)) ⟨by simp, fun b hb => by
    simp only [List.mem_singleton] at hb
    subst hb
    exact ⟨(own.2 b (by rw [q2]; simp)).1, (Array.getElem?_eq_some_iff.1 hgn).1, ⟨_, _, hgn⟩, .inl (by rw [q2]; simp)⟩⟩ (by
   show C true _ _ _ _
   simp only [Ip.set, if_true]
   unfold C
   refine ⟨_, _, _, rfl, by simp [e1], hroom, e3, .inr ⟨g, 0, [], rfl, rfl, (Array.getElem?_eq_some_iff.1 hgn).1, fun _ => ⟨rfl, arr, e', hgn, hsz⟩, Rws.of (xs := xs ++ news) (fun row hm => ?_) ?_ fun q u hq => by simpa using hcell q u hq⟩⟩
   ·rcases List.mem_append.1 hm with hm | hm
    ·exact s1 row hm
    ·exact r1 row hm
   ·rw [List.flatten_append]
    exact Cs.append (F := []) (Cs_flat (o' := true) (w' := _) hv1 s2).1 (Cs_flat (o' := true) (w' := _) hv2 r2').1)
  refine key _ _ j (rows ++ rows2) _ _ hrun hR ⟨some ⟨g, 0, none⟩, some ⟨g, j * i.size, none⟩, N + rows2.length, M, by simp only [Ip.set, if_true], by rw [show N - j + rows2.length = N + rows2.length - j by omega, e7], by omega, hroom, fun _ => ⟨g, rfl, rfl⟩⟩ (by simp; omega) (by rw [List.drop_append_of_le_length hj]) (by rw [List.flatten_append, List.all_append, hv1, hv2]; rfl) (by simp)
 ·refine grown (xs.drop (j * i.size)) hxd hxl (fun row hm => s1 row (List.mem_of_mem_drop hm)) ?_ (by omega)
  have hbb : (N - j + rows2.length) * i.bytes ≤ 140737488355328 := Nat.le_trans (Nat.mul_le_mul_right _ (by omega)) hb
  rw [h2]
  have holds : ∀ ga, a' = some ga → ∀ q u, (xs.drop (j * i.size))[q]? = some u → w.cell? (ga.add q) = some u := fun ga hga q u hq => by
   by_cases hjm : j < M
   ·obtain ⟨g', e6, e7⟩ := h5 hjm
    rw [q1] at e6
    cases e6
    rw [hga] at e7
    cases e7
    rw [Addr.add_lit]
    exact s4 _ u (by simpa using hq)
   ·have : xs.drop (j * i.size) = [] := List.eq_nil_of_length_eq_zero (by rw [hxl, show N - j = 0 by omega, Nat.zero_mul])
    rw [this] at hq; cases hq
  cases a' with
  | none =>
   have hjM : ¬ j < M := fun hjm => by obtain ⟨g', e6, e7⟩ := h5 hjm; cases e7
   have hz : xs.drop (j * i.size) = [] := List.eq_nil_of_length_eq_zero (by rw [hxl, show N - j = 0 by omega, Nat.zero_mul])
   rw [hz, show N - j = 0 by omega, show M - j = 0 by omega]
   rw [show N - j = 0 by omega] at hbb
   have hr' := run_append_nil (P := P) w t o.type e i z ht hi1 hi2 ⟨b2, off2, none⟩ rows2.length c news r3 hnews (by omega) (by omega) (by simp at hbb; omega)
   simpa using hr'
  | some ga =>
   exact run_append_grow (P := P) w t o.type e i z ht hi1 hi2 ga (N - j) (M - j) (xs.drop (j * i.size)) hxl (holds ga rfl) ⟨b2, off2, none⟩ rows2.length c news r3 hnews (by omega) (by omega) (growslice_fits (by omega) hbb)
variable {w0 : Base} {Q : Exit → St → Prop} {n : Nat} {sl : List (Nat × (Bool × S))} {rs : List (Nat × R)} {l : List Oper}
theorem AWl.appendTl {d id k j m : Nat} {rows rows2 : List (List T)} (ho : OpE P ops o ⟨n, sl, rs⟩ fun σ' => ∃ j' rows', j' ≤ rows'.length ∧ rows'.drop j' = rows.drop j ++ rows2 ∧ rows'.flatten.all T.isV = true ∧ rows'.length ≤ m ∧ σ' = (St.chg ⟨n, sl, rs⟩ id (.row k rows')).put o.dst (true, .a (.one (.tl id k j')))) (hd : o.dst = some d)
  (h : ∀ j' rows', j' ≤ rows'.length → rows'.drop j' = rows.drop j ++ rows2 → rows'.flatten.all T.isV = true → rows'.length ≤ m → AWl P w0 ops Q l ⟨n, (d, (true, .a (.one (.tl id k j')))) :: purS id sl, chgR id (.row k rows') rs⟩) : AWl P w0 ops Q (o :: l) ⟨n, sl, rs⟩ :=
 AWl.opE ho fun σ' ⟨j', rows', g1, g2, g3, g4, g5⟩ => by rw [g5, hd]; exact h j' rows' g1 g2 g3 g4
end
end Go.Q
