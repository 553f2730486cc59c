import Derived.Test.YtamnfkfjfelbbaaAbs6xw
set_option linter.unusedVariables false
set_option linter.unusedSimpArgs false
namespace Go.Q
open Go.RowKit
section
variable {P : Program} {ops : Array Oper} {o : Oper} {σ : St} {q : Bool}
theorem run_append_room' (w : World) (t ty e e0 : TypeId) (i : TypeInfo) (ht : P.underlying t = some (.slice e)) (hi : P.info? e = some i)
 (g sLen sCap : Nat) (cur : Array Value) (hg : w.heap[g]? = some (.cells cur e0 (0, 0)))
 (a : Addr) (m c : Nat) (news : List Value) (hl : news.length = m * i.size) (hnews : ∀ j u, news[j]? = some u → w.cell? (a.add j) = some u) (h1 : ∀ u ∈ news, u.oneCell' = true)
 (hroom : sLen + m ≤ sCap) (hfit : sLen * i.size + news.length ≤ cur.size) :
 (Builtin.append_ #[t, t] ty #[.slice (some ⟨g, 0, none⟩) sLen sCap, .slice (some a) m c]).run P w =
  .ok (.slice (some ⟨g, 0, none⟩) (sLen + m) sCap) (w.setRow g (cur.toList.take (sLen * i.size) ++ news ++ cur.toList.drop (sLen * i.size + news.length)).toArray) := by
 have hf := run_firstCells_some (P := P) w i.size m a m c news hl hnews
 have hst := run_storeCells_at P g (sLen * i.size) e0 news 0 cur w hg (by simpa using hfit) h1
 simp only [Nat.add_zero] at hst
 simp [Builtin.append_, run_underlying ht, sizeOf, typeInfo, hi, Builtin.lenOf, hroom, hf, Addr.add_lit, hst]
theorem run_append_T (w : World) {t ty e : TypeId} {z : Value} {k bytes : Nat} (ht : P.underlying t = some (.slice e)) (hi : (P.info? e).map (fun i => (i.zero, i.size, i.bytes)) = some (some z, k, bytes)) (hzs : z.cells.size = k)
 {rows rows2 : List (List T)} {v u : Value} {F F2 : List Nat} {oo : Bool} (hC : C true w (.sl k rows) v F) (hC2 : C oo w (.sl k rows2) u F2) (hb : (rows.length + rows2.length) * bytes ≤ 140737488355328) (hm : rows.length + rows2.length ≤ maxLen) :
 ∃ v' w', (Builtin.append_ #[t, t] ty #[v, u]).run P w = .ok v' w' ∧
  ((rows2 = [] ∧ v' = v ∧ w' = w) ∨
   ∃ g cap cur e' G, v' = .slice (some ⟨g, 0, none⟩) (rows.length + rows2.length) cap ∧ rows.length + rows2.length ≤ cap ∧ cap ≤ maxLen ∧ w'.heap[g]? = some (.cells cur e' (0, 0)) ∧ cur.size = cap * k ∧ Chg w w' [g] ∧ (F = [] ∧ rows = [] ∧ G = [] ∨ ∃ b, F = b :: G) ∧
    ((∃ G', F = g :: G') ∨ w.heap.size ≤ g) ∧ ∃ xs news, Cs true w rows.flatten xs G ∧ Cs oo w rows2.flatten news (F2.drop 1) ∧ (∀ row ∈ rows, row.length = k) ∧ (∀ row ∈ rows2, row.length = k) ∧
     (∀ (j : Nat) (u : Value), (xs ++ news)[j]? = some u → w'.cell? ⟨g, j, none⟩ = some u)) := by
 obtain ⟨i, hi1, hi2, hi3, hi4⟩ := info_parts hi
 subst hi3; subst hi4
 simp only [C] at hC hC2
 obtain ⟨a1, n, cap, rfl, rfl, h3, h4, h5⟩ := hC
 obtain ⟨a2, m, c, rfl, rfl, g3, g4, g5⟩ := hC2
 by_cases h0 : rows2 = []
 · subst h0
   refine ⟨.slice a1 rows.length cap, w, ?_, .inl ⟨rfl, rfl, rfl⟩⟩
   have hf : ∀ w : World, (Builtin.firstCells i.size 0 (.slice a2 0 c)).run P w = .ok #[] w := by
    intro w; cases a2 <;> simp [Builtin.firstCells, loadCells, loadCellsFrom]
   cases a1 <;> simp [Builtin.append_, run_underlying ht, sizeOf, typeInfo, hi1, Builtin.lenOf, h3, hf, storeCells]
 · have hpos : 0 < rows2.length := List.length_pos_iff.2 h0
   rcases g5 with ⟨g5, _⟩ | ⟨b2, off2, G2, rfl, rfl, g6, _, g8⟩
   · omega
   · obtain ⟨r1, news, r2, r3, r4⟩ := g8.flat
     have hone : ∀ u ∈ news, u.oneCell' = true := by
      intro u hu
      obtain ⟨j, hj⟩ := List.getElem?_of_mem hu
      have hjl := (List.getElem?_eq_some_iff.1 hj).1
      have := r2.len
      obtain ⟨c', G', k1, k2, _⟩ := r2.get (i := j) (t := (rows2.flatten)[j]'(by omega)) (List.getElem?_eq_getElem _)
      rw [hj] at k1; cases k1
      exact k2.cell1
     have hnews : ∀ j u, news[j]? = some u → w.cell? ((⟨b2, off2, none⟩ : Addr).add j) = some u := fun j u hj => by rw [Addr.add_lit]; exact r4 j u hj
     have h63 : rows.length + rows2.length ≤ 9223372036854775807 := by simp only [maxLen] at hm; omega
     have hold : ∃ G xs, (F = [] ∧ rows = [] ∧ G = [] ∨ ∃ b, F = b :: G) ∧ Cs true w rows.flatten xs G ∧ xs.length = rows.length * i.size ∧ (∀ row ∈ rows, row.length = i.size) ∧
      ((cap = 0 ∧ F = [] ∧ rows = []) ∨ ∃ b cur e', a1 = some ⟨b, 0, none⟩ ∧ F = b :: G ∧ w.heap[b]? = some (.cells cur e' (0, 0)) ∧ cur.size = cap * i.size ∧ ∀ (j : Nat) (u : Value), xs[j]? = some u → w.cell? ⟨b, j, none⟩ = some u) := by
      rcases h5 with ⟨h5, rfl, h6⟩ | ⟨b, off, G, rfl, rfl, h6, h7, h8⟩
      · have : rows = [] := List.eq_nil_of_length_eq_zero h5
        subst this
        exact ⟨[], [], .inl ⟨rfl, rfl, rfl⟩, by simp [Cs], by simp, by simp, .inl ⟨h6 trivial, rfl, rfl⟩⟩
      · obtain ⟨rfl, cur, e', h9, h10⟩ := h7 trivial
        obtain ⟨s1, xs, s2, s3, s4⟩ := h8.flat
        exact ⟨G, xs, .inr ⟨b, rfl⟩, s2, s3, s1, .inr ⟨b, cur, e', rfl, rfl, h9, h10, fun j u hj => by simpa using s4 j u hj⟩⟩
     obtain ⟨G, xs, hG, o1, o2, o3, o4⟩ := hold
     have grown : ∀ (old : Nat) (v : Value), old < rows.length + rows2.length → (Builtin.append_ #[t, t] ty #[v, .slice (some ⟨b2, off2, none⟩) rows2.length c]).run P w = .ok (.slice (some ⟨w.heap.size, 0, none⟩) (rows.length + rows2.length) (grownCap w (rows.length + rows2.length) old e))
      (w.drew.alloc (.cells (xs.toArray ++ news.toArray ++ Builtin.zeroCells z.cells (grownCap w (rows.length + rows2.length) old e - (rows.length + rows2.length))) e)) →
      ∃ v' w', (Builtin.append_ #[t, t] ty #[v, .slice (some ⟨b2, off2, none⟩) rows2.length c]).run P w = .ok v' w' ∧ ((rows2 = [] ∧ v' = v ∧ w' = w) ∨
       ∃ g cap cur e' G, v' = .slice (some ⟨g, 0, none⟩) (rows.length + rows2.length) cap ∧ rows.length + rows2.length ≤ cap ∧ cap ≤ maxLen ∧ w'.heap[g]? = some (.cells cur e' (0, 0)) ∧ cur.size = cap * i.size ∧ Chg w w' [g] ∧ (F = [] ∧ rows = [] ∧ G = [] ∨ ∃ b, F = b :: G) ∧
        ((∃ G', F = g :: G') ∨ w.heap.size ≤ g) ∧ ∃ xs news, Cs true w rows.flatten xs G ∧ Cs oo w rows2.flatten news ((b2 :: G2).drop 1) ∧ (∀ row ∈ rows, row.length = i.size) ∧ (∀ row ∈ rows2, row.length = i.size) ∧
         (∀ (j : Nat) (u : Value), (xs ++ news)[j]? = some u → w'.cell? ⟨g, j, none⟩ = some u)) := by
      intro old v hold hrun
      have hge := grownCap_ge w (rows.length + rows2.length) old e
      refine ⟨_, _, hrun, .inr ⟨w.heap.size, _, _, e, G, rfl, hge, grownCap_le_maxLen w _ old e hm, heap_alloc_new w.drew _, ?_, ⟨rfl, rfl, rfl, by simp, fun k hk _ => heap_alloc_old w.drew _ (by simpa using hk)⟩, hG, .inr (Nat.le_refl _), xs, news, o1, r2, o3, r1, fun j u hj => ?_⟩⟩
      · simp only [Array.size_append, List.size_toArray, size_zeroCells, hzs, o2, r3, ← Nat.add_mul]
        congr 1
        omega
      · have hgn := heap_alloc_new w.drew (.cells (xs.toArray ++ news.toArray ++ Builtin.zeroCells z.cells (grownCap w (rows.length + rows2.length) old e - (rows.length + rows2.length))) e)
        have hj' : (xs.toArray ++ news.toArray ++ Builtin.zeroCells z.cells (grownCap w (rows.length + rows2.length) old e - (rows.length + rows2.length)))[j]? = some u := by
         have hlt := (List.getElem?_eq_some_iff.1 hj).1
         rw [Array.getElem?_append_left (by simpa using hlt)]
         simpa using hj
        have hgn' : (w.drew.alloc (.cells (xs.toArray ++ news.toArray ++ Builtin.zeroCells z.cells (grownCap w (rows.length + rows2.length) old e - (rows.length + rows2.length))) e)).heap[w.heap.size]? = some (.cells (xs.toArray ++ news.toArray ++ Builtin.zeroCells z.cells (grownCap w (rows.length + rows2.length) old e - (rows.length + rows2.length))) e (0, 0)) := hgn
        simp only [World.cell?, hgn']
        simpa using hj'
     rcases o4 with ⟨rfl, rfl, rfl⟩ | ⟨b, cur, e', rfl, rfl, o5, o6, o7⟩
     · have hx0 : xs = [] := List.eq_nil_of_length_eq_zero (by simpa using o2)
       subst hx0
       refine grown 0 _ (by simp; omega) ?_
       cases a1 with
       | none =>
        have hr := run_append_nil (P := P) w t ty e i z ht hi1 hi2 ⟨b2, off2, none⟩ rows2.length c news r3 hnews (by omega) (by omega) (by simp at hb; omega)
        simpa using hr
       | some ga =>
        have hr := run_append_grow (P := P) w t ty e i z ht hi1 hi2 ga 0 0 [] (by simp) (by simp) ⟨b2, off2, none⟩ rows2.length c news r3 hnews (by omega) (by omega) (growslice_fits (by omega) (by simpa using hb))
        simpa using hr
     · by_cases hroom : rows.length + rows2.length ≤ cap
       · have hfit : rows.length * i.size + news.length ≤ cur.size := by rw [r3, o6, ← Nat.add_mul]; exact Nat.mul_le_mul_right _ hroom
         have hr := run_append_room' (P := P) w t ty e e' i ht hi1 b rows.length cap cur o5 ⟨b2, off2, none⟩ rows2.length c news r3 hnews hone hroom hfit
         have hxs : cur.toList.take (rows.length * i.size) = xs := by
          apply List.ext_getElem?
          intro j
          by_cases hj : j < xs.length
          · have := o7 j _ (List.getElem?_eq_getElem hj)
            simp only [World.cell?, o5] at this
            rw [List.getElem?_take, if_pos (by omega), List.getElem?_eq_getElem hj]
            simpa using this
          · rw [List.getElem?_eq_none (by simp; omega), List.getElem?_eq_none (by omega)]
         refine ⟨_, _, hr, .inr ⟨b, cap, _, e', G, rfl, hroom, h4, setRow_heap w b cur _ e' _ o5, ?_, ⟨rfl, rfl, rfl, by simp [World.setRow], fun k _ hk => setRow_other w b k _ (by simpa using hk)⟩, hG, .inl ⟨G, rfl⟩, xs, news, o1, r2, o3, r1, fun j u hj => ?_⟩⟩
         · simp only [List.size_toArray, List.length_append, List.length_take, List.length_drop, Array.length_toList]
           omega
         · simp only [World.cell?, setRow_heap w b cur _ e' _ o5, hxs]
           have hlt := (List.getElem?_eq_some_iff.1 hj).1
           simp only [Option.isSome_none, Bool.false_eq_true, if_false, List.getElem?_toArray]
           rw [List.getElem?_append_left hlt]; exact hj
       · refine grown cap _ (by omega) ?_
         have holds : ∀ j u, xs[j]? = some u → w.cell? ((⟨b, 0, none⟩ : Addr).add j) = some u := fun j u hj => by rw [Addr.add_lit]; simpa using o7 j u hj
         have hr := run_append_grow (P := P) w t ty e i z ht hi1 hi2 ⟨b, 0, none⟩ rows.length cap xs o2 holds ⟨b2, off2, none⟩ rows2.length c news r3 hnews (by omega) (by omega) (growslice_fits (by omega) hb)
         simpa using hr

def T.isV : T → Bool
 | .v _ => true
 | _ => false
theorem Cs_flat {o o' : Bool} {w w' : World} : ∀ {ts : List T} {cs : List Value} {F : List Nat}, ts.all T.isV = true → Cs o w ts cs F → Cs o' w' ts cs [] ∧ F = []
 | [], cs, F, _, h => by simp only [Cs] at h; exact ⟨by unfold Cs; exact ⟨h.1, rfl⟩, h.2⟩
 | t :: ts, cs, F, ht, h => by
  simp only [List.all_cons, Bool.and_eq_true] at ht
  simp only [Cs] at h
  obtain ⟨c, cr, G1, G2, rfl, h2, h3, rfl⟩ := h
  obtain ⟨g1, rfl⟩ := Cs_flat (o' := o') (w' := w') ht.2 h3
  cases t with
  | v x =>
   simp only [C] at h2
   obtain ⟨h4, rfl, h5⟩ := h2
   exact ⟨by unfold Cs; exact ⟨c, cr, [], [], rfl, by unfold C; exact ⟨h4, rfl, h5⟩, g1, rfl⟩, rfl⟩
  | sl k rows => cases ht.1
  | ad cs => cases ht.1
  | fn f x y => cases ht.1
theorem RelI.append {I : Ip} {w0 : Base} {w w' : World} {a : Act} (hr : RelI I w0 σ a w) {id k : Nat} {rows rows2 : List (List T)} (hs : look σ.res id = some (.row k rows)) {g cap : Nat} {cur : Array Value} {e' : TypeId} {G G2 : List Nat} {xs news : List Value}
 (h1 : rows.length + rows2.length ≤ cap) (h2 : cap ≤ maxLen) (h3 : w'.heap[g]? = some (.cells cur e' (0, 0))) (h4 : cur.size = cap * k) (hc : Chg w w' [g]) (h5 : I.F id = [] ∧ rows = [] ∧ G = [] ∨ ∃ b, I.F id = b :: G) (h6 : (∃ G', I.F id = g :: G') ∨ w.heap.size ≤ g)
 (h7 : Cs true w rows.flatten xs G) (h8 : Cs true w rows2.flatten news G2) (h9 : ∀ row ∈ rows, row.length = k) (h10 : ∀ row ∈ rows2, row.length = k) (h11 : ∀ (j : Nat) (u : Value), (xs ++ news)[j]? = some u → w'.cell? ⟨g, j, none⟩ = some u)
 (h12 : ∀ b ∈ G2, Free I w0 w b) (h13 : G2.Nodup) :
 RelI (I.set id (g :: (G ++ G2)) (.slice (some ⟨g, 0, none⟩) (rows.length + rows2.length) cap) (I.B id)) w0 (σ.chg id (.row k (rows ++ rows2))) a w' := by
 have own := hr.own id _ hs
 have hgF : ∀ b ∈ G, b ∈ I.F id ∧ b ≠ g := by
  intro b hb
  rcases h5 with ⟨_, _, rfl⟩ | ⟨b0, h5⟩
  · cases hb
  · refine ⟨by rw [h5]; simp [hb], fun e => ?_⟩
    rcases h6 with ⟨G', h6⟩ | h6
    · rw [h5] at h6
      cases h6
      have := own.1
      rw [h5] at this
      exact (List.nodup_cons.1 this).1 (e ▸ hb)
    · have := (hr.lt id b (by rw [h5]; simp [hb])).1; omega
 have hGn : G.Nodup := by
  rcases h5 with ⟨_, _, rfl⟩ | ⟨b0, h5⟩
  · exact List.nodup_nil
  · have := own.1; rw [h5] at this; exact (List.nodup_cons.1 this).2
 have hG2 : ∀ b ∈ G2, b ≠ g := by
  intro b hb e
  rcases h6 with ⟨G', h6⟩ | h6
  · exact (h12 b hb).2.2.2.2 id (by rw [h6, e]; simp)
  · have := (h12 b hb).2.1; omega
 have hcF : Chg w w' (I.F id) := by
  refine ⟨hc.os, hc.tape, hc.output, hc.size, fun k' hk' hn => hc.block k' hk' fun hm => ?_⟩
  simp only [List.mem_singleton] at hm
  subst hm
  rcases h6 with ⟨G', h6⟩ | h6
  · exact hn (by rw [h6]; simp)
  · omega
 have hlt : g < w'.heap.size := (Array.getElem?_eq_some_iff.1 h3).1
 have hgw : w0.own g := by
  rcases h6 with ⟨G', h6⟩ | h6
  · exact (own.2 g (by rw [h6]; simp)).1
  · exact .inl (Nat.le_trans hr.ext.size h6)
 refine hr.chg hs hcF ⟨List.nodup_cons.2 ⟨fun hm => ?_, List.nodup_append.2 ⟨hGn, h13, fun x hx y hy e => ?_⟩⟩, fun b hb => ?_⟩ ?_
 · rcases List.mem_append.1 hm with hm | hm
   · exact (hgF g hm).2 rfl
   · exact hG2 g hm rfl
 · exact (h12 y hy).2.2.2.2 id (e ▸ (hgF x hx).1)
 · rcases List.mem_cons.1 hb with rfl | hb
   · refine ⟨hgw, hlt, ⟨cur, e', h3⟩, ?_⟩
     rcases h6 with ⟨G', h6⟩ | h6
     · exact .inl (by rw [h6]; simp)
     · exact .inr (.inl h6)
   · rcases List.mem_append.1 hb with hb | hb
     · have := hgF b hb
       refine ⟨(own.2 b this.1).1, Nat.lt_of_lt_of_le (hr.lt id b this.1).1 hc.size, (own.2 b this.1).2.chg hc (by simpa using this.2), .inl this.1⟩
     · exact ⟨(h12 b hb).1, Nat.lt_of_lt_of_le (h12 b hb).2.1 hc.size, (h12 b hb).2.2.1.chg hc (by simpa using hG2 b hb), .inr (.inr (h12 b hb))⟩
 · show C true w' _ _ _
   simp only [Ip.set, if_true]
   unfold C
   refine ⟨_, _, _, rfl, by simp, h1, h2, .inr ⟨g, 0, G ++ G2, rfl, rfl, hlt, fun _ => ⟨rfl, cur, e', h3, h4⟩, Rws.of (xs := xs ++ news) (fun row hm => ?_) ?_ fun j u hj => by simpa using h11 j u hj⟩⟩
   · rcases List.mem_append.1 hm with hm | hm
     · exact h9 row hm
     · exact h10 row hm
   · rw [List.flatten_append]
     exact (h7.congr fun b hb => hc.block b (h7.lt b hb) (by simpa using (hgF b hb).2)).append (h8.congr fun b hb => hc.block b (h8.lt b hb) (by simpa using hG2 b hb))
theorem R_append {t e : TypeId} {x y : Operand} {A2 : A} {id k : Nat} {rows rows2 : List (List T)} {z : Value} {bytes : Nat} (ho : o.op = .call { callee := .builtin .append, args := #[x, y], argTypes := #[t, t] }) (hg : o.guard = none) (hd : o.dst.all (fun d => Nat.blt d σ.n) = true)
 (hx : Get σ true x (.one (.rf id))) (hs : look σ.res id = some (.row k rows)) (hy : Get σ true y A2) (hq : Sq σ A2 k rows2) (hv : rows2.flatten.all T.isV = true) (ht : P.underlying t = some (.slice e)) (hi : (P.info? e).map (fun i => (i.zero, i.size, i.bytes)) = some (some z, k, bytes)) (hzs : z.cells.size = k)
 (hb : (rows.length + rows2.length) * bytes ≤ 140737488355328) (hm : rows.length + rows2.length ≤ maxLen) :
 Op1 P ops o σ ((σ.chg id (.row k (rows ++ rows2))).put o.dst (true, .a (.one (.rf id)))) :=
 .eff hg fun w0 a w ⟨I, hr⟩ => by
  have hv1 : VE I w (.rf id) (a.eval x) := hx.va hr rfl
  have hC : C true w (.sl k rows) (I.hd id) (I.F id) := hr.res id _ hs
  obtain ⟨F2, hC2⟩ := hq.val hr (hy.va hr rfl)
  obtain ⟨v', w', hrun, h⟩ := run_append_T (ty := o.type) w ht hi hzs hC hC2 hb hm
  refine ⟨v', w', by simp [execOp, ho, resolve, invoke, builtin, hv1.1, hrun], ?_⟩
  rcases h with ⟨rfl, rfl, rfl⟩ | ⟨g, cap, cur, e', G, rfl, h1, h2, h3, h4, h5, h6, h7, xs, news, h8, h9, h10, h11, h12⟩
  · have := hr.chg hs (Chg.refl _ _) (G := I.F id) (u := I.hd id) (r := .row k (rows ++ [])) ⟨(hr.own id _ hs).1, fun b hb => ⟨((hr.own id _ hs).2 b hb).1, (hr.lt id b hb).1, ((hr.own id _ hs).2 b hb).2, .inl hb⟩⟩ (by show C true _ _ _ _; simpa [Ip.set] using hC)
    exact ⟨_, this.put hd ⟨by simp [Ip.set], hv1.1 ▸ hv1.2⟩⟩
  · obtain ⟨h13, _⟩ := Cs_flat (o' := true) (w' := w) hv h9
    have := hr.append hs h1 h2 h3 h4 h5 h6 h7 h8 h13 h10 h11 h12 (by simp) List.nodup_nil
    exact ⟨_, this.put hd ⟨by simp [Ip.set], _, _, _, rfl⟩⟩
end
end Go.Q
namespace Go.Q
open Go.RowKit
section
variable {P : Program} {ops : Array Oper} {o : Oper} {σ : St} {q : Bool}
def outL : Nat → List T → Option (List E × List (Nat × R))
 | _, [] => some ([], [])
 | n, t :: r => match t with
  | .v x => (match outL n r with | some (es, rs) => some (.t (.v x) :: es, rs) | none => none)
  | .sl k rows => (match outL (n + 1) r with | some (es, rs) => some (.rf n :: es, (n, .row k rows) :: rs) | none => none)
  | _ => none
def St.adds (σ : St) : List (Nat × R) → St
 | [] => σ
 | (id, r) :: l => (σ.add id r).adds l
def Ip.same (I I' : Ip) (n : Nat) : Prop := I'.Z = I.Z ∧ ∀ i, i < n → I'.F i = I.F i ∧ I'.hd i = I.hd i ∧ I'.B i = I.B i
theorem outL_ge : ∀ {ts : List T} {n : Nat} {es : List E} {rs : List (Nat × R)}, outL n ts = some (es, rs) → ∀ x ∈ rs, n ≤ x.1
 | [], n, es, rs, h, x, hx => by simp only [outL, Option.some.injEq, Prod.mk.injEq] at h; rw [← h.2] at hx; cases hx
 | t :: r, n, es, rs, h, x, hx => by
  match t, h with
  | .v y, h =>
   rw [outL] at h
   split at h
   · rename_i h1
     simp only [Option.some.injEq, Prod.mk.injEq] at h
     obtain ⟨_, rfl⟩ := h
     exact outL_ge h1 x hx
   · cases h
  | .sl k rows, h =>
   rw [outL] at h
   split at h
   · rename_i h1
     simp only [Option.some.injEq, Prod.mk.injEq] at h
     obtain ⟨_, rfl⟩ := h
     rcases List.mem_cons.1 hx with rfl | hx
     · exact Nat.le_refl _
     · have := outL_ge h1 x hx; omega
   · cases h
  | .ad _, h => cases h
  | .fn _ _ _, h => cases h
theorem has_add {σ : St} {id m k : Nat} {rows : List (List T)} (h : σ.has m = false) (hm : id ≠ m) : (σ.add id (.row k rows)).has m = false := by
 have : Nat.beq id m = false := by
  cases hb : Nat.beq id m with
  | false => rfl
  | true => exact absurd (Nat.eq_of_beq_eq_true hb) hm
 simp only [St.has, St.add, Bool.or_eq_false_iff, List.any_cons] at h ⊢
 exact ⟨h.1, by simp [this, R.has], h.2⟩
theorem outL_ok {w0 : Base} {w : World} {a : Act} : ∀ {ts : List T} {n : Nat} {es : List E} {rs : List (Nat × R)} {σ : St} {I : Ip} {cs : List Value} {G : List Nat}, outL n ts = some (es, rs) → (rs.all fun x => !σ.has x.1) = true → RelI I w0 σ a w → Cs true w ts cs G → G.Nodup → (∀ b ∈ G, Free I w0 w b) →
 ∃ I', RelI I' w0 (σ.adds rs) a w ∧ VEs I' w es cs ∧ I.same I' n ∧ ∀ b, Free I w0 w b → b ∉ G → Free I' w0 w b
 | [], n, es, rs, σ, I, cs, G, h, _, hr, hC, _, _ => by
  simp only [outL, Option.some.injEq, Prod.mk.injEq] at h
  obtain ⟨rfl, rfl⟩ := h
  simp only [Cs] at hC
  exact ⟨I, hr, hC.1, ⟨rfl, fun _ _ => ⟨rfl, rfl, rfl⟩⟩, fun b hb _ => hb⟩
 | t :: r, n, es, rs, σ, I, cs, G, h, hf, hr, hC, hn, hG => by
  simp only [Cs] at hC
  obtain ⟨c, cr, G1, G2, rfl, h2, h3, rfl⟩ := hC
  match t, h, h2 with
  | .v y, h, h2 =>
   rw [outL] at h
   split at h
   · rename_i h1
     simp only [Option.some.injEq, Prod.mk.injEq] at h
     obtain ⟨rfl, rfl⟩ := h
     simp only [C] at h2
     obtain ⟨h4, rfl, h5⟩ := h2
     obtain ⟨I', g1, g2, g3, g4⟩ := outL_ok h1 hf hr h3 (by simpa using hn) (by simpa using hG)
     exact ⟨I', g1, ⟨c, cr, rfl, ⟨[], by unfold C; exact ⟨h4, rfl, h5⟩, by simp⟩, g2⟩, g3, by simpa using g4⟩
   · cases h
  | .sl k rows, h, h2 =>
   rw [outL] at h
   split at h
   · rename_i es' rs' h1
     simp only [Option.some.injEq, Prod.mk.injEq] at h
     obtain ⟨rfl, rfl⟩ := h
     simp only [List.all_cons, Bool.and_eq_true, Bool.not_eq_true', List.all_eq_true] at hf
     have hna := List.nodup_append.1 hn
     have ha := hr.addF (id := n) (u := c) (b := 0) hf.1 hna.1 (fun b hb => hG b (by simp [hb])) (r := .row k rows) (by show C true w _ _ _; simpa [Ip.set] using h2)
     obtain ⟨I', g1, g2, g3, g4⟩ := outL_ok (σ := σ.add n (.row k rows)) h1 (by
      rw [List.all_eq_true]
      intro x hx
      have := outL_ge h1 x hx
      simpa using has_add (hf.2 x hx) (show n ≠ x.1 by omega)) ha h3 hna.2.1 (fun b hb => (hG b (by simp [hb])).set fun hm => hna.2.2 b hm b hb rfl)
     refine ⟨I', g1, ⟨c, cr, rfl, ?_, g2⟩, ⟨g3.1, fun i hi => ?_⟩, fun b hb hm => g4 b (hb.set fun h => hm (by simp [h])) fun h => hm (by simp [h])⟩
     · refine ⟨?_, ?_⟩
       · rw [(g3.2 n (by omega)).2.1]; simp [Ip.set]
       · simp only [C] at h2; obtain ⟨a', l', k', e, _⟩ := h2; exact ⟨a', l', k', e⟩
     · obtain ⟨e1, e2, e3⟩ := g3.2 i (by omega)
       rw [e1, e2, e3]
       simp [Ip.set, show i ≠ n by omega]
   · cases h
  | .ad _, h, _ => cases h
  | .fn _ _ _, h, _ => cases h
def outV0 (n : Nat) : V0 → Option (A × List (Nat × R))
 | .one t => match outL n [t] with | some ([e], rs) => some (.one e, rs) | _ => none
 | .agg l => match outL n l with | some (es, rs) => some (.agg es, rs) | none => none
theorem outV0_ok {w0 : Base} {w : World} {a : Act} {x : V0} {n : Nat} {y : A} {rs : List (Nat × R)} {I : Ip} {v : Value} {G : List Nat} (h : outV0 n x = some (y, rs)) (hf : (rs.all fun x => !σ.has x.1) = true) (hr : RelI I w0 σ a w) (hC : V0r true w x v G) (hn : G.Nodup) (hG : ∀ b ∈ G, Free I w0 w b) :
 ∃ I', RelI I' w0 (σ.adds rs) a w ∧ VA I' w y v ∧ I.same I' n ∧ ∀ b, Free I w0 w b → b ∉ G → Free I' w0 w b := by
 cases x with
 | one t =>
  rw [outV0] at h
  split at h
  · rename_i e rs' h1
    simp only [Option.some.injEq, Prod.mk.injEq] at h
    obtain ⟨rfl, rfl⟩ := h
    have hC' : Cs true w [t] [v] G := by unfold Cs; exact ⟨v, [], G, [], rfl, hC, by simp [Cs], by simp⟩
    obtain ⟨I', g1, g2, g3, g4⟩ := outL_ok h1 hf hr hC' hn hG
    obtain ⟨c, cr, e1, g5, _⟩ := g2
    cases e1
    exact ⟨I', g1, g5, g3, g4⟩
  · cases h
 | agg l =>
  rw [outV0] at h
  split at h
  · rename_i es rs' h1
    simp only [Option.some.injEq, Prod.mk.injEq] at h
    obtain ⟨rfl, rfl⟩ := h
    obtain ⟨cs, e1, hC⟩ := hC
    obtain ⟨I', g1, g2, g3, g4⟩ := outL_ok h1 hf hr hC hn hG
    exact ⟨I', g1, ⟨cs, e1, g2⟩, g3, g4⟩
  · cases h
end
end Go.Q
