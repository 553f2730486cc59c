import Derived.Test.YtamnfkfjfelbbaaAbs11xw
set_option linter.unusedVariables false
set_option linter.unusedSimpArgs false
namespace Go.Q
open Go.RowKit
section
variable {P : Program} {ops : Array Oper} {o : Oper} {σ : St} {q : Bool}
theorem made_flat (zs : List Value) (hk : 0 < zs.length ∨ True) : ∀ n : Nat, (List.range (n * zs.length)).map (fun j => zs.toArray[j % zs.toArray.size]!) = (List.replicate n zs).flatten
 | 0 => by simp
 | n + 1 => by
  rw [Nat.succ_mul, List.range_add, List.map_append, made_flat zs hk n, List.replicate_succ', List.flatten_append]
  congr 1
  rw [List.map_map]
  apply List.ext_getElem
  · simp
  · intro j h1 h2
    simp only [List.length_map, List.length_range] at h1
    simp [Nat.mod_eq_of_lt h1, h1]
theorem Cs_vals {o : Bool} {w : World} : ∀ {zs : List Value}, zs.all Value.oneCell' = true → Cs o w (zs.map .v) zs []
 | [], _ => by unfold Cs; exact ⟨rfl, rfl⟩
 | z :: zs, h => by
  simp only [List.all_cons, Bool.and_eq_true] at h
  simp only [List.map_cons]
  unfold Cs
  exact ⟨z, zs, [], [], rfl, by unfold C; exact ⟨rfl, rfl, h.1⟩, Cs_vals h.2, rfl⟩
theorem flatten_replicate_map (zs : List Value) : ∀ n : Nat, (List.replicate n (zs.map T.v)).flatten = ((List.replicate n zs).flatten).map T.v
 | 0 => rfl
 | n + 1 => by rw [List.replicate_succ, List.flatten_cons, flatten_replicate_map zs n, List.replicate_succ, List.flatten_cons, List.map_append]
theorem R_makeSlice {t e : TypeId} {x : Operand} {k bytes : Nat} {n : Int} {z : Value} {zs : List Value} (id : Nat) (ho : o.op = .makeSlice t x x) (hg : o.guard = none) (hd : o.dst.all (fun d => Nat.blt d σ.n) = true) (hx : Get σ true x (.one (.t (.v (.int .i64 n)))))
 (hu : P.underlying t = some (.slice e)) (hi : (P.info? e).map (fun i => (i.zero, i.size, i.bytes)) = some (some z, k, bytes)) (hz : z.cells = zs.toArray) (hk : Nat.beq zs.length k = true) (h1 : zs.all Value.oneCell' = true) (hf : σ.has id = false)
 (hb : 0 ≤ n ∧ (bytes : Int) * n ≤ 281474976710656 ∧ n ≤ 9223372036854775807) : Op1 P ops o σ ((σ.add id (.row k (List.replicate n.toNat (zs.map .v)))).put o.dst (true, .a (.one (.rf id)))) :=
 .eff hg fun w0 a w ⟨I, hr⟩ => by
  obtain ⟨i, hi1, hi2, hi3, hi4⟩ := info_parts hi
  have hk' := Nat.eq_of_beq_eq_true hk
  have hrun := run_make (P := P) w t e i z hu hi1 hi2 .i64 .i64 n n hb.1 (Int.le_refl _) (by rw [hi4]; exact hb.2.1) hb.2.2
  have hcells : madeCells z.cells (n.toNat * i.size) = ((List.replicate n.toNat zs).flatten).toArray := by
   unfold madeCells
   rw [hz, hi3, ← hk', ← made_flat zs (.inr trivial)]
   apply Array.ext'
   simp
  rw [hcells] at hrun
  have hone : ((List.replicate n.toNat zs).flatten).all Value.oneCell' = true := by
   rw [List.all_eq_true] at h1 ⊢
   intro v hv
   simp only [List.mem_flatten, List.mem_replicate] at hv
   obtain ⟨l, ⟨_, rfl⟩, hv⟩ := hv
   exact h1 v hv
  have hgn := heap_alloc_new w (.cells ((List.replicate n.toNat zs).flatten).toArray e)
  have hsize : ((List.replicate n.toNat zs).flatten).length = n.toNat * k := by simp [hk']
  have hR : C true (w.alloc (.cells ((List.replicate n.toNat zs).flatten).toArray e)) (.sl k (List.replicate n.toNat (zs.map .v))) (.slice (some ⟨w.heap.size, 0, none⟩) n.toNat n.toNat) [w.heap.size] ∨ n.toNat = 0 ∧ True := by
   by_cases hn : n.toNat = 0
   · exact .inr ⟨hn, trivial⟩
   · refine .inl ?_
     unfold C
     refine ⟨_, _, _, rfl, by simp, Nat.le_refl _, by simp [maxLen]; omega, .inr ⟨w.heap.size, 0, [], rfl, rfl, by simp, fun _ => ⟨rfl, _, e, hgn, by simp [hk']⟩, ?_⟩⟩
     refine Rws.of (xs := (List.replicate n.toNat zs).flatten) (fun row hm => ?_) ?_ fun j u hj => ?_
     · rw [List.mem_replicate] at hm; rw [hm.2]; simpa using hk'
     · rw [flatten_replicate_map]; exact Cs_vals hone
     · simp only [World.cell?, hgn]; simpa using hj
  have hx' : Ext w (w.alloc (.cells ((List.replicate n.toNat zs).flatten).toArray e)) := (Ext.refl w).alloc _
  have hrun' : (execOp a.eval o).run P w = .ok (.value (.slice (some ⟨w.heap.size, 0, none⟩) n.toNat n.toNat)) (w.alloc (.cells ((List.replicate n.toNat zs).flatten).toArray e)) := by
   simp [execOp, ho, hx.int hr rfl, hrun]
  rcases hR with hR | ⟨hn, _⟩
  · have hr' := hr.add (id := id) (G := [w.heap.size]) (u := .slice (some ⟨w.heap.size, 0, none⟩) n.toNat n.toNat) (b := 0) (r := .row k (List.replicate n.toNat (zs.map .v))) hf hx' ⟨by simp, fun b hb => by
     simp only [List.mem_singleton] at hb
     subst hb
     exact ⟨Nat.le_refl _, by simp, thaw_new⟩⟩ (by show C true _ _ _ _; simpa only [Ip.set, if_true] using hR)
    exact ⟨_, _, hrun', _, hr'.put hd ⟨by simp [Ip.set], _, _, _, rfl⟩⟩
  · have hr' := (hr.later hx').addF (id := id) (G := []) (u := .slice (some ⟨w.heap.size, 0, none⟩) n.toNat n.toNat) (b := 0) (r := .row k (List.replicate n.toNat (zs.map .v))) hf List.nodup_nil (by simp) (by
     show C true _ _ _ _
     simp only [Ip.set, if_true]
     unfold C
     exact ⟨_, _, _, rfl, by simp, Nat.le_refl _, by rw [hn]; exact Nat.zero_le _, .inl ⟨hn, rfl, fun _ => hn⟩⟩)
    exact ⟨_, _, hrun', _, hr'.put hd ⟨by simp [Ip.set], _, _, _, rfl⟩⟩
def numbered : Nat → List Operand → List (Nat × Operand)
 | _, [] => []
 | i, x :: r => (i, x) :: numbered (i + 1) r
inductive Elems (σ : St) (k : Nat) : List Operand → List (List E) → Prop where
 | nil : Elems σ k [] []
 | cons {x : Operand} {A0 : A} {r : List Operand} {r' : List (List E)} (hx : Get σ true x A0) (he : (cellsA A0).all E.cell1 = true) (hn : Nat.beq (cellsA A0).length k = true) (h : Elems σ k r r') : Elems σ k (x :: r) (cellsA A0 :: r')
theorem Elems.ok {k : Nat} {I : Ip} {w0 : Base} {w : World} {a : Act} (hr : RelI I w0 σ a w) : ∀ {xs : List Operand} {es : List (List E)} (i : Nat) (pre rest : List Value), Elems σ k xs es → pre.length = i * k → rest.length = xs.length * k →
 ∃ cs, Instr.fill (fun i => some (i * k, k)) (pre ++ rest).toArray ((numbered i xs).map fun y => (y.1, a.eval y.2)) = some (pre ++ cs).toArray ∧ VEs I w es.flatten cs ∧ (∀ c ∈ cs, c.oneCell' = true) ∧ cs.length = xs.length * k ∧ es.length = xs.length ∧ ∀ e ∈ es, e.length = k
 | [], es, i, pre, rest, h, hp, hl => by
  cases h
  have : rest = [] := List.eq_nil_of_length_eq_zero (by simpa using hl)
  subst this
  exact ⟨[], by simp [numbered, Instr.fill], rfl, by simp, by simp, rfl, by simp⟩
 | x :: xs, es, i, pre, rest, h, hp, hl => by
  cases h with
  | cons hx he hn h =>
   rename_i A0 r'
   obtain ⟨ds, h1, h2, h3⟩ := (hx.va hr rfl).cells he
   have hn' := Nat.eq_of_beq_eq_true hn
   have e1 := VEs_len h2
   have hl' : rest.length = xs.length * k + k := by rw [hl, List.length_cons, Nat.succ_mul]
   obtain ⟨cs, g1, g2, g3, g4, g5, g6⟩ := Elems.ok hr (i + 1) (pre ++ ds) (rest.drop k) h (by rw [List.length_append, hp, Nat.succ_mul]; omega) (by rw [List.length_drop]; omega)
   refine ⟨ds ++ cs, ?_, ?_, fun c hc => ?_, ?_, by simp [g5], fun e hm => ?_⟩
   · simp only [numbered, List.map_cons, Instr.fill, h1]
     have hdk : ds.length = k := e1.trans hn'
     rw [if_neg (by simp; omega)]
     have hfo := foldl_set (i * k) ds (pre ++ rest) (by simp; omega)
     have e2 : (pre ++ rest).take (i * k) ++ ds ++ (pre ++ rest).drop (i * k + ds.length) = pre ++ ds ++ rest.drop k := by
      rw [← hp, List.take_left' rfl, ← List.drop_drop, List.drop_left' rfl, hdk]
     rw [e2] at hfo
     rw [← List.append_assoc, ← g1, ← hfo]
     congr 1
     simp
   · rw [List.flatten_cons]; exact VEs_append h2 g2
   · rcases List.mem_append.1 hc with hc | hc
     · exact h3 c hc
     · exact g3 c hc
   · rw [List.length_append, g4, List.length_cons, Nat.succ_mul]; omega
   · rcases List.mem_cons.1 hm with rfl | hm
     · exact hn'
     · exact g6 e hm
theorem run_buildSlice {t e : TypeId} {k bytes : Nat} {z : Value} {xs : List Operand} {es : List (List E)} {I : Ip} {w0 : Base} {w : World} {a : Act} (hr : RelI I w0 σ a w) (ho : o.op = .buildSlice t xs.length (numbered 0 xs).toArray) (hel : Elems σ k xs es)
 (hu : P.underlying t = some (.slice e)) (hi : (P.info? e).map (fun i => (i.zero, i.size, i.bytes)) = some (some z, k, bytes)) (hb : Nat.ble (xs.length * k) 16777216 = true) :
 ∃ cs, (execOp a.eval o).run P w = .ok (.value (.slice (some ⟨w.heap.size, 0, none⟩) xs.length xs.length)) (w.alloc (.cells cs.toArray e)) ∧ VEs I w es.flatten cs ∧ (∀ c ∈ cs, c.oneCell' = true) ∧ cs.length = xs.length * k ∧ es.length = xs.length ∧ ∀ e ∈ es, e.length = k := by
 obtain ⟨i, hi1, hi2, hi3, hi4⟩ := info_parts hi
 have hb' := Nat.le_of_ble_eq_true hb
 obtain ⟨cs, g1, g2⟩ := Elems.ok hr 0 [] ((Array.range (xs.length * k)).map ((if xs.length * k = 0 then #[] else z.cells)[· % (if xs.length * k = 0 then #[] else z.cells).size]!)).toList hel (by simp) (by simp)
 refine ⟨cs, ?_, g2⟩
 simp only [List.nil_append] at g1
 have hmap : ((numbered 0 xs).toArray.map fun (p : Nat × Operand) => (p.1, a.eval p.2)) = ((numbered 0 xs).map fun y => (y.1, a.eval y.2)).toArray := by simp
 have hz : ∀ w : World, ((if xs.length * i.size = 0 then pure #[] else do pure (← zeroValue e).cells : Sem (Array Value))).run P w = .ok (if xs.length * k = 0 then #[] else z.cells) w := by
  intro w
  rw [hi3]
  by_cases h0 : xs.length * k = 0
  · rw [if_pos h0, if_pos h0]; rfl
  · rw [if_neg h0, if_neg h0]; simp [zeroValue, typeInfo, hi1, hi2]
 have hne : ¬ 16777216 < xs.length * i.size := by rw [hi3]; omega
 subst hi3
 by_cases h0 : xs.length * i.size = 0
 · simp only [h0, if_true] at g1
   have e0 : (Array.map (fun x => ((#[] : Array Value))[x % (#[] : Array Value).size]!) (Array.range 0)).toList.toArray = #[] := by simp
   rw [e0] at g1
   have e1 : Array.map (fun _ => (default : Value)) (Array.range 0) = #[] := by simp [Array.range]
   simp [execOp, ho, Instr.buildSlice, run_underlying hu, sizeOf, typeInfo, hi1, h0, e1, g1, newRow]
 · simp only [h0, if_false, Array.toArray_toList] at g1
   simp [execOp, ho, Instr.buildSlice, run_underlying hu, sizeOf, typeInfo, hi1, h0, hne, zeroValue, hi2, g1, newRow]
def chunk (k : Nat) : Nat → List T → List (List T)
 | 0, _ => []
 | n + 1, ts => ts.take k :: chunk k n (ts.drop k)
theorem chunk_ok (k : Nat) : ∀ (n : Nat) (ts : List T), ts.length = n * k → (chunk k n ts).flatten = ts ∧ (chunk k n ts).length = n ∧ ∀ row ∈ chunk k n ts, row.length = k
 | 0, ts, h => by
  have : ts = [] := List.eq_nil_of_length_eq_zero (by simpa using h)
  subst this
  exact ⟨rfl, rfl, by simp [chunk]⟩
 | n + 1, ts, h => by
  rw [Nat.succ_mul] at h
  obtain ⟨h1, h2, h3⟩ := chunk_ok k n (ts.drop k) (by simp; omega)
  refine ⟨by rw [chunk, List.flatten_cons, h1, List.take_append_drop], by simp [chunk, h2], fun row hm => ?_⟩
  rw [chunk] at hm
  rcases List.mem_cons.1 hm with rfl | hm
  · simp; omega
  · exact h3 row hm
theorem R_list {t e : TypeId} {k bytes : Nat} {z : Value} {xs : List Operand} {es : List (List E)} {σ' : St} {ts : List T} (id : Nat) (ho : o.op = .buildSlice t xs.length (numbered 0 xs).toArray) (hg : o.guard = none) (hd : o.dst.all (fun d => Nat.blt d σ.n) = true) (hel : Elems σ k xs es)
 (hu : P.underlying t = some (.slice e)) (hi : (P.info? e).map (fun i => (i.zero, i.size, i.bytes)) = some (some z, k, bytes)) (hb : Nat.ble (xs.length * k) 16777216 = true) (hm : Nat.ble xs.length maxLen = true) (ha : absorb σ es.flatten = some (σ', ts)) (hf : σ'.has id = false) :
 Op1 P ops o σ ((σ'.add id (.row k (chunk k xs.length ts))).put o.dst (true, .a (.one (.rf id)))) :=
 .eff hg fun w0 a w ⟨I, hr⟩ => by
  obtain ⟨cs, hrun, g1, g2, g3, g4, g5⟩ := run_buildSlice hr ho hel hu hi hb
  obtain ⟨I', G, h1, h2, h3, h4, _⟩ := RelI.absorb ha hr g1
  have hx : Ext w (w.alloc (.cells cs.toArray e)) := (Ext.refl w).alloc _
  have hgn := heap_alloc_new w (.cells cs.toArray e)
  have hr' := h1.later hx
  have hlt : ∀ b ∈ G, b ≠ w.heap.size := fun b hb => by have := (h4 b hb).2.1; omega
  have htl : ts.length = xs.length * k := by rw [← Cs.len h2]; exact g3
  obtain ⟨c1, c2, c3⟩ := chunk_ok k xs.length ts htl
  have hn' : σ'.n = σ.n := absorb_n ha
  have hr2 := hr'.addF (id := id) (G := w.heap.size :: G) (u := .slice (some ⟨w.heap.size, 0, none⟩) xs.length xs.length) (b := 0) (r := .row k (chunk k xs.length ts)) hf
   (List.nodup_cons.2 ⟨fun hm => hlt _ hm rfl, h3⟩) (fun b hb => by
    rcases List.mem_cons.1 hb with rfl | hb
    · exact ⟨.inl hr.ext.size, by simp, ⟨.inl _, e, hgn⟩, fun hz => by have := h1.old _ hz; omega, fun i hi => by have := (h1.lt i _ hi).1; omega⟩
    · exact (h4 b hb).mono hx) (by
    show C true _ _ _ _
    simp only [Ip.set, if_true]
    unfold C
    refine ⟨_, _, _, rfl, c2, Nat.le_refl _, ?_, .inr ⟨w.heap.size, 0, G, rfl, rfl, by simp, fun _ => ⟨rfl, _, e, hgn, by simpa using g3⟩, Rws.of (xs := cs) c3 (by rw [c1]; exact h2.mono hx) fun j u hj => ?_⟩⟩
    · exact Nat.le_of_ble_eq_true hm
    · simp only [World.cell?, hgn]; simpa using hj)
  exact ⟨_, _, hrun, _, hr2.put (by rw [show (σ'.add id (.row k (chunk k xs.length ts))).n = σ'.n from rfl, hn']; exact hd) ⟨by simp [Ip.set], _, _, _, rfl⟩⟩
theorem R_listz {t e : TypeId} {k bytes : Nat} {z : Value} {xs : List Operand} {es : List (List E)} {rows : List (List T)} (ho : o.op = .buildSlice t xs.length (numbered 0 xs).toArray) (hg : o.guard = none) (hd : o.dst.all (fun d => Nat.blt d σ.n) = true) (hel : Elems σ k xs es)
 (hu : P.underlying t = some (.slice e)) (hi : (P.info? e).map (fun i => (i.zero, i.size, i.bytes)) = some (some z, k, bytes)) (hb : Nat.ble (xs.length * k) 16777216 = true) (hm : Nat.ble xs.length maxLen = true) (hrows : es = rows.map fun r => r.map .t) :
 Op1 P ops o σ (σ.put o.dst (true, .a (.one (.t (.sl k rows))))) :=
 .eff hg fun w0 a w ⟨I, hr⟩ => by
  obtain ⟨cs, hrun, g1, g2, g3, g4, g5⟩ := run_buildSlice hr ho hel hu hi hb
  have hx : Ext w (w.alloc (.cells cs.toArray e)) := (Ext.refl w).alloc _
  have hgn := heap_alloc_new w (.cells cs.toArray e)
  have hr' := (hr.later hx).also (G := [w.heap.size]) fun b hb => by
   simp only [List.mem_singleton] at hb
   subst hb
   exact ⟨by simp, fun i hi => by have := (hr.lt i _ hi).1; omega⟩
  have key : ∀ (ts : List T) (cs : List Value), VEs I w (ts.map .t) cs → ∃ G, Cs false w ts cs G ∧ ∀ b ∈ G, I.Z b := by
   intro ts
   induction ts with
   | nil => intro cs h; exact ⟨[], by unfold Cs; exact ⟨h, rfl⟩, by simp⟩
   | cons t ts ih =>
    rintro cs ⟨c, cr, rfl, ⟨G1, k1, k2⟩, k3⟩
    obtain ⟨G2, k4, k5⟩ := ih cr k3
    refine ⟨G1 ++ G2, by unfold Cs; exact ⟨c, cr, G1, G2, rfl, k1, k4, rfl⟩, fun b hb => ?_⟩
    rcases List.mem_append.1 hb with hb | hb
    · exact k2 b hb
    · exact k5 b hb
  have efl : es.flatten = rows.flatten.map .t := by rw [hrows, List.map_flatten]
  rw [efl] at g1
  obtain ⟨G, q1, q2⟩ := key _ _ g1
  have hlen : rows.length = xs.length := by rw [← g4, hrows, List.length_map]
  refine ⟨_, _, hrun, _, hr'.put hd ⟨w.heap.size :: G, ?_, fun b hb => ?_⟩⟩
  · unfold C
    refine ⟨_, _, _, rfl, hlen, Nat.le_refl _, Nat.le_of_ble_eq_true hm, .inr ⟨w.heap.size, 0, G, rfl, rfl, by simp, (by simp), Rws.of (xs := cs) (fun row hr => ?_) (q1.mono hx) fun j u hj => ?_⟩⟩
    · have := g5 (row.map .t) (by rw [hrows]; exact List.mem_map_of_mem hr)
      simpa using this
    · simp only [World.cell?, hgn]; simpa using hj
  · rcases List.mem_cons.1 hb with rfl | hb
    · exact .inr (by simp)
    · exact .inl (q2 b hb)
end
end Go.Q
