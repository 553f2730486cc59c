import Derived.Test.YtamnfkfjfelbbaaAbsHxw
set_option linter.unusedVariables false
set_option linter.unusedSimpArgs false
namespace Go.Q
open Go.RowKit
section
variable {P : Program} {ops : Array Oper} {o : Oper} {σ : St} {q : Bool}
theorem Rws.takeN {w : World} {b k : Nat} : ∀ {rows : List (List T)} {off : Nat} {G : List Nat}, Rws true w b k off rows G → G.Nodup → ∀ m, ∃ G', Rws true w b k off (rows.take m) G' ∧ G'.Sublist G
 | [], off, G, h, _, m => ⟨G, by simpa using h, List.Sublist.refl _⟩
 | row :: rows, off, G, h, hn, 0 => ⟨[], by simp [Rws], by simp⟩
 | row :: rows, off, G, h, hn, m + 1 => by
  simp only [Rws] at h
  obtain ⟨G1, G2, h1, h2, h3, rfl⟩ := h
  obtain ⟨G', g1, g2⟩ := Rws.takeN h3 (List.nodup_append.1 hn).2.1 m
  refine ⟨G1 ++ G', ?_, List.Sublist.append (List.Sublist.refl _) g2⟩
  rw [List.take_succ_cons]
  simp only [Rws]
  exact ⟨G1, G', h1, h2, g1, rfl⟩
theorem R_cut {id k m : Nat} {t e : TypeId} {x : Operand} {hi : Option Operand} {ag : Bool} {rows : List (List T)} (ho : o.op = .slice t x none hi none) (hg : o.guard = none) (hd : o.dst.all (fun d => Nat.blt d σ.n) = true) (hx : Get σ true x (.one (.rf id)))
 (hs : look σ.res id = some (.row k rows)) (hh : Bnd σ true hi rows.length m) (hu : P.underlying t = some (.slice e)) (hk : tyB P e ag k = true) (hb : m ≤ rows.length) : Op1 P ops o σ ((σ.chg id (.row k (rows.take m))).put o.dst (true, .a (.one (.rf id)))) :=
 .eff hg fun w0 a w ⟨I, hr⟩ => by
  obtain ⟨h1, a0, N, M, h2⟩ : VE I w (.rf id) (a.eval x) := hx.va hr rfl
  have hC : C true w (.sl k rows) (I.hd id) (I.F id) := hr.res id _ hs
  have own := hr.own id _ hs
  rw [← h1, h2] at hC
  obtain ⟨e1, e2, e3⟩ := hC.hdr
  have hrun : (Instr.sliceAt t (.slice a0 N M) none (hi.map a.eval) none).run P w = .ok (.slice (if M = 0 then a0 else a0.map (·.add (0 * k))) (m - 0) (M - 0)) w := by
   have b1 : m ≤ M := by omega
   rcases hh.val hr rfl with ⟨h6, rfl⟩ | h6 <;> rw [h6] <;> simp [Instr.sliceAt, Instr.slice, run_underlying hu, Instr.sliceBounds, Instr.sliceBound, asIntOf, tyB_size hk, b1, e1, e2]
  have hadr : (if M = 0 then a0 else a0.map (·.add (0 * k))) = a0 := by
   split
   · rfl
   · cases a0 with
     | none => rfl
     | some ga => obtain ⟨g, off, sp⟩ := ga; simp [Addr.add]
  rw [hadr, Nat.sub_zero, Nat.sub_zero] at hrun
  rcases hC.blk with ⟨h3, h4, h5⟩ | ⟨g, G, cur, e', rfl, h4, h5, h6, h7⟩
  · subst h5
    have hm0 : m = 0 := by simpa using hb
    have hN0 : N = 0 := by simpa using e1.symm
    have hR := hr.chg hs (Chg.refl _ _) (G := []) (u := .slice a0 m M) (r := .row k (([] : List (List T)).take m)) ⟨List.nodup_nil, by simp⟩ (by
     show C true _ _ _ _
     simp only [Ip.set, if_true]
     unfold C
     exact ⟨_, _, _, rfl, by simp; omega, by omega, e3, .inl ⟨hm0, rfl, fun _ => h3⟩⟩)
    exact ⟨.slice a0 m M, w, by simp [execOp, ho, h2, hrun], _, hR.put hd ⟨by simp [Ip.set], a0, m, M, rfl⟩⟩
  · rw [h4] at own
    have hnd := List.nodup_cons.1 own.1
    obtain ⟨G', g1, g2⟩ := h7.takeN hnd.2 m
    have hR := hr.chg hs (Chg.refl _ _) (G := g :: G') (u := .slice (some ⟨g, 0, none⟩) m M) (r := .row k (rows.take m)) ⟨List.nodup_cons.2 ⟨fun hm => hnd.1 (g2.subset hm), hnd.2.sublist g2⟩, fun b hb => by
     have hin : b ∈ g :: G := by
      rcases List.mem_cons.1 hb with rfl | hb
      · simp
      · simp [g2.subset hb]
     obtain ⟨o1, o2⟩ := own.2 b hin
     exact ⟨o1, (hr.lt id b (by rw [h4]; exact hin)).1, o2, .inl (by rw [h4]; exact hin)⟩⟩ (by
     show C true _ _ _ _
     simp only [Ip.set, if_true]
     unfold C
     exact ⟨_, _, _, rfl, by simp; omega, by omega, e3, .inr ⟨g, 0, G', rfl, rfl, (Array.getElem?_eq_some_iff.1 h5).1, fun _ => ⟨rfl, cur, e', h5, h6⟩, g1⟩⟩)
    exact ⟨.slice (some ⟨g, 0, none⟩) m M, w, by simp [execOp, ho, h2, hrun], _, hR.put hd ⟨by simp [Ip.set], some ⟨g, 0, none⟩, m, M, rfl⟩⟩
theorem zeroCells_flat (zs : List Value) (n : Nat) : (Builtin.zeroCells zs.toArray n).toList = (List.replicate n zs).flatten := by
 unfold Builtin.zeroCells
 rw [← made_flat zs (.inr trivial) n]
 simp
theorem R_clear {id k j bytes : Nat} {t e : TypeId} {x : Operand} {z : Value} {zs : List Value} {rows : List (List T)} (ho : o.op = .call { callee := .builtin .clear, args := #[x], argTypes := #[t] }) (hg : o.guard = none) (hd : o.dst = none) (hx : Get σ true x (.one (.tl id k j)))
 (hs : look σ.res id = some (.row k rows)) (hu : P.underlying t = some (.slice e)) (hi : (P.info? e).map (fun i => (i.zero, i.size, i.bytes)) = some (some z, k, bytes)) (hz : z.cells = zs.toArray) (hk : (Nat.beq zs.length k && zs.all Value.oneCell') = true) :
 Op1 P ops o σ (σ.upd id (.row k (rows.take j ++ List.replicate (rows.length - j) (zs.map .v)))) :=
 .eff hg fun w0 a w ⟨I, hr⟩ => by
  simp only [Bool.and_eq_true] at hk
  have hzk := Nat.eq_of_beq_eq_true hk.1
  obtain ⟨a0, a', N, M, h1, h2, h3, h4, h5⟩ : VE I w (.tl id k j) (a.eval x) := hx.va hr rfl
  have hC : C true w (.sl k rows) (I.hd id) (I.F id) := hr.res id _ hs
  have hC0 := hC
  have own := hr.own id _ hs
  rw [h1] at hC
  obtain ⟨e1, e2, e3⟩ := hC.hdr
  obtain ⟨i, hi1, hi2, hi3, hi4⟩ := info_parts hi
  subst hi3
  by_cases hj : j = N
  · have hrun : (Builtin.clear_ #[t] o.type #[a.eval x]).run P w = .ok (.tuple #[]) w := by
     rw [h2, show N - j = 0 by omega]
     cases a' <;> simp [Builtin.clear_, run_underlying hu]
    have er : rows.take j ++ List.replicate (rows.length - j) (zs.map T.v) = rows := by
     rw [show rows.length - j = 0 by omega, List.take_of_length_le (by omega)]; simp
    rw [er]
    have hR := hr.upd (G := I.F id) (r := .row i.size rows) hs (Chg.refl _ _) ⟨own.1, fun b hb => ⟨(own.2 b hb).1, (hr.lt id b hb).1, (own.2 b hb).2, .inl hb⟩⟩ (by show C true _ _ _ _; simpa [Ip.set] using hC0)
    exact ⟨.tuple #[], w, by simp [execOp, ho, resolve, invoke, builtin, hrun], _, by rw [hd]; exact hR⟩
  · have hjN : j < N := by omega
    obtain ⟨g', rfl, rfl⟩ := h5 (by omega)
    rcases hC.blk with ⟨q1, _⟩ | ⟨g, G, cur, e', q1, q2, q3, q4, q5⟩
    · omega
    cases q1
    have hvals : ∀ v ∈ (List.replicate (N - j) zs).flatten, v.oneCell' = true := fun v hv => by
     rw [List.mem_flatten] at hv
     obtain ⟨l, hl, hv⟩ := hv
     rw [(List.mem_replicate.1 hl).2] at hv
     exact List.all_eq_true.1 hk.2 v hv
    have hlen : ((List.replicate (N - j) zs).flatten).length = (N - j) * i.size := by simp [hzk]
    have hjk : j * i.size + (N - j) * i.size = N * i.size := by rw [← Nat.add_mul]; congr 1; omega
    have hNM : N * i.size ≤ M * i.size := Nat.mul_le_mul_right _ e2
    have hst := run_storeCells_at P g' (j * i.size) e' ((List.replicate (N - j) zs).flatten) 0 cur w q3 (by rw [hlen, q4]; omega) hvals
    simp only [Nat.add_zero] at hst
    have hzv : (zeroValue e).run P w = .ok z w := by simp [zeroValue, typeInfo, hi1, hi2]
    have hrun : (Builtin.clear_ #[t] o.type #[a.eval x]).run P w = .ok (.tuple #[]) (w.setRow g' (cur.toList.take (j * i.size) ++ (List.replicate (N - j) zs).flatten ++ cur.toList.drop (j * i.size + ((List.replicate (N - j) zs).flatten).length)).toArray) := by
     rw [h2]
     have hnz : ∃ n', N - j = n' + 1 := ⟨N - j - 1, by omega⟩
     obtain ⟨n', hn'⟩ := hnz
     have hzc : (Builtin.zeroCells z.cells (N - j)).toList = (List.replicate (N - j) zs).flatten := by rw [hz]; exact zeroCells_flat zs _
     rw [← hzc, hn'] at hst ⊢
     simp [Builtin.clear_, run_underlying hu, hzv, hst]
    generalize harr : (cur.toList.take (j * i.size) ++ (List.replicate (N - j) zs).flatten ++ cur.toList.drop (j * i.size + ((List.replicate (N - j) zs).flatten).length)).toArray = arr at hrun
    have hgn : (w.setRow g' arr).heap[g']? = some (.cells arr e' (0, 0)) := setRow_heap w g' cur _ e' _ q3
    have hsz : arr.size = M * i.size := by
     rw [← harr, ← q4]
     simp only [List.size_toArray, List.length_append, List.length_take, List.length_drop, Array.length_toList, hlen]
     omega
    have hch : Chg w (w.setRow g' arr) (I.F id) := ⟨rfl, rfl, rfl, by simp [World.setRow], fun b _ hb => setRow_other w g' b _ (fun e => hb (by rw [q2, e]; simp))⟩
    rw [q2] at own
    have hnd := List.nodup_cons.1 own.1
    obtain ⟨G', g1, g2⟩ := q5.takeN hnd.2 j
    obtain ⟨s1, xs, s2, s3, s4⟩ := g1.flat
    simp only [Nat.zero_add] at s4
    have hxl : xs.length = j * i.size := by rw [s3, List.length_take]; congr 1; omega
    have hxs : cur.toList.take (j * i.size) = xs := by
     apply List.ext_getElem?
     intro p
     by_cases hp : p < xs.length
     · have := s4 p _ (List.getElem?_eq_getElem hp)
       simp only [World.cell?, q3] at this
       rw [List.getElem?_take, if_pos (by omega), List.getElem?_eq_getElem hp]
       simpa using this
     · rw [List.getElem?_eq_none (by simp; omega), List.getElem?_eq_none (by omega)]
    have hgne : ∀ b ∈ G', b ≠ g' := fun b hb e => hnd.1 (e ▸ g2.subset hb)
    have hR := hr.upd (G := g' :: G') (r := .row i.size (rows.take j ++ List.replicate (rows.length - j) (zs.map .v))) hs hch ⟨List.nodup_cons.2 ⟨fun hm => hnd.1 (g2.subset hm), hnd.2.sublist g2⟩, fun b hb => by
     have hin : b ∈ g' :: G := by
      rcases List.mem_cons.1 hb with rfl | hb
      · simp
      · simp [g2.subset hb]
     obtain ⟨o1, o2⟩ := own.2 b hin
     refine ⟨o1, Nat.lt_of_lt_of_le (hr.lt id b (by rw [q2]; exact hin)).1 hch.size, ?_, .inl (by rw [q2]; exact hin)⟩
     by_cases eb : b = g'
     · subst eb; exact ⟨.inl _, _, hgn⟩
     · obtain ⟨cc, ee, o3⟩ := o2
       exact ⟨cc, ee, (setRow_other w g' b _ eb).trans o3⟩⟩ (by
     show C true _ _ _ _
     simp only [Ip.set, if_true]
     rw [h1]
     unfold C
     refine ⟨_, _, _, rfl, by simp; omega, e2, e3, .inr ⟨g', 0, G', rfl, rfl, (Array.getElem?_eq_some_iff.1 hgn).1, fun _ => ⟨rfl, arr, e', hgn, hsz⟩, Rws.of (xs := xs ++ (List.replicate (N - j) zs).flatten) (fun row hm => ?_) ?_ fun p u hp => ?_⟩⟩
     · rcases List.mem_append.1 hm with hm | hm
       · exact s1 row hm
       · rw [(List.mem_replicate.1 hm).2, List.length_map]; exact hzk
     · rw [List.flatten_append]
       have s2' : Cs true (w.setRow g' arr) (rows.take j).flatten xs G' := s2.congr fun b hb => setRow_other w g' b _ (hgne b hb)
       have s3' : Cs true (w.setRow g' arr) (List.replicate (rows.length - j) (zs.map T.v)).flatten ((List.replicate (N - j) zs).flatten) [] := by
        rw [flatten_replicate_map, e1]
        exact Cs_vals (List.all_eq_true.2 hvals)
       simpa using s2'.append s3'
     · simp only [World.cell?, hgn, Nat.zero_add]
       rw [← harr, hxs]
       have hlt := (List.getElem?_eq_some_iff.1 hp).1
       simp only [Option.isSome_none, Bool.false_eq_true, if_false, List.getElem?_toArray]
       rw [List.getElem?_append_left hlt]; exact hp)
    exact ⟨.tuple #[], w.setRow g' arr, by simp [execOp, ho, resolve, invoke, builtin, hrun], _, by rw [hd]; exact hR⟩
theorem R_callq {f : FuncId} {l : List Operand} {tys : Array TypeId} {ins : List V0} {out : V} (ho : o.op = .call { callee := .value (.func f), args := l.toArray, argTypes := tys }) (hg : Grd ops o σ q) (hd : o.dst.all (fun d => Nat.blt d σ.n) = true)
 (ha : Args σ q l ins) (h : q = true → FrT P f ins out) : Op1 P ops o σ (σ.put o.dst (q, inS out)) := by
 cases q with
 | true => exact R_callz (h rfl) ho hg hd ha
 | false =>
  rintro w0 a w ⟨I, hr⟩ K Q hK
  rw [hg.wanted hr]
  exact hK _ _ ⟨I, hr.put hd rfl⟩
theorem isV_map {α : Type} {f : α → List T} (h : ∀ x, (f x).all T.isV = true) : ∀ l : List α, (l.map f).flatten.all T.isV = true
 | [] => rfl
 | x :: l => by rw [List.map_cons, List.flatten_cons, List.all_append, h x, isV_map h l]; rfl
theorem isV_part {α : Type} {f : α → List T} (h : ∀ x, (f x).all T.isV = true) (l : List α) (n m : Nat) : (((l.map f).take m).drop n).flatten.all T.isV = true := by
 rw [← List.map_take, ← List.map_drop]; exact isV_map h _
theorem R_slice_vwr {id : Nat} {t e : TypeId} {x : Operand} {lo hi : Option Operand} {k n m : Nat} {ag : Bool} {rows : List (List T)} (ho : o.op = .slice t x lo hi none) (hg : Grd ops o σ q) (hd : o.dst.all (fun d => Nat.blt d σ.n) = true) (hx : Get σ q x (.one (.rf id))) (hs : look σ.res id = some (.row k rows))
 (hl : Bnd σ q lo 0 n) (hh : Bnd σ q hi rows.length m) (hu : P.underlying t = some (.slice e)) (hk : tyB P e ag k = true) (hb : q = true → n ≤ m ∧ m ≤ rows.length) : Op1 P ops o σ (σ.put o.dst (q, .a (.one (.vw id (.sl k ((rows.take m).drop n)))))) :=
 .val hg hd fun I w0 a w hr hq => by
  have hv : VE I w (.rf id) (a.eval x) := hx.va hr hq
  have hC : C true w (.sl k rows) (I.hd id) (I.F id) := hr.res id _ hs
  obtain ⟨v', F', g1, g2, g3⟩ := slice_C hu hk (C.read hC) (hl.val hr hq) (hh.val hr hq) (hb hq).2 (hb hq).1
  rw [← hv.1] at g1
  exact ⟨v', by simp [execOp, ho, g1], F', g2, g3⟩
theorem Rws_nils {w : World} {b k' : Nat} : ∀ {n off : Nat} {G : List Nat}, Rws true w b 1 off (List.replicate n [.v (.slice none 0 0)]) G → Rws true w b 1 off (List.replicate n [.sl k' []]) G
 | 0, _, _, h => h
 | n + 1, off, G, h => by
  rw [List.replicate_succ] at h ⊢
  simp only [Rws] at h ⊢
  obtain ⟨G1, G2, h1, h2, h3, rfl⟩ := h
  refine ⟨G1, G2, rfl, ?_, Rws_nils h3, rfl⟩
  simp only [Ms] at h2 ⊢
  obtain ⟨c, G3, G4, h4, h5, h6, rfl⟩ := h2
  refine ⟨c, G3, G4, h4, ?_, h6, rfl⟩
  simp only [C] at h5
  obtain ⟨rfl, rfl, _⟩ := h5
  unfold C
  exact ⟨none, 0, 0, rfl, rfl, Nat.le_refl _, Nat.zero_le _, .inl ⟨rfl, rfl, fun _ => rfl⟩⟩
theorem C_nils {w : World} {n k' : Nat} {v : Value} {F : List Nat} (h : C true w (.sl 1 (List.replicate n [.v (.slice none 0 0)])) v F) : C true w (.sl 1 (List.replicate n [.sl k' []])) v F := by
 simp only [C] at h ⊢
 obtain ⟨a, len, cap, h1, h2, h3, h4, h5⟩ := h
 refine ⟨a, len, cap, h1, by simpa using h2, h3, h4, ?_⟩
 rcases h5 with h5 | ⟨b, off, G, h6, h7, h8, h9, h10⟩
 · exact .inl h5
 · exact .inr ⟨b, off, G, h6, h7, h8, h9, Rws_nils h10⟩
theorem RelI.rerow {I : Ip} {w0 : Base} {w : World} {a : Act} (h : RelI I w0 σ a w) {id : Nat} {r0 r : R} (h0 : look σ.res id = some r0) (hv : RR I w id r0 → RR I w id r) : RelI I w0 ⟨σ.n, σ.slots, setR σ.res id r⟩ a w := by
 have key : ∀ i r', look (setR σ.res id r) i = some r' → (i = id ∧ r' = r) ∨ look σ.res i = some r' := fun i r' hi => by
  rcases look_setR _ _ _ _ _ hi with ⟨h1, h2, _⟩ | ⟨_, h2⟩
  · exact .inl ⟨h1, h2⟩
  · exact .inr h2
 refine ⟨h.ext, h.defers, h.size, h.slots, fun i r' hi => ?_, h.old, h.lt, fun i r' hi => ?_, h.apart⟩
 · rcases key i r' hi with ⟨rfl, rfl⟩ | hi
   · exact hv (h.res _ _ h0)
   · exact h.res i r' hi
 · rcases key i r' hi with ⟨rfl, rfl⟩ | hi
   · exact h.own _ _ h0
   · exact h.own i r' hi
theorem Le.nilRow {n0 : Nat} {sl : List (Nat × (Bool × S))} {rs : List (Nat × R)} {id m : Nat} (k' : Nat) (hs : look rs id = some (.row 1 (List.replicate m [.v (.slice none 0 0)]))) : Le ⟨n0, sl, rs⟩ ⟨n0, sl, setR rs id (.row 1 (List.replicate m [.sl k' []]))⟩ := fun w0 a w ⟨I, hr⟩ =>
 ⟨I, hr.rerow (r := .row 1 (List.replicate m [.sl k' []])) hs fun h => C_nils h⟩
end
end Go.Q
