import Derived.Test.YtbkhopfpejhnlaaGreatB34rc
set_option linter.unusedVariables false
set_option linter.unusedSimpArgs false
namespace Go.Q
open Go.RowKit
section
variable {P : Program} {ops : Array Oper} {o : Oper} {σ : St} {q : Bool}
theorem R_slice_pf {id k m : Nat} {t e : TypeId} {x : Operand} {hi : Option Operand} {ag : Bool} {rows : List (List T)} (ho : o.op = .slice t x none hi none) (hg : Grd ops o σ q) (hd : o.dst.all (fun d => Nat.blt d σ.n) = true) (hx : Get σ q x (.one (.rf id)))
 (hs : look σ.res id = some (.row k rows)) (hh : Bnd σ q hi rows.length m) (hu : P.underlying t = some (.slice e)) (hk : tyB P e ag k = true) (hb : q = true → m ≤ rows.length) : Op1 P ops o σ (σ.put o.dst (q, .a (.one (.pf id k m)))) :=
 .val hg hd fun I w0 a w hr hq => by
  obtain ⟨h1, a0, N, M, h2⟩ : VE I w (.rf id) (a.eval x) := hx.va hr hq
  have hC : C true w (.sl k rows) (I.hd id) (I.F id) := hr.res id _ hs
  rw [← h1, h2] at hC
  obtain ⟨e1, e2, e3⟩ := hC.hdr
  have hb := hb hq
  have hrun : (Instr.sliceAt t (.slice a0 N M) none (hi.map a.eval) none).run P w = .ok (.slice (if M = 0 then a0 else a0.map (·.add (0 * k))) (m - 0) (M - 0)) w := by
   have b1 : m ≤ M := by omega
   rcases hh.val hr hq with ⟨h6, rfl⟩ | h6 <;> rw [h6] <;> simp [Instr.sliceAt, Instr.slice, run_underlying hu, Instr.sliceBounds, Instr.sliceBound, asIntOf, tyB_size hk, b1, e1, e2]
  have hadr : (if M = 0 then a0 else a0.map (·.add (0 * k))) = a0 := by
   split
   · rfl
   · cases a0 with
     | none => rfl
     | some ga => obtain ⟨g, off, sp⟩ := ga; simp [Addr.add]
  rw [hadr, Nat.sub_zero, Nat.sub_zero] at hrun
  exact ⟨.slice a0 m M, by simp [execOp, ho, h2, hrun], a0, N, M, by rw [← h1, h2], rfl, by omega⟩
theorem R_slice3 {id k n m r : Nat} {t e : TypeId} {x lo hi mx : Operand} {ag : Bool} {rows : List (List T)} (ho : o.op = .slice t x (some lo) (some hi) (some mx)) (hg : Grd ops o σ q) (hd : o.dst.all (fun d => Nat.blt d σ.n) = true) (hx : Get σ q x (.one (.rf id)))
 (hs : look σ.res id = some (.row k rows)) (hl : Get σ q lo (.one (.t (.v (.int .i64 (n : Nat)))))) (hh : Get σ q hi (.one (.t (.v (.int .i64 (m : Nat)))))) (hm : Get σ q mx (.one (.t (.v (.int .i64 (r : Nat)))))) (hu : P.underlying t = some (.slice e)) (hk : tyB P e ag k = true) (hb : q = true → n ≤ m ∧ m ≤ r ∧ r ≤ rows.length) : Op1 P ops o σ (σ.put o.dst (q, .a (.one .no))) :=
 .val hg hd fun I w0 a w hr hq => by
  obtain ⟨h1, a0, N, M, h2⟩ : VE I w (.rf id) (a.eval x) := hx.va hr hq
  have hC : C true w (.sl k rows) (I.hd id) (I.F id) := hr.res id _ hs
  rw [← h1, h2] at hC
  obtain ⟨e1, e2, e3⟩ := hC.hdr
  obtain ⟨b1, b2, b3⟩ := hb hq
  have c1 : m ≤ M := by omega
  have c2 : r ≤ M := by omega
  refine ⟨_, by simp [execOp, ho, h2, hl.int hr hq, hh.int hr hq, hm.int hr hq, Instr.sliceAt, Instr.slice, run_underlying hu, Instr.sliceBounds, Instr.sliceBound, asIntOf, tyB_size hk, b1, b2, c1, c2]; rfl, trivial⟩
theorem R_slice_pftl {id k m : Nat} {t e : TypeId} {x : Operand} {lo hi : Option Operand} {ag : Bool} {rows : List (List T)} {m' n' : Nat} (ho : o.op = .slice t x lo hi none) (hg : Grd ops o σ q) (hd : o.dst.all (fun d => Nat.blt d σ.n) = true) (hx : Get σ q x (.one (.pf id k m)))
 (hs : look σ.res id = some (.row k rows)) (hl : Bnd σ q lo 0 m') (hh : Bnd σ q hi m n') (hu : P.underlying t = some (.slice e)) (hk : tyB P e ag k = true) (hb : q = true → m' = m ∧ n' = rows.length) : Op1 P ops o σ (σ.put o.dst (q, .a (.one (.tl id k m)))) :=
 .val hg hd fun I w0 a w hr hq => by
  obtain ⟨a0, N, M, h1, h2, h3⟩ : VE I w (.pf id k m) (a.eval x) := hx.va hr hq
  have hC : C true w (.sl k rows) (I.hd id) (I.F id) := hr.res id _ hs
  rw [h1] at hC
  obtain ⟨e1, e2, e3⟩ := hC.hdr
  obtain ⟨rfl, rfl⟩ := hb hq
  rw [e1] at hh
  have hrun : (Instr.sliceAt t (.slice a0 m' M) (lo.map a.eval) (hi.map a.eval) none).run P w = .ok (.slice (if M = m' then a0 else a0.map (·.add (m' * k))) (N - m') (M - m')) w := by
   have b1 : m' ≤ M := by omega
   rcases hl.val hr hq with ⟨h6, h7⟩ | h6 <;> rcases hh.val hr hq with ⟨h8, h9⟩ | h8 <;> rw [h6, h8] <;> (try subst h7) <;> (try subst h9) <;> simp [Instr.sliceAt, Instr.slice, run_underlying hu, Instr.sliceBounds, Instr.sliceBound, asIntOf, tyB_size hk, b1, e2, h3]
  refine ⟨.slice (if M = m' then a0 else a0.map (·.add (m' * k))) (N - m') (M - m'), by simp [execOp, ho, h2, hrun], a0, (if M = m' then a0 else a0.map (·.add (m' * k))), N, M, h1, rfl, h3, e2, fun hlt => ?_⟩
  rcases hC.blk with ⟨h5, _⟩ | ⟨g, G, cur, e, rfl, _⟩
  · omega
  · refine ⟨g, rfl, ?_⟩
    rw [if_neg (by omega)]
    simp [Addr.add_lit]
theorem R_len_pf {id k m : Nat} {x : Operand} {t e : TypeId} (ho : o.op = .call { callee := .builtin .len, args := #[x], argTypes := #[t] }) (hg : Grd ops o σ q) (hd : o.dst.all (fun d => Nat.blt d σ.n) = true)
 (hx : Get σ q x (.one (.pf id k m))) (hu : P.underlying t = some (.slice e)) : Op1 P ops o σ (σ.put o.dst (q, .a (.one (.t (.v (.int .i64 m)))))) :=
 .val hg hd fun I w0 a w hr hq => by
  obtain ⟨a0, N, M, h1, h2, h3⟩ : VE I w (.pf id k m) (a.eval x) := hx.va hr hq
  refine ⟨_, ?_, VS_v _⟩
  simp [execOp, ho, resolve, invoke, builtin, h2, Builtin.len_, goInt, run_underlying hu]
theorem R_append_pf {id k i bytes : Nat} {t e : TypeId} {x y : Operand} {A2 : A} {rows rows2 : List (List T)} {z : Value} (ho : o.op = .call { callee := .builtin .append, args := #[x, y], argTypes := #[t, t] }) (hg : o.guard = none) (hd : o.dst.all (fun d => Nat.blt d σ.n) = true)
 (hx : Get σ true x (.one (.pf id k i))) (hs : look σ.res id = some (.row k rows)) (hy : Get σ true y A2) (hq : Sq σ A2 k rows2) (hv1 : rows.flatten.all T.isV = true) (hv2 : rows2.flatten.all T.isV = true) (hu : P.underlying t = some (.slice e)) (hi : (P.info? e).map (fun i => (i.zero, i.size, i.bytes)) = some (some z, k, bytes)) (hc : i + rows2.length ≤ rows.length) :
 Op1 P ops o σ ((σ.upd id (.row k (rows.take i ++ rows2 ++ rows.drop (i + rows2.length)))).put o.dst (true, .a (.one (.pf id k (i + rows2.length))))) :=
 .eff hg fun w0 a w ⟨I, hr⟩ => by
  obtain ⟨a0, N, M, h1, h2, h3⟩ : VE I w (.pf id k i) (a.eval x) := hx.va hr rfl
  have hC : C true w (.sl k rows) (I.hd id) (I.F id) := hr.res id _ hs
  have hC0 := hC
  have own := hr.own id _ hs
  rw [h1] at hC
  obtain ⟨e1, e2, e3⟩ := hC.hdr
  obtain ⟨F2, hC2⟩ := hq.val hr (hy.va hr rfl)
  generalize hev : a.eval y = yv at hC2
  have hC2' := hC2
  simp only [C] at hC2'
  obtain ⟨a2, m, cc, rfl, g2, g3, g4, g5⟩ := hC2'
  subst g2
  obtain ⟨inf, hi1, hi2, hi3, hi4⟩ := info_parts hi
  subst hi3
  by_cases hc0 : rows2 = []
  · subst hc0
    have hrun : (Builtin.append_ #[t, t] o.type #[a.eval x, .slice a2 ([] : List (List T)).length cc]).run P w = .ok (a.eval x) w := by
     have hf : ∀ w : World, (Builtin.firstCells inf.size 0 (.slice a2 0 cc)).run P w = .ok #[] w := by
      intro w; cases a2 <;> simp [Builtin.firstCells, loadCells, loadCellsFrom]
     have h34 : i ≤ M := by omega
     rw [h2]
     cases a0 <;> simp [Builtin.append_, run_underlying hu, sizeOf, typeInfo, hi1, Builtin.lenOf, h34, hf, storeCells]
    have er : rows.take i ++ [] ++ rows.drop (i + ([] : List (List T)).length) = rows := by simp
    rw [er]
    have hR := hr.upd (G := I.F id) (r := .row inf.size rows) hs (Chg.refl _ _) ⟨own.1, fun b hb => ⟨(own.2 b hb).1, (hr.lt id b hb).1, (own.2 b hb).2, .inl hb⟩⟩ (by show C true _ _ _ _; simpa [Ip.set] using hC0)
    have hhd : ∀ j, (I.set id (I.F id) (I.hd id) (I.B id)).hd j = I.hd j := fun j => by simp only [Ip.set]; split; (rename_i e; rw [e]); rfl
    exact ⟨a.eval x, w, by have hrun0 := hrun; simp only [List.length_nil] at hrun0; simp [execOp, ho, resolve, invoke, builtin, hev, hrun0], _, hR.put hd ⟨a0, N, M, by rw [hhd, h1], by rw [h2]; simp, by simpa using h3⟩⟩
  · have hpos : 0 < rows2.length := List.length_pos_iff.2 hc0
    rcases hC.blk with ⟨q1, _, q3⟩ | ⟨g, G, cur, e', q1, q2, q3, q4, q5⟩
    · subst q3; simp at hc; exact absurd hc.2 hc0
    subst q1
    rcases g5 with ⟨g5, _⟩ | ⟨b2, off2, G2, rfl, rfl, g6, _, g8⟩
    · omega
    obtain ⟨r1, news, r2, r3, r4⟩ := g8.flat
    obtain ⟨r2', _⟩ := Cs_flat (o' := true) (w' := w) hv2 r2
    have hone := r2.cell1'
    have hnews : ∀ p u, news[p]? = some u → w.cell? ((⟨b2, off2, none⟩ : Addr).add p) = some u := fun p u hp => by rw [Addr.add_lit]; exact r4 p u hp
    obtain ⟨s1, xs, s2, s3, s4⟩ := q5.flat
    simp only [Nat.zero_add] at s4
    have hG : G = [] := (Cs_flat (o' := true) (w' := w) hv1 s2).2
    subst hG
    rw [e1] at s3 hc
    have hjk : i * inf.size + rows2.length * inf.size = (i + rows2.length) * inf.size := by rw [← Nat.add_mul]
    have hle2 : (i + rows2.length) * inf.size ≤ N * inf.size := Nat.mul_le_mul_right _ hc
    have hNM : N * inf.size ≤ M * inf.size := Nat.mul_le_mul_right _ e2
    have hrun := run_append_at (P := P) w t o.type e e' inf hu hi1 g 0 i M cur q3 ⟨b2, off2, none⟩ rows2.length cc news r3 hnews hone (by omega) (by rw [r3, q4]; omega)
    rw [Nat.zero_add, r3, hjk, ← h2] at hrun
    generalize harr : (cur.toList.take (i * inf.size) ++ news ++ cur.toList.drop ((i + rows2.length) * inf.size)).toArray = arr at hrun
    have hgn : (w.setRow g arr).heap[g]? = some (.cells arr e' (0, 0)) := setRow_heap w g cur _ e' _ q3
    have hcl : cur.toList.length = M * inf.size := by rw [← q4]; rfl
    have hsz : arr.size = M * inf.size := by
     rw [← harr]
     simp only [List.size_toArray, List.length_append, r3, List.length_take, List.length_drop, hcl] at *
     omega
    have hch : Chg w (w.setRow g arr) (I.F id) := ⟨rfl, rfl, rfl, by simp [World.setRow], fun b _ hb => setRow_other w g b _ (fun e => hb (by rw [q2, e]; simp))⟩
    rw [q2] at own
    have hxs : cur.toList.take (N * inf.size) = xs := by
     apply List.ext_getElem?
     intro p
     by_cases hp : p < xs.length
     · have := s4 p _ (List.getElem?_eq_getElem hp)
       simp only [World.cell?, q3] at this
       rw [List.getElem?_take, if_pos (by omega), List.getElem?_eq_getElem hp]
       simpa using this
     · rw [List.getElem?_eq_none (by simp; omega), List.getElem?_eq_none (by omega)]
    have hcur : cur.toList = xs ++ cur.toList.drop (N * inf.size) := by rw [← hxs, List.take_append_drop]
    have ht : cur.toList.take (i * inf.size) = xs.take (i * inf.size) := by
     rw [hcur, List.take_append, show i * inf.size - xs.length = 0 by rw [s3]; omega]; simp
    have hdr : cur.toList.drop ((i + rows2.length) * inf.size) = xs.drop ((i + rows2.length) * inf.size) ++ cur.toList.drop (N * inf.size) := by
     conv => lhs; rw [hcur]
     rw [List.drop_append, show (i + rows2.length) * inf.size - xs.length = 0 by rw [s3]; omega, List.drop_zero]
    have harr2 : arr.toList = (xs.take (i * inf.size) ++ news ++ xs.drop ((i + rows2.length) * inf.size)) ++ cur.toList.drop (N * inf.size) := by
     rw [← harr, ht, hdr]; simp
    have hrows : ∀ r ∈ rows, r.length = inf.size := s1
    have hnl2 : (rows.take i ++ rows2 ++ rows.drop (i + rows2.length)).length = N := by simp; omega
    have hR := hr.upd (G := [g]) (r := .row inf.size (rows.take i ++ rows2 ++ rows.drop (i + rows2.length))) hs hch ⟨by simp, fun b hb => by
     obtain ⟨o1, o2⟩ := own.2 b hb
     refine ⟨o1, Nat.lt_of_lt_of_le (hr.lt id b (by rw [q2]; exact hb)).1 hch.size, ?_, .inl (by rw [q2]; exact hb)⟩
     rw [List.mem_singleton] at hb
     subst hb
     exact ⟨_, _, hgn⟩⟩ (by
     show C true _ _ _ _
     simp only [Ip.set, if_true]
     rw [h1]
     unfold C
     refine ⟨_, _, _, rfl, hnl2, e2, e3, .inr ⟨g, 0, [], rfl, rfl, (Array.getElem?_eq_some_iff.1 hgn).1, fun _ => ⟨rfl, arr, e', hgn, hsz⟩, Rws.of (xs := xs.take (i * inf.size) ++ news ++ xs.drop ((i + rows2.length) * inf.size)) (fun row hm => ?_) ?_ fun p u hp => ?_⟩⟩
     · rcases List.mem_append.1 hm with hm | hm
       · rcases List.mem_append.1 hm with hm | hm
         · exact s1 row (List.mem_of_mem_take hm)
         · exact r1 row hm
       · exact s1 row (List.mem_of_mem_drop hm)
     · rw [List.flatten_append, List.flatten_append, (flatten_take_k i hrows).1, (flatten_take_k (i + rows2.length) hrows).2]
       have c1 := (Cs_flat (o' := true) (w' := w.setRow g arr) hv1 s2).1
       have c2 := (Cs_flat (o' := true) (w' := w.setRow g arr) hv2 r2').1
       exact Cs.append (F := []) (Cs.append (F := []) (Cs_td _ c1).1 c2) (Cs_td _ c1).2
     · simp only [World.cell?, hgn, Nat.zero_add]
       have hlt := (List.getElem?_eq_some_iff.1 hp).1
       simp only [Option.isSome_none, Bool.false_eq_true, if_false]
       rw [← Array.getElem?_toList, harr2, List.getElem?_append_left hlt]; exact hp)
    have hhd : ∀ j, (I.set id [g] (I.hd id) (I.B id)).hd j = I.hd j := fun j => by simp only [Ip.set]; split; (rename_i e; rw [e]); rfl
    exact ⟨.slice (some ⟨g, 0, none⟩) (i + rows2.length) M, _, by simp [execOp, ho, resolve, invoke, builtin, hev, hrun], _, hR.put hd ⟨_, N, M, by rw [hhd, h1], rfl, hc⟩⟩
theorem Le.closePf {n : Nat} {sl : List (Nat × (Bool × S))} {rs : List (Nat × R)} {d id k m : Nat} {rows : List (List T)} (hd : look sl d = some (true, .a (.one (.pf id k m)))) (hs : look rs id = some (.row k rows)) : Le ⟨n, sl, rs⟩ ⟨n, (d, (true, .a (.one (.rf id)))) :: purS id sl, chgR id (.row k (rows.take m)) rs⟩ := fun w0 a w ⟨I, hr⟩ => by
 obtain ⟨a0, N, M, h1, h2, h3⟩ : VE I w (.pf id k m) (a.tmps.getD d undef) := hr.slots d _ hd
 have hC : C true w (.sl k rows) (I.hd id) (I.F id) := hr.res id _ hs
 have own := hr.own id _ hs
 rw [h1] at hC
 obtain ⟨e1, e2, e3⟩ := hC.hdr
 have fin : ∀ (I' : Ip), RelI I' w0 (St.chg ⟨n, sl, rs⟩ id (.row k (rows.take m))) a w → I'.hd id = .slice a0 m M → Rel w0 ⟨n, (d, (true, .a (.one (.rf id)))) :: purS id sl, chgR id (.row k (rows.take m)) rs⟩ a w := by
  intro I' hR hI'
  refine ⟨I', hR.ext, hR.defers, hR.size, fun j x hj => ?_, hR.res, hR.old, hR.lt, hR.own, hR.apart⟩
  rw [look_cons] at hj
  by_cases e : d = j
  · subst e
    rw [if_pos rfl] at hj
    cases hj
    exact ⟨by rw [h2, hI'], a0, m, M, h2⟩
  · rw [if_neg e] at hj
    exact hR.slots j x hj
 rcases hC.blk with ⟨g3, g4, g5⟩ | ⟨g, G, cur, e', rfl, g4, g5, g6, g7⟩
 · subst g5
   have hN0 : N = 0 := by simpa using e1.symm
   have hm0 : m = 0 := by omega
   subst hm0
   have hR := hr.chg hs (Chg.refl _ _) (G := []) (u := .slice a0 0 M) (r := .row k (([] : List (List T)).take 0)) ⟨List.nodup_nil, by simp⟩ (by
    show C true _ _ _ _
    simp only [Ip.set, if_true]
    unfold C
    exact ⟨_, _, _, rfl, by simp, by omega, e3, .inl ⟨rfl, rfl, fun _ => g3⟩⟩)
   exact fin _ hR (by simp [Ip.set])
 · rw [g4] at own
   have hnd := List.nodup_cons.1 own.1
   obtain ⟨G', k1, k2⟩ := g7.takeN hnd.2 m
   have hR := hr.chg hs (Chg.refl _ _) (G := g :: G') (u := .slice (some ⟨g, 0, none⟩) m M) (r := .row k (rows.take m)) ⟨List.nodup_cons.2 ⟨fun hm => hnd.1 (k2.subset hm), hnd.2.sublist k2⟩, fun b hb => by
    have hin : b ∈ g :: G := by
     rcases List.mem_cons.1 hb with rfl | hb
     · simp
     · simp [k2.subset hb]
    obtain ⟨o1, o2⟩ := own.2 b hin
    exact ⟨o1, (hr.lt id b (by rw [g4]; exact hin)).1, o2, .inl (by rw [g4]; exact hin)⟩⟩ (by
    show C true _ _ _ _
    simp only [Ip.set, if_true]
    unfold C
    exact ⟨_, _, _, rfl, by simp; omega, by omega, e3, .inr ⟨g, 0, G', rfl, rfl, (Array.getElem?_eq_some_iff.1 g5).1, fun _ => ⟨rfl, cur, e', g5, g6⟩, k1⟩⟩)
   exact fin _ hR (by simp [Ip.set])
end
end Go.Q
