/- Copying plain cells into a row of the call's own; numbers turned into other kinds. -/
import Derived.Test.YtbfejakbaijmhaaB20xg
import Derived.Laws.Cover3
set_option linter.unusedVariables false
set_option linter.unusedSimpArgs false
namespace Go.Q
open Go.RowKit
section
variable {P : Program} {ops : Array Oper} {o : Oper} {σ : St} {q : Bool}
theorem Cs_td {b : Bool} {w : World} : ∀ {ts : List T} {cs : List Value} (n : Nat), Cs b w ts cs [] → Cs b w (ts.take n) (cs.take n) [] ∧ Cs b w (ts.drop n) (cs.drop n) []
  | ts, cs, 0, h => by simpa [Cs] using h
  | [], cs, n + 1, h => by
    simp only [Cs] at h
    obtain ⟨rfl, _⟩ := h
    simp [Cs]
  | t :: ts, cs, n + 1, h => by
    simp only [Cs] at h
    obtain ⟨c, cr, G1, G2, rfl, h2, h3, h4⟩ := h
    obtain ⟨rfl, rfl⟩ := List.append_eq_nil_iff.1 h4.symm
    obtain ⟨g1, g2⟩ := Cs_td n h3
    rw [List.take_succ_cons, List.take_succ_cons, List.drop_succ_cons, List.drop_succ_cons]
    refine ⟨?_, g2⟩
    simp only [Cs]
    exact ⟨c, _, [], [], rfl, h2, g1, rfl⟩
theorem flatten_take_k {α : Type} {k : Nat} : ∀ {rows : List (List α)} (m : Nat), (∀ r ∈ rows, r.length = k) → (rows.take m).flatten = rows.flatten.take (m * k) ∧ (rows.drop m).flatten = rows.flatten.drop (m * k)
  | rows, 0, _ => by simp
  | [], m + 1, _ => by simp
  | r :: rows, m + 1, h => by
    have hr := h r (by simp)
    obtain ⟨g1, g2⟩ := flatten_take_k m fun r' hr' => h r' (List.mem_cons_of_mem r hr')
    rw [List.take_succ_cons, List.drop_succ_cons, List.flatten_cons, List.flatten_cons, g1, g2, Nat.succ_mul]
    constructor
    · rw [List.take_append, hr, List.take_of_length_le (l := r) (by omega)]; congr 2; omega
    · rw [List.drop_append, hr, @List.drop_eq_nil_of_le _ r _ (by omega), List.nil_append]; congr 1; omega
theorem isV_rep {r : List T} (n : Nat) (h : r.all T.isV = true) : (List.replicate n r).flatten.all T.isV = true := by
  rw [List.all_eq_true]
  intro x hx
  rw [List.mem_flatten] at hx
  obtain ⟨l, hl, hx⟩ := hx
  rw [(List.mem_replicate.1 hl).2] at hx
  exact List.all_eq_true.1 h x hx
/-- Copying to a row's cells from place j on. -/
theorem R_copy {id k j c : Nat} {t t' e : TypeId} {x y : Operand} {A2 : A} {ag : Bool} {rows rows2 : List (List T)} (ho : o.op = .call { callee := .builtin .copy, args := #[x, y], argTypes := #[t, t'] }) (hg : o.guard = none) (hd : o.dst.all (fun d => Nat.blt d σ.n) = true)
    (hx : Get σ true x (.one (.tl id k j))) (hs : look σ.res id = some (.row k rows)) (hy : Get σ true y A2) (hq : Sq σ A2 k rows2) (hv1 : rows.flatten.all T.isV = true) (hv2 : rows2.flatten.all T.isV = true) (hu : P.underlying t = some (.slice e)) (hk : tyB P e ag k = true) (hc : c = min rows2.length (rows.length - j)) :
    Op1 P ops o σ ((σ.upd id (.row k (rows.take j ++ rows2.take c ++ rows.drop (j + c)))).put o.dst (true, .a (.one (.t (.v (.int .i64 c)))))) :=
  .eff hg fun w0 a w ⟨I, hr⟩ => by
    obtain ⟨a0, a', N, M, h1, h2, h3, h4, h5⟩ : VE I w (.tl id k j) (a.eval x) := hx.va hr rfl
    have hC : C true w (.sl k rows) (I.hd id) (I.F id) := hr.res id _ hs
    have hC0 := hC
    have own := hr.own id _ hs
    rw [h1] at hC
    obtain ⟨e1, e2, e3⟩ := hC.hdr
    obtain ⟨F2, hC2⟩ := hq.val hr (hy.va hr rfl)
    generalize hev : a.eval y = yv at hC2
    have hC2' := hC2
    simp only [C] at hC2'
    obtain ⟨a2, m, cc, rfl, g2, g3, g4, g5⟩ := hC2'
    rw [g2, e1] at hc
    by_cases hc0 : c = 0
    · have hrun : (Builtin.copy_ #[t, t'] o.type #[a.eval x, .slice a2 m cc]).run P w = .ok (.int .i64 (0 : Nat)) w := by
        have hmin : Nat.min m (N - j) = 0 := by rw [← hc0, hc]
        have hf : ∀ w : World, (Builtin.firstCells k 0 (.slice a2 m cc)).run P w = .ok #[] w := by
          intro w; cases a2 <;> simp [Builtin.firstCells, loadCells, loadCellsFrom]
        rw [h2]
        cases a' <;> simp [Builtin.copy_, run_underlying hu, tyB_size hk, Builtin.lenOf, hmin, hf, storeCells, goInt]
      have er : rows.take j ++ rows2.take c ++ rows.drop (j + c) = rows := by rw [hc0]; simp
      rw [er, hc0]
      have hR := hr.upd (G := I.F id) (r := .row k rows) hs (Chg.refl _ _) ⟨own.1, fun b hb => ⟨(own.2 b hb).1, (hr.lt id b hb).1, (own.2 b hb).2, .inl hb⟩⟩ (by show C true _ _ _ _; simpa [Ip.set] using hC0)
      exact ⟨.int .i64 (0 : Nat), w, by simp [execOp, ho, resolve, invoke, builtin, hev, hrun], _, hR.put hd (VS_v _)⟩
    · have hjN : j < N := by omega
      obtain ⟨g', rfl, rfl⟩ := h5 (by omega)
      rcases hC.blk with ⟨q1, _⟩ | ⟨g, G, cur, e', q1, q2, q3, q4, q5⟩
      · omega
      cases q1
      rcases g5 with ⟨g5, _⟩ | ⟨b2, off2, G2, rfl, rfl, g6, _, g8⟩
      · omega
      obtain ⟨r1, news, r2, r3, r4⟩ := g8.flat
      obtain ⟨r2', _⟩ := Cs_flat (o' := true) (w' := w) hv2 r2
      rw [g2] at r3
      obtain ⟨s1, xs, s2, s3, s4⟩ := q5.flat
      simp only [Nat.zero_add] at s4
      have hG : G = [] := (Cs_flat (o' := true) (w' := w) hv1 s2).2
      subst hG
      rw [e1] at s3
      have hcm : c ≤ m := by omega
      have hcN : j + c ≤ N := by omega
      have hjk : j * k + c * k = (j + c) * k := by rw [← Nat.add_mul]
      have hle1 : c * k ≤ m * k := Nat.mul_le_mul_right _ hcm
      have hle2 : (j + c) * k ≤ N * k := Nat.mul_le_mul_right _ hcN
      have hNM : N * k ≤ M * k := Nat.mul_le_mul_right _ e2
      have hnl : (news.take (c * k)).length = c * k := by rw [List.length_take, r3]; omega
      have hnews : ∀ p u, (news.take (c * k))[p]? = some u → w.cell? ((⟨b2, off2, none⟩ : Addr).add p) = some u := fun p u hp => by
        rw [List.getElem?_take] at hp
        split at hp
        · rw [Addr.add_lit]; exact r4 p u hp
        · cases hp
      have hone : ∀ u ∈ news.take (c * k), u.oneCell' = true := fun u hu => r2.cell1' u (List.mem_of_mem_take hu)
      have hf := run_firstCells_some (P := P) w k c ⟨b2, off2, none⟩ m cc (news.take (c * k)) hnl hnews
      have hst := run_storeCells_at P g' (j * k) e' (news.take (c * k)) 0 cur w q3 (by rw [hnl, q4]; omega) hone
      simp only [Nat.add_zero] at hst
      have hrun : (Builtin.copy_ #[t, t'] o.type #[a.eval x, .slice (some ⟨b2, off2, none⟩) m cc]).run P w = .ok (.int .i64 c) (w.setRow g' (cur.toList.take (j * k) ++ news.take (c * k) ++ cur.toList.drop (j * k + (news.take (c * k)).length)).toArray) := by
        have hmin : Nat.min m (N - j) = c := by rw [hc]
        rw [h2]
        simp [Builtin.copy_, run_underlying hu, tyB_size hk, Builtin.lenOf, hmin, hf, hst, goInt]
      rw [hnl, hjk] at hrun
      generalize harr : (cur.toList.take (j * k) ++ news.take (c * k) ++ cur.toList.drop ((j + c) * k)).toArray = arr at hrun
      have hgn : (w.setRow g' arr).heap[g']? = some (.cells arr e' (0, 0)) := setRow_heap w g' cur _ e' _ q3
      have hcl : cur.toList.length = M * k := by rw [← q4]; rfl
      have hsz : arr.size = M * k := by
        rw [← harr]
        simp only [List.size_toArray, List.length_append, hnl, List.length_take, List.length_drop, hcl] at *
        omega
      have hch : Chg w (w.setRow g' arr) (I.F id) := ⟨rfl, rfl, rfl, by simp [World.setRow], fun b _ hb => setRow_other w g' b _ (fun e => hb (by rw [q2, e]; simp))⟩
      rw [q2] at own
      have hxs : cur.toList.take (N * k) = xs := by
        apply List.ext_getElem?
        intro p
        by_cases hp : p < xs.length
        · have := s4 p _ (List.getElem?_eq_getElem hp)
          simp only [World.cell?, q3] at this
          rw [List.getElem?_take, if_pos (by omega), List.getElem?_eq_getElem hp]
          simpa using this
        · rw [List.getElem?_eq_none (by simp; omega), List.getElem?_eq_none (by omega)]
      have hcur : cur.toList = xs ++ cur.toList.drop (N * k) := by rw [← hxs, List.take_append_drop]
      have ht : cur.toList.take (j * k) = xs.take (j * k) := by
        rw [hcur, List.take_append, show j * k - xs.length = 0 by rw [s3]; omega]; simp
      have hdr : cur.toList.drop ((j + c) * k) = xs.drop ((j + c) * k) ++ cur.toList.drop (N * k) := by
        conv => lhs; rw [hcur]
        rw [List.drop_append, show (j + c) * k - xs.length = 0 by rw [s3]; omega, List.drop_zero]
      have harr2 : arr.toList = (xs.take (j * k) ++ news.take (c * k) ++ xs.drop ((j + c) * k)) ++ cur.toList.drop (N * k) := by
        rw [← harr, ht, hdr]; simp
      have hrows : ∀ r ∈ rows, r.length = k := s1
      have hnl2 : (rows.take j ++ rows2.take c ++ rows.drop (j + c)).length = N := by simp; omega
      have hR := hr.upd (G := [g']) (r := .row k (rows.take j ++ rows2.take c ++ rows.drop (j + c))) hs hch ⟨by simp, fun b hb => by
          obtain ⟨o1, o2⟩ := own.2 b hb
          refine ⟨o1, Nat.lt_of_lt_of_le (hr.lt id b (by rw [q2]; exact hb)).1 hch.size, ?_, .inl (by rw [q2]; exact hb)⟩
          rw [List.mem_singleton] at hb
          subst hb
          exact ⟨_, _, hgn⟩⟩ (by
        show C true _ _ _ _
        simp only [Ip.set, if_true]
        rw [h1]
        unfold C
        refine ⟨_, _, _, rfl, hnl2, e2, e3, .inr ⟨g', 0, [], rfl, rfl, (Array.getElem?_eq_some_iff.1 hgn).1, fun _ => ⟨rfl, arr, e', hgn, hsz⟩, Rws.of (xs := xs.take (j * k) ++ news.take (c * k) ++ xs.drop ((j + c) * k)) (fun row hm => ?_) ?_ fun p u hp => ?_⟩⟩
        · rcases List.mem_append.1 hm with hm | hm
          · rcases List.mem_append.1 hm with hm | hm
            · exact s1 row (List.mem_of_mem_take hm)
            · exact r1 row (List.mem_of_mem_take hm)
          · exact s1 row (List.mem_of_mem_drop hm)
        · rw [List.flatten_append, List.flatten_append, (flatten_take_k j hrows).1, (flatten_take_k (j + c) hrows).2, (flatten_take_k c r1).1]
          have c1 := (Cs_flat (o' := true) (w' := w.setRow g' arr) hv1 s2).1
          have c2 := (Cs_flat (o' := true) (w' := w.setRow g' arr) hv2 r2').1
          exact Cs.append (F := []) (Cs.append (F := []) (Cs_td _ c1).1 (Cs_td _ c2).1) (Cs_td _ c1).2
        · simp only [World.cell?, hgn, Nat.zero_add]
          have hlt := (List.getElem?_eq_some_iff.1 hp).1
          simp only [Option.isSome_none, Bool.false_eq_true, if_false]
          rw [← Array.getElem?_toList, harr2, List.getElem?_append_left hlt]; exact hp)
      exact ⟨.int .i64 c, _, by simp [execOp, ho, resolve, invoke, builtin, hev, hrun], _, hR.put hd (VS_v _)⟩
/-- A number turned into another kind. -/
theorem R_conv {t t' : TypeId} {x : Operand} {k0 k : IntKind} {n m : Int} (ho : o.op = .convert t t' x) (hg : Grd ops o σ q) (hd : o.dst.all (fun d => Nat.blt d σ.n) = true) (hx : Get σ q x (.one (.t (.v (.int k0 n))))) (hu0 : (P.underlying t).isSome = true) (hu : P.underlying t' = some (.int k)) (hm : q = true → k.wrap n = m) :
    Op1 P ops o σ (σ.put o.dst (q, .a (.one (.t (.v (.int k m)))))) :=
  .val hg hd fun I w0 a w hr hq => by
    have hv := hx.int hr hq
    obtain ⟨u0, hu0⟩ := Option.isSome_iff_exists.1 hu0
    exact ⟨_, by simp [execOp, ho, hv, Go.convert, run_underlying hu0, run_underlying hu, Conv.intToInt, hm hq], VS_v _⟩
end
end Go.Q
