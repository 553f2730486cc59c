import Derived.Test.YtbkhopfpejhnlaaGreatDoorAbsGda
set_option linter.unusedVariables false
set_option linter.unusedSimpArgs false
namespace Go.Q
open Go.RowKit
section
variable {P : Program} {ops : Array Oper} {o : Oper} {σ : St} {q : Bool}
theorem C.hdr {o : Bool} {w : World} {k : Nat} {rows : List (List T)} {a : Option Addr} {n m : Nat} {F : List Nat} (h : C o w (.sl k rows) (.slice a n m) F) : rows.length = n ∧ n ≤ m ∧ m ≤ maxLen := by
 simp only [C] at h
 obtain ⟨a', n', m', e, h1, h2, h3, _⟩ := h
 cases e
 exact ⟨h1, h2, h3⟩
theorem C.blk {w : World} {k : Nat} {rows : List (List T)} {a : Option Addr} {n m : Nat} {F : List Nat} (h : C true w (.sl k rows) (.slice a n m) F) : (m = 0 ∧ F = [] ∧ rows = []) ∨ ∃ g G cur e, a = some ⟨g, 0, none⟩ ∧ F = g :: G ∧ w.heap[g]? = some (.cells cur e (0, 0)) ∧ cur.size = m * k ∧ Rws true w g k 0 rows G := by
 simp only [C] at h
 obtain ⟨a', n', m', e, h1, h2, h3, h4⟩ := h
 cases e
 rcases h4 with ⟨h4, rfl, h5⟩ | ⟨b, off, G, rfl, rfl, h6, h7, h8⟩
 · exact .inl ⟨h5 trivial, rfl, List.eq_nil_of_length_eq_zero (by omega)⟩
 · obtain ⟨rfl, cur, e, h9, h10⟩ := h7 trivial
   exact .inr ⟨b, G, cur, e, rfl, rfl, h9, h10, h8⟩
theorem R_len_tl {id k j : Nat} {rows : List (List T)} {x : Operand} {t e : TypeId} (ho : o.op = .call { callee := .builtin .len, args := #[x], argTypes := #[t] }) (hg : Grd ops o σ q) (hd : o.dst.all (fun d => Nat.blt d σ.n) = true)
 (hx : Get σ q x (.one (.tl id k j))) (hs : look σ.res id = some (.row k rows)) (hu : P.underlying t = some (.slice e)) : Op1 P ops o σ (σ.put o.dst (q, .a (.one (.t (.v (.int .i64 ((rows.length - j : Nat) : Int))))))) :=
 .val hg hd fun I w0 a w hr hq => by
  obtain ⟨a0, a', n, m, h1, h2, h3, h4, h5⟩ : VE I w (.tl id k j) (a.eval x) := hx.va hr hq
  have hC : C true w (.sl k rows) (I.hd id) (I.F id) := hr.res id _ hs
  rw [h1] at hC
  obtain ⟨e1, e2, e3⟩ := hC.hdr
  refine ⟨.int .i64 ((rows.length - j : Nat) : Int), ?_, [], by unfold C; exact ⟨rfl, rfl, rfl⟩, by simp⟩
  simp [execOp, ho, resolve, invoke, builtin, Builtin.len_, h2, run_underlying hu, Builtin.lenOf, e1]
  rfl
theorem R_indexAddr_tl {id k j : Nat} {t e : TypeId} {x y : Operand} {n : Int} {ag : Bool} {rows : List (List T)} {row : List T} (ho : o.op = .indexAddr t x y) (hg : Grd ops o σ q) (hd : o.dst.all (fun d => Nat.blt d σ.n) = true) (hx : Get σ q x (.one (.tl id k j)))
 (hs : look σ.res id = some (.row k rows)) (hy : Get σ q y (.one (.t (.v (.int .i64 n))))) (hu : P.underlying t = some (.slice e)) (hk : tyB P e ag k = true) (hi : q = true → 0 ≤ n ∧ rows[j + n.toNat]? = some row) : Op1 P ops o σ (σ.put o.dst (q, .a (.one (.pr id k (j + n.toNat) 0)))) :=
 .val hg hd fun I w0 a w hr hq => by
  obtain ⟨a0, a', N, M, h1, h2, h3, h4, h5⟩ : VE I w (.tl id k j) (a.eval x) := hx.va hr hq
  have hC : C true w (.sl k rows) (I.hd id) (I.F id) := hr.res id _ hs
  rw [h1] at hC
  obtain ⟨e1, e2, e3⟩ := hC.hdr
  obtain ⟨h0, hi⟩ := hi hq
  have hlt : j + n.toNat < rows.length := (List.getElem?_eq_some_iff.1 hi).1
  obtain ⟨g, rfl, rfl⟩ := h5 (by omega)
  have hn : n < ((N - j : Nat) : Int) := by omega
  refine ⟨.pointer (some ⟨g, j * k + n.toNat * k, none⟩), ?_, g, N, M, h1, by rw [Nat.add_mul]; simp⟩
  simp [execOp, ho, hy.int hr hq, h2, Instr.indexAt, asIntOf, run_underlying hu, h0, hn, tyB_size hk, Addr.add_lit]
theorem R_slice_tl {id k j m : Nat} {t e : TypeId} {x : Operand} {lo : Option Operand} {ag : Bool} {rows : List (List T)} (ho : o.op = .slice t x lo none none) (hg : Grd ops o σ q) (hd : o.dst.all (fun d => Nat.blt d σ.n) = true) (hx : Get σ q x (.one (.tl id k j)))
 (hs : look σ.res id = some (.row k rows)) (hl : Bnd σ q lo 0 m) (hu : P.underlying t = some (.slice e)) (hk : tyB P e ag k = true) (hb : q = true → j + m ≤ rows.length) : Op1 P ops o σ (σ.put o.dst (q, .a (.one (.tl id k (j + m))))) :=
 .val hg hd fun I w0 a w hr hq => by
  obtain ⟨a0, a', N, M, h1, h2, h3, h4, h5⟩ : VE I w (.tl id k j) (a.eval x) := hx.va hr hq
  have hC : C true w (.sl k rows) (I.hd id) (I.F id) := hr.res id _ hs
  rw [h1] at hC
  obtain ⟨e1, e2, e3⟩ := hC.hdr
  have hb := hb hq
  have hrun : (Instr.sliceAt t (.slice a' (N - j) (M - j)) (lo.map a.eval) none none).run P w = .ok (.slice (if M - j = m then a' else a'.map (·.add (m * k))) (N - j - m) (M - j - m)) w := by
   have b1 : m ≤ M - j := by omega
   have b2 : m ≤ N - j := by omega
   have b3 : N - j ≤ M - j := by omega
   rcases hl.val hr hq with ⟨h6, rfl⟩ | h6 <;> rw [h6] <;> simp [Instr.sliceAt, Instr.slice, run_underlying hu, Instr.sliceBounds, Instr.sliceBound, asIntOf, tyB_size hk, b1, b2, b3]
  rw [Nat.sub_sub, Nat.sub_sub] at hrun
  refine ⟨.slice (if M - j = m then a' else a'.map (·.add (m * k))) (N - (j + m)) (M - (j + m)), by simp [execOp, ho, h2, hrun], a0, (if M - j = m then a' else a'.map (·.add (m * k))), N, M, h1, rfl, by omega, h4, fun hm => ?_⟩
  obtain ⟨g, rfl, rfl⟩ := h5 (by omega)
  refine ⟨g, rfl, ?_⟩
  rw [if_neg (by omega)]
  simp [Addr.add_lit, Nat.add_mul]
theorem R_slice_rf {id k m : Nat} {t e : TypeId} {x : Operand} {lo : Option Operand} {ag : Bool} {rows : List (List T)} (ho : o.op = .slice t x lo none none) (hg : Grd ops o σ q) (hd : o.dst.all (fun d => Nat.blt d σ.n) = true) (hx : Get σ q x (.one (.rf id)))
 (hs : look σ.res id = some (.row k rows)) (hl : Bnd σ q lo 0 m) (hu : P.underlying t = some (.slice e)) (hk : tyB P e ag k = true) (hb : q = true → m ≤ rows.length) : Op1 P ops o σ (σ.put o.dst (q, .a (.one (.tl id k m)))) :=
 .val hg hd fun I w0 a w hr hq => by
  obtain ⟨h1, a0, N, M, h2⟩ : VE I w (.rf id) (a.eval x) := hx.va hr hq
  have hC : C true w (.sl k rows) (I.hd id) (I.F id) := hr.res id _ hs
  rw [← h1, h2] at hC
  obtain ⟨e1, e2, e3⟩ := hC.hdr
  have hb := hb hq
  have hrun : (Instr.sliceAt t (.slice a0 N M) (lo.map a.eval) none none).run P w = .ok (.slice (if M = m then a0 else a0.map (·.add (m * k))) (N - m) (M - m)) w := by
   have b1 : m ≤ M := by omega
   have b2 : m ≤ N := by omega
   rcases hl.val hr hq with ⟨h6, rfl⟩ | h6 <;> rw [h6] <;> simp [Instr.sliceAt, Instr.slice, run_underlying hu, Instr.sliceBounds, Instr.sliceBound, asIntOf, tyB_size hk, b1, b2, e2]
  refine ⟨.slice (if M = m then a0 else a0.map (·.add (m * k))) (N - m) (M - m), by simp [execOp, ho, h2, hrun], a0, (if M = m then a0 else a0.map (·.add (m * k))), N, M, by rw [← h1, h2], rfl, by omega, e2, fun hm => ?_⟩
  rcases hC.blk with ⟨h3, _⟩ | ⟨g, G, cur, e, rfl, _⟩
  · omega
  · refine ⟨g, rfl, ?_⟩
    rw [if_neg (by omega)]
    simp [Addr.add_lit]
def OpE (P : Program) (ops : Array Oper) (o : Oper) (σ : St) (Φ : St → Prop) : Prop := ∀ w0 a w, Rel w0 σ a w → ∀ (K : Act → World → Prop) (Q : Exit → Act → World → Prop), (∀ σ' a' w', Φ σ' → Rel w0 σ' a' w' → K a' w') →
 if Region.wanted o (yielded ops a.tmps) then o.wp P a w K Q else K (a.put o.dst undef) w
theorem OpE.eff {Φ : St → Prop} (hg : o.guard = none) (h : ∀ w0 a w, Rel w0 σ a w → ∃ v w' σ', (execOp a.eval o).run P w = .ok (.value v) w' ∧ Φ σ' ∧ Rel w0 σ' (a.put o.dst v) w') : OpE P ops o σ Φ := by
 intro w0 a w hr K Q hK
 simp only [Region.wanted, hg, if_true]
 obtain ⟨v, w', σ', h1, h2, h3⟩ := h w0 a w hr
 unfold Oper.wp
 rw [h1]
 exact hK _ _ _ h2 h3
theorem AWl.opE {w0 : Base} {Q : Exit → St → Prop} {l : List Oper} {Φ : St → Prop} (ho : OpE P ops o σ Φ) (h : ∀ σ', Φ σ' → AWl P w0 ops Q l σ') : AWl P w0 ops Q (o :: l) σ := fun a w hr =>
 wpList_step fun K hK => ho w0 a w hr K _ fun σ' a' w' hφ hr' => hK a' w' (h σ' hφ a' w' hr')
variable {w0 : Base} {Q : Exit → St → Prop} {n : Nat} {sl : List (Nat × (Bool × S))} {rs : List (Nat × R)} {l : List Oper}
end
end Go.Q
