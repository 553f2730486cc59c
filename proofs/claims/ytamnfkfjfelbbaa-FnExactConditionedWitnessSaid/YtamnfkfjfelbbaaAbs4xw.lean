import Derived.Test.YtamnfkfjfelbbaaAbs3xw
import Derived.WalkKit
set_option linter.unusedVariables false
set_option linter.unusedSimpArgs false
namespace Go.Q
open Go.RowKit
theorem map_get {α β : Type} {f : α → β} {l : List α} {i : Nat} {x : α} (h : l[i]? = some x) : (l.map f)[i]? = some (f x) := by simp [h]
def tyB (P : Program) (t : TypeId) (ag : Bool) (n : Nat) : Bool := match P.info? t, P.underlying t with
 | some i, some d => Nat.beq i.size n && (match d with | .struct _ => ag | .array _ _ => ag | _ => !ag)
 | _, _ => false
section
variable {P : Program} {ops : Array Oper} {o : Oper} {σ : St} {q : Bool}
theorem tyB_info {t : TypeId} {ag : Bool} {n : Nat} (h : tyB P t ag n = true) : ∃ i d, P.info? t = some i ∧ P.underlying t = some d ∧ i.size = n ∧ (match d with | .struct _ => ag | .array _ _ => ag | _ => !ag) = true := by
 unfold tyB at h
 cases h1 : P.info? t with
 | none => rw [h1] at h; cases h
 | some i =>
  cases h2 : P.underlying t with
  | none => rw [h1, h2] at h; cases h
  | some d =>
   rw [h1, h2] at h
   simp only [Bool.and_eq_true] at h
   exact ⟨i, d, rfl, rfl, Nat.eq_of_beq_eq_true h.1, h.2⟩
theorem tyB_agg {t : TypeId} {ag : Bool} {n : Nat} (h : tyB P t ag n = true) (w : World) : (isAgg t).run P w = .ok ag w := by
 obtain ⟨i, d, _, h2, _, h4⟩ := tyB_info h
 unfold isAgg
 simp only [Sem.run_bind, run_underlying h2, Result.andThen_ok]
 cases d <;> simp_all
theorem tyB_size {t : TypeId} {ag : Bool} {n : Nat} (h : tyB P t ag n = true) (w : World) : (sizeOf t).run P w = .ok n w := by
 obtain ⟨i, d, h1, _, h3, _⟩ := tyB_info h
 simp [sizeOf, typeInfo, h1, h3]
theorem R_move {x : Operand} {A0 : A} (ho : o.op = .move x) (hg : Grd ops o σ q) (hd : o.dst.all (fun d => Nat.blt d σ.n) = true) (hx : Get σ q x A0) : Op1 P ops o σ (σ.put o.dst (q, .a A0)) :=
 .val hg hd fun I w0 a w hr hq => ⟨a.eval x, by simp [execOp, ho], hx.va hr hq⟩
theorem R_assign {x : Operand} {A0 : A} (ho : o.op = .assign x) (hg : Grd ops o σ q) (hd : o.dst.all (fun d => Nat.blt d σ.n) = true) (hx : Get σ q x A0) : Op1 P ops o σ (σ.put o.dst (q, .a A0)) :=
 .val hg hd fun I w0 a w hr hq => ⟨a.eval x, by simp [execOp, ho], hx.va hr hq⟩
theorem VS_v {I : Ip} {w : World} (x : Value) (h : x.oneCell' = true := by rfl) : VS I w (true, .a (.one (.t (.v x)))) x := ⟨[], by simp [C, h], by simp⟩
theorem R_bin {op : BinOp} {t t' : TypeId} {x y : Operand} {u v r : Value} (ho : o.op = .binOp op t x y t') (hg : Grd ops o σ q) (hd : o.dst.all (fun d => Nat.blt d σ.n) = true) (hx : Get σ q x (.one (.t (.v u)))) (hy : Get σ q y (.one (.t (.v v))))
 (h1 : ∀ w, (eqGuard op t x y u v).run P w = .ok () w) (hr1 : r.oneCell' = true := by rfl) (h : q = true → ∀ w, (binOp op t u v).run P w = .ok r w) : Op1 P ops o σ (σ.put o.dst (q, .a (.one (.t (.v r))))) :=
 .val hg hd fun I w0 a w hr hq => ⟨r, by simp [execOp, ho, hx.int hr hq, hy.int hr hq, h1, h hq], VS_v r hr1⟩
theorem guard_int {op : BinOp} {t : TypeId} {x y : Operand} {k k' : IntKind} {n m : Int} (w : World) : (eqGuard op t x y (.int k n) (.int k' m)).run P w = .ok () w := by
 unfold eqGuard; split <;> rfl
theorem R_lt {t t' : TypeId} {x y : Operand} {k : IntKind} {n m : Int} (ho : o.op = .binOp .lss t x y t') (hg : Grd ops o σ q) (hd : o.dst.all (fun d => Nat.blt d σ.n) = true) (hx : Get σ q x (.one (.t (.v (.int k n))))) (hy : Get σ q y (.one (.t (.v (.int k m))))) :
 Op1 P ops o σ (σ.put o.dst (q, .a (.one (.t (.v (.bool (decide (n < m)))))))) := R_bin ho hg hd hx hy guard_int (h := fun _ w => by simp [binOp, Op.intCmp])
theorem R_le {t t' : TypeId} {x y : Operand} {k : IntKind} {n m : Int} (ho : o.op = .binOp .leq t x y t') (hg : Grd ops o σ q) (hd : o.dst.all (fun d => Nat.blt d σ.n) = true) (hx : Get σ q x (.one (.t (.v (.int k n))))) (hy : Get σ q y (.one (.t (.v (.int k m))))) :
 Op1 P ops o σ (σ.put o.dst (q, .a (.one (.t (.v (.bool (decide (n ≤ m)))))))) := R_bin ho hg hd hx hy guard_int (h := fun _ w => by simp [binOp, Op.intCmp])
theorem R_gt {t t' : TypeId} {x y : Operand} {k : IntKind} {n m : Int} (ho : o.op = .binOp .gtr t x y t') (hg : Grd ops o σ q) (hd : o.dst.all (fun d => Nat.blt d σ.n) = true) (hx : Get σ q x (.one (.t (.v (.int k n))))) (hy : Get σ q y (.one (.t (.v (.int k m))))) :
 Op1 P ops o σ (σ.put o.dst (q, .a (.one (.t (.v (.bool (decide (m < n)))))))) := R_bin ho hg hd hx hy guard_int (h := fun _ w => by simp [binOp, Op.intCmp])
theorem R_ge {t t' : TypeId} {x y : Operand} {k : IntKind} {n m : Int} (ho : o.op = .binOp .geq t x y t') (hg : Grd ops o σ q) (hd : o.dst.all (fun d => Nat.blt d σ.n) = true) (hx : Get σ q x (.one (.t (.v (.int k n))))) (hy : Get σ q y (.one (.t (.v (.int k m))))) :
 Op1 P ops o σ (σ.put o.dst (q, .a (.one (.t (.v (.bool (decide (m ≤ n)))))))) := R_bin ho hg hd hx hy guard_int (h := fun _ w => by simp [binOp, Op.intCmp])
theorem R_eq {t t' : TypeId} {x y : Operand} {k : IntKind} {n m : Int} (ho : o.op = .binOp .eql t x y t') (hg : Grd ops o σ q) (hd : o.dst.all (fun d => Nat.blt d σ.n) = true) (hx : Get σ q x (.one (.t (.v (.int k n))))) (hy : Get σ q y (.one (.t (.v (.int k m))))) :
 Op1 P ops o σ (σ.put o.dst (q, .a (.one (.t (.v (.bool (decide (n = m)))))))) := R_bin ho hg hd hx hy guard_int (h := fun _ w => by simp [binOp, Op.intCmp]; rfl)
theorem R_ne {t t' : TypeId} {x y : Operand} {k : IntKind} {n m : Int} (ho : o.op = .binOp .neq t x y t') (hg : Grd ops o σ q) (hd : o.dst.all (fun d => Nat.blt d σ.n) = true) (hx : Get σ q x (.one (.t (.v (.int k n))))) (hy : Get σ q y (.one (.t (.v (.int k m))))) :
 Op1 P ops o σ (σ.put o.dst (q, .a (.one (.t (.v (.bool (!decide (n = m)))))))) := R_bin ho hg hd hx hy guard_int (h := fun _ w => by simp [binOp, Op.intCmp]; rfl)
theorem wrap_in {e : Int} (h : -9223372036854775808 ≤ e ∧ e ≤ 9223372036854775807) : IntKind.i64.wrap e = e := IntWalk.i64_in e h
theorem R_add {t t' : TypeId} {x y : Operand} {n m : Int} (ho : o.op = .binOp .add t x y t') (hg : Grd ops o σ q) (hd : o.dst.all (fun d => Nat.blt d σ.n) = true) (hx : Get σ q x (.one (.t (.v (.int .i64 n))))) (hy : Get σ q y (.one (.t (.v (.int .i64 m)))))
 (hb : q = true → -9223372036854775808 ≤ n + m ∧ n + m ≤ 9223372036854775807) :
 Op1 P ops o σ (σ.put o.dst (q, .a (.one (.t (.v (.int .i64 (n + m))))))) := R_bin ho hg hd hx hy guard_int (h := fun hq w => by simp [binOp, Op.intArith, wrap_in (hb hq)])
theorem R_sub {t t' : TypeId} {x y : Operand} {n m : Int} (ho : o.op = .binOp .sub t x y t') (hg : Grd ops o σ q) (hd : o.dst.all (fun d => Nat.blt d σ.n) = true) (hx : Get σ q x (.one (.t (.v (.int .i64 n))))) (hy : Get σ q y (.one (.t (.v (.int .i64 m)))))
 (hb : q = true → -9223372036854775808 ≤ n - m ∧ n - m ≤ 9223372036854775807) :
 Op1 P ops o σ (σ.put o.dst (q, .a (.one (.t (.v (.int .i64 (n - m))))))) := R_bin ho hg hd hx hy guard_int (h := fun hq w => by simp [binOp, Op.intArith, wrap_in (hb hq)])
theorem R_mul {t t' : TypeId} {x y : Operand} {n m : Int} (ho : o.op = .binOp .mul t x y t') (hg : Grd ops o σ q) (hd : o.dst.all (fun d => Nat.blt d σ.n) = true) (hx : Get σ q x (.one (.t (.v (.int .i64 n))))) (hy : Get σ q y (.one (.t (.v (.int .i64 m)))))
 (hb : q = true → -9223372036854775808 ≤ n * m ∧ n * m ≤ 9223372036854775807) :
 Op1 P ops o σ (σ.put o.dst (q, .a (.one (.t (.v (.int .i64 (n * m))))))) := R_bin ho hg hd hx hy guard_int (h := fun hq w => by simp [binOp, Op.intArith, wrap_in (hb hq)])
theorem R_rem {t t' : TypeId} {x y : Operand} {n m : Int} (ho : o.op = .binOp .rem t x y t') (hg : Grd ops o σ q) (hd : o.dst.all (fun d => Nat.blt d σ.n) = true) (hx : Get σ q x (.one (.t (.v (.int .i64 n))))) (hy : Get σ q y (.one (.t (.v (.int .i64 m)))))
 (hb : q = true → 0 ≤ n ∧ 0 < m) :
 Op1 P ops o σ (σ.put o.dst (q, .a (.one (.t (.v (.int .i64 (n % m))))))) := R_bin ho hg hd hx hy guard_int (h := fun hq w => by
  obtain ⟨h1, h3⟩ := hb hq
  have h4 : ¬ m = 0 := by omega
  simp [binOp, Op.intDiv, h4, Int.tmod_eq_emod_of_nonneg h1])
theorem R_not {t : TypeId} {x : Operand} {b : Bool} (ho : o.op = .unOp .not t x) (hg : Grd ops o σ q) (hd : o.dst.all (fun d => Nat.blt d σ.n) = true) (hx : Get σ q x (.one (.t (.v (.bool b))))) : Op1 P ops o σ (σ.put o.dst (q, .a (.one (.t (.v (.bool !b)))))) :=
 .val hg hd fun I w0 a w hr hq => ⟨.bool !b, by simp [execOp, ho, hx.int hr hq, Op.unary], VS_v _⟩
theorem R_or {c y : Operand} {b b' : Bool} (ho : o.op = .pick c (.const (.bool true)) y) (hg : Grd ops o σ q) (hd : o.dst.all (fun d => Nat.blt d σ.n) = true) (hx : Get σ q c (.one (.t (.v (.bool b))))) (hy : Get σ (q && !b) y (.one (.t (.v (.bool b'))))) :
 Op1 P ops o σ (σ.put o.dst (q, .a (.one (.t (.v (.bool (b || b'))))))) :=
 .val hg hd fun I w0 a w hr hq => ⟨.bool (b || b'), by
  cases b with
  | true => have hc : a.eval (.const (.bool true)) = .bool true := rfl; simp [execOp, ho, hx.int hr hq, asBool, hc]
  | false => simp [execOp, ho, hx.int hr hq, asBool, hy.int hr (by simp [hq])], VS_v _⟩
theorem R_and {c x : Operand} {b b' : Bool} (ho : o.op = .pick c x (.const (.bool false))) (hg : Grd ops o σ q) (hd : o.dst.all (fun d => Nat.blt d σ.n) = true) (hx : Get σ q c (.one (.t (.v (.bool b))))) (hy : Get σ (q && b) x (.one (.t (.v (.bool b'))))) :
 Op1 P ops o σ (σ.put o.dst (q, .a (.one (.t (.v (.bool (b && b'))))))) :=
 .val hg hd fun I w0 a w hr hq => ⟨.bool (b && b'), by
  cases b with
  | false => have hc : a.eval (.const (.bool false)) = .bool false := rfl; simp [execOp, ho, hx.int hr hq, asBool, hc]
  | true => simp [execOp, ho, hx.int hr hq, asBool, hy.int hr (by simp [hq])], VS_v _⟩

inductive Sq (σ : St) : A → Nat → List (List T) → Prop where
 | t {k : Nat} {rows : List (List T)} : Sq σ (.one (.t (.sl k rows))) k rows
 | rf {id k : Nat} {rows : List (List T)} (h : look σ.res id = some (.row k rows)) : Sq σ (.one (.rf id)) k rows
 | vw {id k : Nat} {rows : List (List T)} : Sq σ (.one (.vw id (.sl k rows))) k rows
 | nil {k : Nat} : Sq σ (.one (.t (.v (.slice none 0 0)))) k []
theorem Sq.val {A0 : A} {k : Nat} {rows : List (List T)} (h : Sq σ A0 k rows) {I : Ip} {w0 : Base} {w : World} {a : Act} (hr : RelI I w0 σ a w) {v : Value} (hv : VA I w A0 v) : ∃ F, C false w (.sl k rows) v F := by
 cases h with
 | t => obtain ⟨G, h1, _⟩ := hv; exact ⟨G, h1⟩
 | rf h => have := hr.res _ _ h; have hv' : v = I.hd _ := hv.1; subst hv'; exact ⟨_, C.read this⟩
 | vw => obtain ⟨G, h1, _⟩ := hv; exact ⟨G, h1⟩
 | nil =>
  obtain ⟨G, h1, _⟩ := hv
  simp only [C] at h1
  obtain ⟨rfl, _⟩ := h1
  exact ⟨[], by unfold C; exact ⟨none, 0, 0, rfl, rfl, Nat.le_refl _, Nat.zero_le _, .inl ⟨rfl, rfl, by simp⟩⟩⟩
theorem R_len {x : Operand} {t : TypeId} {A0 : A} {k : Nat} {rows : List (List T)} (ho : o.op = .call { callee := .builtin .len, args := #[x], argTypes := #[t] }) (hg : Grd ops o σ q) (hd : o.dst.all (fun d => Nat.blt d σ.n) = true)
 (hx : Get σ q x A0) (hs : Sq σ A0 k rows) {e : TypeId} (hu : P.underlying t = some (.slice e)) : Op1 P ops o σ (σ.put o.dst (q, .a (.one (.t (.v (.int .i64 rows.length)))))) :=
 .val hg hd fun I w0 a w hr hq => by
  obtain ⟨F, hC⟩ := hs.val hr (hx.va hr hq)
  simp only [C] at hC
  obtain ⟨b, len, cap, h1, h2, h3, h4, h5⟩ := hC
  refine ⟨_, ?_, VS_v _⟩
  rw [h2]
  simp [execOp, ho, resolve, invoke, builtin, h1, Builtin.len_, goInt, run_underlying hu]
theorem C_ad {w : World} {b off : Nat} {row : List T} {G : List Nat} (h : Ms false w b off row G) (hb : b < w.heap.size) : C false w (.ad row) (.pointer (some ⟨b, off, none⟩)) (b :: G) := by
 simp only [C]; exact ⟨b, off, G, rfl, rfl, hb, h⟩
theorem run_indexAt {t e : TypeId} {k : Nat} {ag : Bool} {w : World} {v : Value} {F : List Nat} {o : Bool} {rows : List (List T)} {n : Int} {row : List T} (hu : P.underlying t = some (.slice e)) (hk : tyB P e ag k = true) (hC : C o w (.sl k rows) v F) (h0 : 0 ≤ n) (hi : rows[n.toNat]? = some row) :
 ∃ b off len cap, v = .slice (some ⟨b, off, none⟩) len cap ∧ (Instr.indexAt t v (.int .i64 n)).run P w = .ok (.pointer (some ⟨b, off + n.toNat * k, none⟩)) w ∧ b < w.heap.size ∧ b ∈ F ∧ (o = true → off = 0) ∧ (o = true → ∃ cur e, w.heap[b]? = some (.cells cur e (0, 0)) ∧ cur.size = cap * k ∧ len ≤ cap) ∧
  ∃ G, Ms o w b (off + n.toNat * k) row G ∧ row.length = k ∧ ∀ x ∈ G, x ∈ F := by
 simp only [C] at hC
 obtain ⟨b, len, cap, h1, h2, h3, h4, h5⟩ := hC
 have hlt : n.toNat < rows.length := (List.getElem?_eq_some_iff.1 hi).1
 rcases h5 with ⟨h6, _⟩ | ⟨b, off, G, rfl, rfl, h8, h9, h10⟩
 · omega
 · obtain ⟨G', g1, g2, g3⟩ := h10.get hi
   refine ⟨b, off, len, cap, h1, ?_, h8, by simp, fun ho => (h9 ho).1, fun ho => ?_, G', g1, g2, fun x hx => by simp [g3 x hx]⟩
   · have hn : n < (len : Int) := by omega
     subst h1
     simp [Instr.indexAt, asIntOf, run_underlying hu, h0, hn, tyB_size hk, Addr.add_lit]
   · obtain ⟨_, cur, e', h11, h12⟩ := h9 ho
     exact ⟨cur, e', h11, h12, h3⟩
theorem R_indexAddr {t e : TypeId} {x y : Operand} {n : Int} {k : Nat} {ag : Bool} {rows : List (List T)} {row : List T} (ho : o.op = .indexAddr t x y) (hg : Grd ops o σ q) (hd : o.dst.all (fun d => Nat.blt d σ.n) = true) (hx : Get σ q x (.one (.t (.sl k rows))))
 (hy : Get σ q y (.one (.t (.v (.int .i64 n))))) (hu : P.underlying t = some (.slice e)) (hk : tyB P e ag k = true) (hi : q = true → 0 ≤ n ∧ rows[n.toNat]? = some row) : Op1 P ops o σ (σ.put o.dst (q, .a (.one (.t (.ad row))))) :=
 .val hg hd fun I w0 a w hr hq => by
  obtain ⟨F, hC, hF⟩ : VA I w (.one (.t (.sl k rows))) (a.eval x) := hx.va hr hq
  obtain ⟨b, off, len, cap, h1, h2, h3, h4, -, -, G, h5, h6, h7⟩ := run_indexAt hu hk hC (hi hq).1 (hi hq).2
  refine ⟨_, by simp [execOp, ho, hy.int hr hq, h2], b :: G, C_ad h5 h3, fun c hc => ?_⟩
  rcases List.mem_cons.1 hc with rfl | hc
  · exact hF _ h4
  · exact hF _ (h7 c hc)
theorem R_indexAddr_rf {id : Nat} {t e : TypeId} {x y : Operand} {n : Int} {k : Nat} {ag : Bool} {rows : List (List T)} {row : List T} (ho : o.op = .indexAddr t x y) (hg : Grd ops o σ q) (hd : o.dst.all (fun d => Nat.blt d σ.n) = true) (hx : Get σ q x (.one (.rf id)))
 (hs : look σ.res id = some (.row k rows)) (hy : Get σ q y (.one (.t (.v (.int .i64 n))))) (hu : P.underlying t = some (.slice e)) (hk : tyB P e ag k = true) (hi : q = true → 0 ≤ n ∧ rows[n.toNat]? = some row) : Op1 P ops o σ (σ.put o.dst (q, .a (.one (.pr id k n.toNat 0)))) :=
 .val hg hd fun I w0 a w hr hq => by
  have hv : a.eval x = I.hd id := (show VE I w (.rf id) (a.eval x) from hx.va hr hq).1
  have hC : C true w (.sl k rows) _ _ := hr.res _ _ hs
  obtain ⟨b, off, len, cap, h1, h2, h3, h4, h5, -, G, h6, h7, h8⟩ := run_indexAt hu hk hC (hi hq).1 (hi hq).2
  have h9 := h5 rfl
  subst h9
  exact ⟨.pointer (some ⟨b, 0 + n.toNat * k, none⟩), by simp [execOp, ho, hy.int hr hq, hv, h2], b, len, cap, h1, by simp⟩
def fldB (P : Program) (t : TypeId) (j off : Nat) : Bool := match P.underlying t with
 | some (.struct fs) => match fs[j]? with
  | some f => Nat.beq f.offset off && (match P.info? f.type with | some i => !(Nat.beq i.size 0) | none => false)
  | none => false
 | _ => false
theorem run_fieldAt {t : TypeId} {j off : Nat} (h : fldB P t j off = true) (w : World) (b p : Nat) : (Instr.fieldAt t (.pointer (some ⟨b, p, none⟩)) j).run P w = .ok (.pointer (some ⟨b, p + off, none⟩)) w := by
 unfold fldB at h
 split at h
 · rename_i fs hu
   split at h
   · rename_i f hf
     simp only [Bool.and_eq_true] at h
     obtain ⟨h1, h2⟩ := h
     have h1 := Nat.eq_of_beq_eq_true h1
     split at h2
     · rename_i i hi
       have h3 : ¬ i.size = 0 := by intro e; simp [e, Nat.beq] at h2
       simp [Instr.fieldAt, run_underlying hu, hf, Instr.sureAddr, fieldPlace, sizeOf, typeInfo, hi, h3, Addr.add_lit, h1]
     · cases h2
   · cases h
 · cases h
theorem R_fieldAddr {t : TypeId} {x : Operand} {j off : Nat} {cs : List T} (ho : o.op = .fieldAddr t x j) (hg : Grd ops o σ q) (hd : o.dst.all (fun d => Nat.blt d σ.n) = true) (hx : Get σ q x (.one (.t (.ad cs)))) (hf : fldB P t j off = true) : Op1 P ops o σ (σ.put o.dst (q, .a (.one (.t (.ad (cs.drop off)))))) :=
 .val hg hd fun I w0 a w hr hq => by
  obtain ⟨F, hC, hF⟩ : VA I w (.one (.t (.ad cs))) (a.eval x) := hx.va hr hq
  simp only [C] at hC
  obtain ⟨b, p, G, h1, rfl, h2, h3⟩ := hC
  obtain ⟨G', h4, h5⟩ := h3.drop off
  refine ⟨_, by simp [execOp, ho, h1, run_fieldAt hf], b :: G', C_ad h4 h2, fun c hc => hF c ?_⟩
  rcases List.mem_cons.1 hc with rfl | hc
  · simp
  · simp [h5 c hc]
theorem R_fieldAddr_pp {id p : Nat} {t : TypeId} {x : Operand} {j off : Nat} (ho : o.op = .fieldAddr t x j) (hg : Grd ops o σ q) (hd : o.dst.all (fun d => Nat.blt d σ.n) = true) (hx : Get σ q x (.one (.pp id p))) (hf : fldB P t j off = true) : Op1 P ops o σ (σ.put o.dst (q, .a (.one (.pp id (p + off))))) :=
 .val hg hd fun I w0 a w hr hq => by
  have hv : a.eval x = _ := hx.va hr hq
  exact ⟨.pointer (some ⟨I.B id, p + off, none⟩), by simp [execOp, ho, hv, run_fieldAt hf], rfl⟩
theorem R_fieldAddr_pr {id k i p : Nat} {t : TypeId} {x : Operand} {j off : Nat} (ho : o.op = .fieldAddr t x j) (hg : Grd ops o σ q) (hd : o.dst.all (fun d => Nat.blt d σ.n) = true) (hx : Get σ q x (.one (.pr id k i p))) (hf : fldB P t j off = true) : Op1 P ops o σ (σ.put o.dst (q, .a (.one (.pr id k i (p + off))))) :=
 .val hg hd fun I w0 a w hr hq => by
  obtain ⟨g, n, m, h1, hv⟩ : VE I w (.pr id k i p) (a.eval x) := hx.va hr hq
  exact ⟨.pointer (some ⟨g, i * k + p + off, none⟩), by simp [execOp, ho, hv, run_fieldAt hf], g, n, m, h1, by simp [Nat.add_assoc]⟩
def mkA (ag : Bool) (l : List E) : A := bif ag then .agg l else match l with | e :: _ => .one e | [] => .one .no
theorem run_load {t : TypeId} {ag : Bool} {n b p : Nat} {w : World} (ht : tyB P t ag n = true) {cs : List Value} (hl : cs.length = n) (h1 : ag = false → n = 1) (hc : ∀ (j : Nat) (u : Value), cs[j]? = some u → w.cell? ⟨b, p + j, none⟩ = some u) :
 (Instr.loadAt t (.pointer (some ⟨b, p, none⟩))).run P w = .ok (if ag = true then .agg cs.toArray else cs.headD undef) w := by
 cases ag with
 | true =>
  have := run_loadCells_list (P := P) w ⟨b, p, none⟩ cs (fun j v hj => by rw [Addr.add_lit]; exact hc j v hj)
  rw [hl] at this
  simp [Instr.loadAt, Instr.sureAddr, loadVar, tyB_agg ht, tyB_size ht, this]
 | false =>
  have := h1 rfl
  subst this
  match cs, hl with
  | [c], _ =>
   have := hc 0 c rfl
   simp only [Nat.add_zero] at this
   simp [Instr.loadAt, Instr.sureAddr, loadVar, tyB_agg ht, this]
theorem VA_mk {I : Ip} {w : World} {ag : Bool} {l : List E} {cs : List Value} (h : VEs I w l cs) (h1 : ag = false → l.length = 1) : VA I w (mkA ag l) (if ag = true then .agg cs.toArray else cs.headD undef) := by
 cases ag with
 | true => exact ⟨cs, rfl, h⟩
 | false =>
  match l, h1 rfl, h with
  | [e], _, h =>
   obtain ⟨c, cr, h1, h2, h3⟩ := h
   subst h1
   exact h2
theorem Cs_t {I : Ip} {w : World} : ∀ {l : List T} {cs : List Value} {F : List Nat}, Cs false w l cs F → (∀ b ∈ F, I.Z b) → VEs I w (l.map .t) cs
 | [], cs, F, h, _ => by simp only [Cs] at h; exact h.1
 | t :: r, cs, F, h, hF => by
  simp only [Cs] at h
  obtain ⟨c, cr, G1, G2, h1, h2, h3, rfl⟩ := h
  exact ⟨c, cr, h1, ⟨G1, h2, fun b hb => hF b (by simp [hb])⟩, Cs_t h3 fun b hb => hF b (by simp [hb])⟩
def toE (id : Nat) : T → E
 | .v x => .t (.v x)
 | t => .vw id t
theorem VE_toE {I : Ip} {w : World} {id : Nat} {t : T} {c : Value} {G : List Nat} (h : C false w t c G) (hG : ∀ b ∈ G, b ∈ I.F id) : VE I w (toE id t) c := by
 cases t with
 | v x =>
  simp only [C] at h
  obtain ⟨rfl, _, h⟩ := h
  exact ⟨[], by simp [C, h], by simp⟩
 | sl k rows => exact ⟨G, h, hG⟩
 | ad cs => exact ⟨G, h, hG⟩
 | fn f x y => exact ⟨G, h, hG⟩
theorem Cs_vw {I : Ip} {w : World} {id : Nat} : ∀ {l : List T} {cs : List Value} {F : List Nat}, Cs false w l cs F → (∀ b ∈ F, b ∈ I.F id) → VEs I w (l.map (toE id)) cs
 | [], cs, F, h, _ => by simp only [Cs] at h; exact h.1
 | t :: r, cs, F, h, hF => by
  simp only [Cs] at h
  obtain ⟨c, cr, G1, G2, h1, h2, h3, rfl⟩ := h
  exact ⟨c, cr, h1, VE_toE h2 fun b hb => hF b (by simp [hb]), Cs_vw h3 fun b hb => hF b (by simp [hb])⟩
theorem R_load {t : TypeId} {x : Operand} {cs : List T} {ag : Bool} {n : Nat} (ho : o.op = .load t x) (hg : Grd ops o σ q) (hd : o.dst.all (fun d => Nat.blt d σ.n) = true) (hx : Get σ q x (.one (.t (.ad cs)))) (ht : tyB P t ag n = true) (hn : Nat.ble n cs.length = true) (h1 : (ag || Nat.beq n 1) = true) :
 Op1 P ops o σ (σ.put o.dst (q, .a (mkA ag ((cs.take n).map .t)))) :=
 .val hg hd fun I w0 a w hr hq => by
  obtain ⟨F, hC, hF⟩ : VA I w (.one (.t (.ad cs))) (a.eval x) := hx.va hr hq
  simp only [C] at hC
  obtain ⟨b, p, G, h2, rfl, h3, h4⟩ := hC
  obtain ⟨G', h5, h6⟩ := h4.take n
  obtain ⟨vs, h7, h8, h9⟩ := h5.cells
  have hn' := Nat.le_of_ble_eq_true hn
  have h1' : ag = false → n = 1 := fun e => by rw [e] at h1; exact Nat.eq_of_beq_eq_true (by simpa using h1)
  refine ⟨_, by simp [execOp, ho, h2, run_load ht (cs := vs) (by rw [h8, List.length_take]; omega) h1' h9], VA_mk (Cs_t h7 fun b hb => hF b (by simp [h6 b hb])) fun e => by rw [List.length_map, List.length_take]; have := h1' e; omega⟩
end
end Go.Q
