import Derived.Test.YtbkhopfpejhnlaaGreatDoorAbsDta
set_option linter.unusedVariables false
set_option linter.unusedSimpArgs false
namespace Go.Q
open Go.RowKit
section
variable {P : Program} {ops : Array Oper} {o : Oper} {σ σ' : St} {q : Bool}
theorem Loc.of1 {d id : Nat} {r : R} {x : Bool × S} (hd : o.dst = some d) (h : ∀ σ', Sup σ σ' → σ'.has id = false → Op1 P ops o σ' ((σ'.add id r).put o.dst x)) : Loc P ops o σ (d, x, [(id, r)]) := fun σ' hs hf => by
 have := h σ' hs (hf (id, r) (by simp))
 rw [hd] at this
 exact this
def nthB : List (List Nat) → Nat → List Nat
 | [], _ => []
 | x :: l, i => bif Nat.beq i 0 then x else nthB l (i - 1)
def stR (L : Nat → Bool) : Nat → List Out → St → St
 | k, y :: r, σ => let σ' := stR L (k - 1) r σ; bif L (k - 1) then ⟨σ'.n, (y.1, y.2.1) :: σ'.slots, addsR y.2.2 σ'.res⟩ else σ'
 | _, [], σ => σ
theorem stL_append (L : Nat → Bool) : ∀ (l1 l2 : List Out) (i : Nat) (σ : St), stL L i (l1 ++ l2) σ = stL L (i + l1.length) l2 (stL L i l1 σ)
 | [], l2, i, σ => by simp [stL]
 | y :: r, l2, i, σ => by
  rw [List.cons_append, stL, stL_append L r l2, stL]
  congr 1
  simp; omega
theorem stR_eq (L : Nat → Bool) : ∀ (r : List Out) (σ : St), stR L r.length r σ = stL L 0 r.reverse σ
 | [], σ => rfl
 | y :: r, σ => by
  rw [stR, List.reverse_cons, stL_append, show (y :: r).length - 1 = r.length by simp, stR_eq L r σ]
  simp only [List.length_reverse, Nat.zero_add, stL]
theorem stL_false (L : Nat → Bool) : ∀ (l : List Out) (i : Nat) (σ : St), (∀ j, i ≤ j → L j = false) → stL L i l σ = σ
 | [], _, _, _ => rfl
 | y :: r, i, σ, h => by
  rw [stL, h i (Nat.le_refl _)]
  exact stL_false L r (i + 1) σ fun j hj => h j (by omega)
def dstsN (l : List Oper) (N : Nat) : List Nat := (l.take N).filterMap (·.dst)
structure DrawC (P : Program) (w0 : Base) (Q : Exit → St → Prop) (N : Nat) (B : Nat → List Nat) (l : List Oper) (n : Nat) (sl : List (Nat × (Bool × S))) (rs : List (Nat × R)) (acc : List Out) (k : Nat) (rest : List Oper) : Prop where
 pf : acc.length = k → rest = l.drop k → ∃ more : List Out, (acc.reverse ++ more).length = N ∧ dstsN rest (N - k) = more.map (·.1) ∧
  Steps P l.toArray B (acc.reverse ++ more) ⟨n, delS (dstsN l N) sl, rs⟩ k rest more ∧ outB B ⟨n, sl, rs⟩ (acc.reverse ++ more) = true ∧ AWl P w0 l.toArray Q (l.drop N) (stL (fun _ => true) 0 (acc.reverse ++ more) ⟨n, sl, rs⟩)
variable {w0 : Base} {Q : Exit → St → Prop} {N : Nat} {B : Nat → List Nat} {l : List Oper} {n : Nat} {sl : List (Nat × (Bool × S))} {rs : List (Nat × R)} {acc : List Out} {k : Nat} {rest : List Oper}
theorem AW.drawn {id : Nat} (N : Nat) (B : Nat → List Nat) (hm : P.follows .mixedOrders = true) (hB : planC l.toArray N = true) (hO : ordB l B N = true) (h : DrawC P w0 Q N B l n sl rs [] 0 l) : AW P w0 (.region id l.toArray true) Q ⟨n, sl, rs⟩ := by
 obtain ⟨more, h1, h2, h3, h4, h5⟩ := h.pf rfl rfl
 simp only [List.reverse_nil, List.nil_append, Nat.sub_zero] at h1 h2 h3 h4 h5
 rw [h2] at h3
 exact AW.draw N B more hm hB hO h1 h3 h4 h5
theorem DrawC.step {y : Out} (hN : Nat.blt k N = true) (hlt : ((B k).all fun j => Nat.blt j k) = true) (ho : o.dst = some y.1) (hl : Loc P l.toArray o (stR (memN (B k)) k acc ⟨n, delS (dstsN l N) sl, rs⟩) y) (h : DrawC P w0 Q N B l n sl rs (y :: acc) (k + 1) rest) : DrawC P w0 Q N B l n sl rs acc k (o :: rest) := ⟨fun ha hr => by
 have hd : rest = l.drop (k + 1) := by
  have := congrArg (List.drop 1) hr
  simpa using this
 obtain ⟨more, h1, h2, h3, h4, h5⟩ := h.pf (by simp [ha]) hd
 have e : (y :: acc).reverse ++ more = acc.reverse ++ (y :: more) := by simp
 rw [e] at h1 h3 h4 h5
 have hN' : k < N := Nat.le_of_ble_eq_true hN
 refine ⟨y :: more, h1, ?_, ⟨?_, h3⟩, h4, h5⟩
 · rw [show N - k = (N - (k + 1)) + 1 by omega]
   simp only [dstsN, List.take_succ_cons, List.filterMap_cons, ho, List.map_cons] at h2 ⊢
   rw [h2]
 · have : stL (memN (B k)) 0 (acc.reverse ++ (y :: more)) ⟨n, delS (dstsN l N) sl, rs⟩ = stR (memN (B k)) k acc ⟨n, delS (dstsN l N) sl, rs⟩ := by
    rw [stL_append, ← ha, stR_eq, stL_false]
    intro j hj
    rw [List.length_reverse, Nat.zero_add, ha] at hj
    cases hm : memN (B acc.length) j with
    | false => rfl
    | true =>
     have h1 := List.all_eq_true.1 hlt j (by rw [← ha]; exact memN_iff.1 hm)
     have h2 : j < k := Nat.le_of_ble_eq_true h1
     omega
   rw [this]
   exact hl⟩
def finSl : List Out → List (Nat × (Bool × S)) → List (Nat × (Bool × S))
 | [], sl => sl
 | y :: r, sl => (y.1, y.2.1) :: finSl r sl
def finRs : List Out → List (Nat × R) → List (Nat × R)
 | [], rs => rs
 | y :: r, rs => addsR y.2.2 (finRs r rs)
theorem fin_eq : ∀ (acc : List Out) (k : Nat), stR (fun _ => true) k acc ⟨n, sl, rs⟩ = ⟨n, finSl acc sl, finRs acc rs⟩
 | [], k => by cases k <;> rfl
 | y :: r, k => by rw [stR, fin_eq r]; rfl
theorem DrawC.fin (hk : Nat.beq k N = true) (hU : outB B ⟨n, sl, rs⟩ acc.reverse = true) (h : AWl P w0 l.toArray Q rest ⟨n, finSl acc sl, finRs acc rs⟩) : DrawC P w0 Q N B l n sl rs acc k rest := ⟨fun ha hr => by
 have hk' := Nat.eq_of_beq_eq_true hk
 subst hk'
 refine ⟨[], by simp [ha], by simp [dstsN], by unfold Steps; split <;> first | trivial | (rename_i h; cases h), by rw [List.append_nil]; exact hU, ?_⟩
 rw [List.append_nil, ← stR_eq, fin_eq, ← hr]
 exact h⟩
end
end Go.Q
namespace Go.Q
open Go.RowKit
section
variable {P : Program} {ops : Array Oper} {o : Oper} {σ : St} {q : Bool}
theorem guard_bool {op : BinOp} {t : TypeId} {x y : Operand} {n m : Bool} (w : World) : (eqGuard op t x y (.bool n) (.bool m)).run P w = .ok () w := by
 unfold eqGuard; split <;> rfl
theorem R_neb {t t' : TypeId} {x y : Operand} {n m : Bool} (ho : o.op = .binOp .neq t x y t') (hg : Grd ops o σ q) (hd : o.dst.all (fun d => Nat.blt d σ.n) = true) (hx : Get σ q x (.one (.t (.v (.bool n))))) (hy : Get σ q y (.one (.t (.v (.bool m))))) (hu : P.underlying t = some .bool) :
 Op1 P ops o σ (σ.put o.dst (q, .a (.one (.t (.v (.bool (!(n == m)))))))) := R_bin ho hg hd hx hy guard_bool (h := fun _ w => by simp [binOp, run_equal_bool w t n m hu])
def plain : List E → Option (List Value)
 | [] => some []
 | e :: r => match e with
  | .t (.v x) => (match plain r with | some l => some (x :: l) | none => none)
  | _ => none
theorem plain_ok {I : Ip} {w : World} : ∀ {l : List E} {us cs : List Value}, plain l = some us → VEs I w l cs → cs = us
 | [], us, cs, h, hv => by
  have h' : cs = [] := hv
  simp only [plain, Option.some.injEq] at h
  rw [h', h]
 | e :: r, us, cs, h, hv => by
  obtain ⟨c, cr, rfl, h1, h2⟩ := hv
  match e, h, h1 with
  | .t (.v x), h, h1 =>
   simp only [plain] at h
   split at h
   · rename_i l hl
     cases h
     obtain ⟨G, g1, _⟩ := h1
     simp only [C] at g1
     rw [g1.1, plain_ok hl h2]
   · cases h
theorem R_eqs {op : BinOp} {t t' : TypeId} {x y : Operand} {l1 l2 : List E} {us vs : List Value} {b : Bool} (ho : o.op = .binOp op t x y t') (hg : Grd ops o σ q) (hd : o.dst.all (fun d => Nat.blt d σ.n) = true) (hx : Get σ q x (.agg l1)) (hy : Get σ q y (.agg l2))
 (h1 : plain l1 = some us) (h2 : plain l2 = some vs) (hG : P.eqGuardType P.depth t = false) (hb : ∀ w, (binOp op t (.agg us.toArray) (.agg vs.toArray)).run P w = .ok (.bool b) w) : Op1 P ops o σ (σ.put o.dst (q, .a (.one (.t (.v (.bool b)))))) :=
 .val hg hd fun I w0 a w hr hq => by
  obtain ⟨c1, e1, g1⟩ := hx.va hr hq
  obtain ⟨c2, e2, g2⟩ := hy.va hr hq
  obtain rfl := plain_ok h1 g1
  obtain rfl := plain_ok h2 g2
  exact ⟨.bool b, by simp [execOp, ho, e1, e2, run_eqGuard_agg w op t x y _ _ hG, hb], VS_v _⟩
theorem R_max {x y : Operand} {tys : Array TypeId} {n m : Int} (ho : o.op = .call { callee := .builtin .max, args := #[x, y], argTypes := tys }) (hg : Grd ops o σ q) (hd : o.dst.all (fun d => Nat.blt d σ.n) = true)
 (hx : Get σ q x (.one (.t (.v (.int .i64 n))))) (hy : Get σ q y (.one (.t (.v (.int .i64 m))))) : Op1 P ops o σ (σ.put o.dst (q, .a (.one (.t (.v (.int .i64 (max n m))))))) :=
 .val hg hd fun I w0 a w hr hq => ⟨.int .i64 (max n m), by
  have e : (if m > n then m else n) = max n m := by split <;> omega
  simp [execOp, ho, resolve, invoke, builtin, hx.int hr hq, hy.int hr hq, Builtin.max_, Builtin.max2, e], VS_v _⟩
def GetsT (σ : St) (q : Bool) : List Operand → List T → Prop
 | [], ts => ts = []
 | x :: r, ts => ∃ t tr, ts = t :: tr ∧ Get σ q x (.one (.t t)) ∧ GetsT σ q r tr
theorem GetsT.ok {I : Ip} {w0 : Base} {w : World} {a : Act} (hr : RelI I w0 σ a w) : ∀ {l : List Operand} {ts : List T}, GetsT σ true l ts → ∃ G, Cs false w ts (l.map a.eval) G ∧ ∀ b ∈ G, I.Z b
 | [], ts, h => by cases h; exact ⟨[], by simp [Cs], by simp⟩
 | x :: r, ts, ⟨t, tr, e, h1, h2⟩ => by
  subst e
  obtain ⟨G1, g1, g2⟩ := h1.va hr rfl
  obtain ⟨G2, g3, g4⟩ := GetsT.ok hr h2
  refine ⟨G1 ++ G2, by simp only [List.map_cons, Cs]; exact ⟨_, _, G1, G2, rfl, g1, g3, rfl⟩, fun b hb => ?_⟩
  rcases List.mem_append.1 hb with hb | hb
  · exact g2 b hb
  · exact g4 b hb
theorem GetsT.nil : GetsT σ q [] [] := rfl
theorem GetsT.cons {x : Operand} {r : List Operand} {t : T} {tr : List T} (h : Get σ q x (.one (.t t))) (hr : GetsT σ q r tr) : GetsT σ q (x :: r) (t :: tr) := ⟨t, tr, rfl, h, hr⟩
theorem Rws.drop {oo : Bool} {w : World} {b k : Nat} : ∀ {rs : List (List T)} {off : Nat} {F : List Nat}, Rws oo w b k off rs F → ∀ j, j ≤ rs.length → ∃ G, Rws oo w b k (off + j * k) (rs.drop j) G ∧ ∀ x ∈ G, x ∈ F
 | rs, off, F, h, 0, _ => ⟨F, by simpa using h, fun x hx => hx⟩
 | [], off, F, h, j + 1, hj => by simp at hj
 | r :: rs, off, F, h, j + 1, hj => by
  simp only [Rws] at h
  obtain ⟨G1, G2, h1, h2, h3, rfl⟩ := h
  obtain ⟨G, g1, g2⟩ := Rws.drop h3 j (by simpa using hj)
  refine ⟨G, ?_, fun x hx => by simp [g2 x hx]⟩
  rw [show off + (j + 1) * k = off + k + j * k by rw [Nat.succ_mul]; omega]
  exact g1
theorem Rws.take {oo : Bool} {w : World} {b k : Nat} : ∀ {rs : List (List T)} {off : Nat} {F : List Nat}, Rws oo w b k off rs F → ∀ j, ∃ G, Rws oo w b k off (rs.take j) G ∧ ∀ x ∈ G, x ∈ F
 | rs, off, F, h, 0 => ⟨[], by simp [Rws], by simp⟩
 | [], off, F, h, j + 1 => ⟨F, by simpa using h, fun x hx => hx⟩
 | r :: rs, off, F, h, j + 1 => by
  simp only [Rws] at h
  obtain ⟨G1, G2, h1, h2, h3, rfl⟩ := h
  obtain ⟨G, g1, g2⟩ := Rws.take h3 j
  refine ⟨G1 ++ G, ?_, fun x hx => ?_⟩
  · rw [List.take_succ_cons]
    simp only [Rws]
    exact ⟨G1, G, h1, h2, g1, rfl⟩
  · rcases List.mem_append.1 hx with hx | hx
    · simp [hx]
    · simp [g2 x hx]
inductive Bnd (σ : St) (q : Bool) : Option Operand → Nat → Nat → Prop where
 | no {d : Nat} : Bnd σ q none d d
 | yes {x : Operand} {d m : Nat} {n : Int} (h : Get σ q x (.one (.t (.v (.int .i64 n))))) (hn : q = true → n = (m : Int)) : Bnd σ q (some x) d m
theorem slice_C {w : World} {t e : TypeId} {k : Nat} {ag : Bool} {rows : List (List T)} {v : Value} {F : List Nat} {lo hi : Option Value} {n m : Nat} (hu : P.underlying t = some (.slice e)) (hk : tyB P e ag k = true) (hC : C false w (.sl k rows) v F)
 (hlo : lo = none ∧ n = 0 ∨ lo = some (.int .i64 (n : Int))) (hhi : hi = none ∧ m = rows.length ∨ hi = some (.int .i64 (m : Int))) (hm : m ≤ rows.length) (hn : n ≤ m) :
 ∃ v' F', (Instr.sliceAt t v lo hi none).run P w = .ok v' w ∧ C false w (.sl k ((rows.take m).drop n)) v' F' ∧ ∀ x ∈ F', x ∈ F := by
 simp only [C] at hC
 obtain ⟨a, len, cap, rfl, h2, h3, h4, h5⟩ := hC
 have hrun : (Instr.sliceAt t (.slice a len cap) lo hi none).run P w = .ok (.slice (if cap = n then a else a.map (·.add (n * k))) (m - n) (cap - n)) w := by
  have b1 : m ≤ cap := by omega
  have b2 : n ≤ len := by omega
  have b4 : rows.length ≤ cap := by omega
  rcases hlo with ⟨rfl, rfl⟩ | rfl <;> rcases hhi with ⟨rfl, rfl⟩ | rfl <;> simp [Instr.sliceAt, Instr.slice, run_underlying hu, Instr.sliceBounds, Instr.sliceBound, asIntOf, tyB_size hk, b1, b2, b4, hn, h2]
 rcases h5 with ⟨h6, rfl, _⟩ | ⟨b, off, G, rfl, rfl, h7, _, h8⟩
 · refine ⟨_, [], hrun, ?_, by simp⟩
   unfold C
   refine ⟨_, _, _, rfl, by simp; omega, by omega, by omega, .inl ⟨by omega, rfl, by simp⟩⟩
 · by_cases hmn : m = n
   · refine ⟨_, [], hrun, ?_, by simp⟩
     unfold C
     refine ⟨_, _, _, rfl, by simp; omega, by omega, by omega, .inl ⟨by omega, rfl, by simp⟩⟩
   · obtain ⟨G1, g1, g2⟩ := h8.take m
     obtain ⟨G2, g3, g4⟩ := g1.drop n (by simp; omega)
     refine ⟨_, b :: G2, hrun, ?_, fun x hx => ?_⟩
     · unfold C
       refine ⟨_, _, _, rfl, by simp; omega, by omega, by omega, .inr ⟨b, off + n * k, G2, ?_, rfl, h7, by simp, g3⟩⟩
       rw [if_neg (by omega)]
       simp [Addr.add_lit]
     · rcases List.mem_cons.1 hx with rfl | hx
       · simp
       · simp [g2 x (g4 x hx)]
theorem Bnd.val {x : Option Operand} {d n : Nat} (h : Bnd σ q x d n) {I : Ip} {w0 : Base} {w : World} {a : Act} (hr : RelI I w0 σ a w) (hq : q = true) : x.map a.eval = none ∧ n = d ∨ x.map a.eval = some (.int .i64 (n : Int)) := by
 cases h with
 | no => exact .inl ⟨rfl, rfl⟩
 | yes h hn => exact .inr (by simp [h.int hr hq, hn hq])
theorem R_slice {t e : TypeId} {x : Operand} {lo hi : Option Operand} {k n m : Nat} {ag : Bool} {rows : List (List T)} (ho : o.op = .slice t x lo hi none) (hg : Grd ops o σ q) (hd : o.dst.all (fun d => Nat.blt d σ.n) = true) (hx : Get σ q x (.one (.t (.sl k rows))))
 (hl : Bnd σ q lo 0 n) (hh : Bnd σ q hi rows.length m) (hu : P.underlying t = some (.slice e)) (hk : tyB P e ag k = true) (hb : q = true → n ≤ m ∧ m ≤ rows.length) : Op1 P ops o σ (σ.put o.dst (q, .a (.one (.t (.sl k ((rows.take m).drop n)))))) :=
 .val hg hd fun I w0 a w hr hq => by
  obtain ⟨F, h1, h2⟩ := hx.va hr hq
  obtain ⟨v', F', g1, g2, g3⟩ := slice_C hu hk h1 (hl.val hr hq) (hh.val hr hq) (hb hq).2 (hb hq).1
  exact ⟨v', by simp [execOp, ho, g1], F', g2, fun b hb => h2 b (g3 b hb)⟩
end
end Go.Q
namespace Go.Q
open Go.RowKit
section
variable {P : Program} {ops : Array Oper} {o : Oper} {σ : St} {q : Bool}
def numbered : Nat → List Operand → List (Nat × Operand)
 | _, [] => []
 | i, x :: r => (i, x) :: numbered (i + 1) r
inductive Elems (σ : St) (k : Nat) : List Operand → List (List E) → Prop where
 | nil : Elems σ k [] []
 | cons {x : Operand} {A0 : A} {r : List Operand} {r' : List (List E)} (hx : Get σ true x A0) (he : (cellsA A0).all E.cell1 = true) (hn : Nat.beq (cellsA A0).length k = true) (h : Elems σ k r r') : Elems σ k (x :: r) (cellsA A0 :: r')
theorem Elems.ok {k : Nat} {I : Ip} {w0 : Base} {w : World} {a : Act} (hr : RelI I w0 σ a w) : ∀ {xs : List Operand} {es : List (List E)} (i : Nat) (pre rest : List Value), Elems σ k xs es → pre.length = i * k → rest.length = xs.length * k →
 ∃ cs, Instr.fill (fun i => some (i * k, k)) (pre ++ rest).toArray ((numbered i xs).map fun y => (y.1, a.eval y.2)) = some (pre ++ cs).toArray ∧ VEs I w es.flatten cs ∧ (∀ c ∈ cs, c.oneCell' = true) ∧ cs.length = xs.length * k ∧ es.length = xs.length ∧ ∀ e ∈ es, e.length = k
 | [], es, i, pre, rest, h, hp, hl => by
  cases h
  have : rest = [] := List.eq_nil_of_length_eq_zero (by simpa using hl)
  subst this
  exact ⟨[], by simp [numbered, Instr.fill], rfl, by simp, by simp, rfl, by simp⟩
 | x :: xs, es, i, pre, rest, h, hp, hl => by
  cases h with
  | cons hx he hn h =>
   rename_i A0 r'
   obtain ⟨ds, h1, h2, h3⟩ := (hx.va hr rfl).cells he
   have hn' := Nat.eq_of_beq_eq_true hn
   have e1 := VEs_len h2
   have hl' : rest.length = xs.length * k + k := by rw [hl, List.length_cons, Nat.succ_mul]
   obtain ⟨cs, g1, g2, g3, g4, g5, g6⟩ := Elems.ok hr (i + 1) (pre ++ ds) (rest.drop k) h (by rw [List.length_append, hp, Nat.succ_mul]; omega) (by rw [List.length_drop]; omega)
   refine ⟨ds ++ cs, ?_, ?_, fun c hc => ?_, ?_, by simp [g5], fun e hm => ?_⟩
   · simp only [numbered, List.map_cons, Instr.fill, h1]
     have hdk : ds.length = k := e1.trans hn'
     rw [if_neg (by simp; omega)]
     have hfo := foldl_set (i * k) ds (pre ++ rest) (by simp; omega)
     have e2 : (pre ++ rest).take (i * k) ++ ds ++ (pre ++ rest).drop (i * k + ds.length) = pre ++ ds ++ rest.drop k := by
      rw [← hp, List.take_left' rfl, ← List.drop_drop, List.drop_left' rfl, hdk]
     rw [e2] at hfo
     rw [← List.append_assoc, ← g1, ← hfo]
     congr 1
     simp
   · rw [List.flatten_cons]; exact VEs_append h2 g2
   · rcases List.mem_append.1 hc with hc | hc
     · exact h3 c hc
     · exact g3 c hc
   · rw [List.length_append, g4, List.length_cons, Nat.succ_mul]; omega
   · rcases List.mem_cons.1 hm with rfl | hm
     · exact hn'
     · exact g6 e hm
theorem run_buildSlice {t e : TypeId} {k bytes : Nat} {z : Value} {xs : List Operand} {es : List (List E)} {I : Ip} {w0 : Base} {w : World} {a : Act} (hr : RelI I w0 σ a w) (ho : o.op = .buildSlice t xs.length (numbered 0 xs).toArray) (hel : Elems σ k xs es)
 (hu : P.underlying t = some (.slice e)) (hi : (P.info? e).map (fun i => (i.zero, i.size, i.bytes)) = some (some z, k, bytes)) (hb : Nat.ble (xs.length * k) 16777216 = true) :
 ∃ cs, (execOp a.eval o).run P w = .ok (.value (.slice (some ⟨w.heap.size, 0, none⟩) xs.length xs.length)) (w.alloc (.cells cs.toArray e)) ∧ VEs I w es.flatten cs ∧ (∀ c ∈ cs, c.oneCell' = true) ∧ cs.length = xs.length * k ∧ es.length = xs.length ∧ ∀ e ∈ es, e.length = k := by
 obtain ⟨i, hi1, hi2, hi3, hi4⟩ := info_parts hi
 have hb' := Nat.le_of_ble_eq_true hb
 obtain ⟨cs, g1, g2⟩ := Elems.ok hr 0 [] ((Array.range (xs.length * k)).map ((if xs.length * k = 0 then #[] else z.cells)[· % (if xs.length * k = 0 then #[] else z.cells).size]!)).toList hel (by simp) (by simp)
 refine ⟨cs, ?_, g2⟩
 simp only [List.nil_append] at g1
 have hmap : ((numbered 0 xs).toArray.map fun (p : Nat × Operand) => (p.1, a.eval p.2)) = ((numbered 0 xs).map fun y => (y.1, a.eval y.2)).toArray := by simp
 have hz : ∀ w : World, ((if xs.length * i.size = 0 then pure #[] else do pure (← zeroValue e).cells : Sem (Array Value))).run P w = .ok (if xs.length * k = 0 then #[] else z.cells) w := by
  intro w
  rw [hi3]
  by_cases h0 : xs.length * k = 0
  · rw [if_pos h0, if_pos h0]; rfl
  · rw [if_neg h0, if_neg h0]; simp [zeroValue, typeInfo, hi1, hi2]
 have hne : ¬ 16777216 < xs.length * i.size := by rw [hi3]; omega
 subst hi3
 by_cases h0 : xs.length * i.size = 0
 · simp only [h0, if_true] at g1
   have e0 : (Array.map (fun x => ((#[] : Array Value))[x % (#[] : Array Value).size]!) (Array.range 0)).toList.toArray = #[] := by simp
   rw [e0] at g1
   have e1 : Array.map (fun _ => (default : Value)) (Array.range 0) = #[] := by simp [Array.range]
   simp [execOp, ho, Instr.buildSlice, run_underlying hu, sizeOf, typeInfo, hi1, h0, e1, g1, newRow]
 · simp only [h0, if_false, Array.toArray_toList] at g1
   simp [execOp, ho, Instr.buildSlice, run_underlying hu, sizeOf, typeInfo, hi1, h0, hne, zeroValue, hi2, g1, newRow]
def chunk (k : Nat) : Nat → List T → List (List T)
 | 0, _ => []
 | n + 1, ts => ts.take k :: chunk k n (ts.drop k)
theorem chunk_ok (k : Nat) : ∀ (n : Nat) (ts : List T), ts.length = n * k → (chunk k n ts).flatten = ts ∧ (chunk k n ts).length = n ∧ ∀ row ∈ chunk k n ts, row.length = k
 | 0, ts, h => by
  have : ts = [] := List.eq_nil_of_length_eq_zero (by simpa using h)
  subst this
  exact ⟨rfl, rfl, by simp [chunk]⟩
 | n + 1, ts, h => by
  rw [Nat.succ_mul] at h
  obtain ⟨h1, h2, h3⟩ := chunk_ok k n (ts.drop k) (by simp; omega)
  refine ⟨by rw [chunk, List.flatten_cons, h1, List.take_append_drop], by simp [chunk, h2], fun row hm => ?_⟩
  rw [chunk] at hm
  rcases List.mem_cons.1 hm with rfl | hm
  · simp; omega
  · exact h3 row hm
theorem R_list {t e : TypeId} {k bytes : Nat} {z : Value} {xs : List Operand} {es : List (List E)} {σ' : St} {ts : List T} (id : Nat) (ho : o.op = .buildSlice t xs.length (numbered 0 xs).toArray) (hg : o.guard = none) (hd : o.dst.all (fun d => Nat.blt d σ.n) = true) (hel : Elems σ k xs es)
 (hu : P.underlying t = some (.slice e)) (hi : (P.info? e).map (fun i => (i.zero, i.size, i.bytes)) = some (some z, k, bytes)) (hb : Nat.ble (xs.length * k) 16777216 = true) (hm : Nat.ble xs.length maxLen = true) (ha : absorb σ es.flatten = some (σ', ts)) (hf : σ'.has id = false) :
 Op1 P ops o σ ((σ'.add id (.row k (chunk k xs.length ts))).put o.dst (true, .a (.one (.rf id)))) :=
 .eff hg fun w0 a w ⟨I, hr⟩ => by
  obtain ⟨cs, hrun, g1, g2, g3, g4, g5⟩ := run_buildSlice hr ho hel hu hi hb
  obtain ⟨I', G, h1, h2, h3, h4, _⟩ := RelI.absorb ha hr g1
  have hx : Ext w (w.alloc (.cells cs.toArray e)) := (Ext.refl w).alloc _
  have hgn := heap_alloc_new w (.cells cs.toArray e)
  have hr' := h1.later hx
  have hlt : ∀ b ∈ G, b ≠ w.heap.size := fun b hb => by have := (h4 b hb).2.1; omega
  have htl : ts.length = xs.length * k := by rw [← Cs.len h2]; exact g3
  obtain ⟨c1, c2, c3⟩ := chunk_ok k xs.length ts htl
  have hn' : σ'.n = σ.n := absorb_n ha
  have hr2 := hr'.addF (id := id) (G := w.heap.size :: G) (u := .slice (some ⟨w.heap.size, 0, none⟩) xs.length xs.length) (b := 0) (r := .row k (chunk k xs.length ts)) hf
   (List.nodup_cons.2 ⟨fun hm => hlt _ hm rfl, h3⟩) (fun b hb => by
    rcases List.mem_cons.1 hb with rfl | hb
    · exact ⟨.inl hr.ext.size, by simp, ⟨_, e, hgn⟩, fun hz => by have := h1.old _ hz; omega, fun i hi => by have := (h1.lt i _ hi).1; omega⟩
    · exact (h4 b hb).mono hx) (by
    show C true _ _ _ _
    simp only [Ip.set, if_true]
    unfold C
    refine ⟨_, _, _, rfl, c2, Nat.le_refl _, ?_, .inr ⟨w.heap.size, 0, G, rfl, rfl, by simp, fun _ => ⟨rfl, _, e, hgn, by simpa using g3⟩, Rws.of (xs := cs) c3 (by rw [c1]; exact h2.mono hx) fun j u hj => ?_⟩⟩
    · exact Nat.le_of_ble_eq_true hm
    · simp only [World.cell?, hgn]; simpa using hj)
  exact ⟨_, _, hrun, _, hr2.put (by rw [show (σ'.add id (.row k (chunk k xs.length ts))).n = σ'.n from rfl, hn']; exact hd) ⟨by simp [Ip.set], _, _, _, rfl⟩⟩
theorem R_listz {t e : TypeId} {k bytes : Nat} {z : Value} {xs : List Operand} {es : List (List E)} {rows : List (List T)} (ho : o.op = .buildSlice t xs.length (numbered 0 xs).toArray) (hg : o.guard = none) (hd : o.dst.all (fun d => Nat.blt d σ.n) = true) (hel : Elems σ k xs es)
 (hu : P.underlying t = some (.slice e)) (hi : (P.info? e).map (fun i => (i.zero, i.size, i.bytes)) = some (some z, k, bytes)) (hb : Nat.ble (xs.length * k) 16777216 = true) (hm : Nat.ble xs.length maxLen = true) (hrows : es = rows.map fun r => r.map .t) :
 Op1 P ops o σ (σ.put o.dst (true, .a (.one (.t (.sl k rows))))) :=
 .eff hg fun w0 a w ⟨I, hr⟩ => by
  obtain ⟨cs, hrun, g1, g2, g3, g4, g5⟩ := run_buildSlice hr ho hel hu hi hb
  have hx : Ext w (w.alloc (.cells cs.toArray e)) := (Ext.refl w).alloc _
  have hgn := heap_alloc_new w (.cells cs.toArray e)
  have hr' := (hr.later hx).also (G := [w.heap.size]) fun b hb => by
   simp only [List.mem_singleton] at hb
   subst hb
   exact ⟨by simp, fun i hi => by have := (hr.lt i _ hi).1; omega⟩
  have key : ∀ (ts : List T) (cs : List Value), VEs I w (ts.map .t) cs → ∃ G, Cs false w ts cs G ∧ ∀ b ∈ G, I.Z b := by
   intro ts
   induction ts with
   | nil => intro cs h; exact ⟨[], by unfold Cs; exact ⟨h, rfl⟩, by simp⟩
   | cons t ts ih =>
    rintro cs ⟨c, cr, rfl, ⟨G1, k1, k2⟩, k3⟩
    obtain ⟨G2, k4, k5⟩ := ih cr k3
    refine ⟨G1 ++ G2, by unfold Cs; exact ⟨c, cr, G1, G2, rfl, k1, k4, rfl⟩, fun b hb => ?_⟩
    rcases List.mem_append.1 hb with hb | hb
    · exact k2 b hb
    · exact k5 b hb
  have efl : es.flatten = rows.flatten.map .t := by rw [hrows, List.map_flatten]
  rw [efl] at g1
  obtain ⟨G, q1, q2⟩ := key _ _ g1
  have hlen : rows.length = xs.length := by rw [← g4, hrows, List.length_map]
  refine ⟨_, _, hrun, _, hr'.put hd ⟨w.heap.size :: G, ?_, fun b hb => ?_⟩⟩
  · unfold C
    refine ⟨_, _, _, rfl, hlen, Nat.le_refl _, Nat.le_of_ble_eq_true hm, .inr ⟨w.heap.size, 0, G, rfl, rfl, by simp, (by simp), Rws.of (xs := cs) (fun row hr => ?_) (q1.mono hx) fun j u hj => ?_⟩⟩
    · have := g5 (row.map .t) (by rw [hrows]; exact List.mem_map_of_mem hr)
      simpa using this
    · simp only [World.cell?, hgn]; simpa using hj
  · rcases List.mem_cons.1 hb with rfl | hb
    · exact .inr (by simp)
    · exact .inl (q2 b hb)
theorem beq_ff {i j : Nat} (h : i ≠ j) : Nat.beq i j = false := by
 cases hb : Nat.beq i j with
 | false => rfl
 | true => exact absurd (Nat.eq_of_beq_eq_true hb) h
theorem look_kill {id id2 k : Nat} {rows : List (List T)} (hne : id ≠ id2) (hs : look σ.res id = some (.row k rows)) : look (σ.kill id2).res id = some (.row k rows) := by
 have key : ∀ (l : List (Nat × R)), look l id = some (.row k rows) → look (delR (l.map fun x => (x.1, x.2.pur id2)) id2) id = some (.row k rows) := by
  intro l
  induction l with
  | nil => intro h; cases h
  | cons y l ih =>
   obtain ⟨j, y⟩ := y
   intro h'
   rw [look_cons] at h'
   rw [List.map_cons, delR]
   by_cases e : j = id2
   · rw [if_neg (fun e' => hne (e'.symm.trans e))] at h'
     rw [show Nat.beq (j, y).1 id2 = true by show Nat.beq j id2 = true; rw [e]; exact Nat.beq_refl _]
     exact ih h'
   · rw [show Nat.beq (j, y).1 id2 = false from beq_ff e]
     show look ((j, R.pur id2 y) :: _) id = _
     rw [look_cons]
     split at h'
     · rename_i e2; cases h'; rw [if_pos e2]; rfl
     · rename_i e2; rw [if_neg e2]; exact ih h'
 exact key _ hs
theorem R_append_own {t e : TypeId} {x y : Operand} {id id2 k : Nat} {rows rows2 : List (List T)} {z : Value} {bytes : Nat} (ho : o.op = .call { callee := .builtin .append, args := #[x, y], argTypes := #[t, t] }) (hg : o.guard = none) (hd : o.dst.all (fun d => Nat.blt d σ.n) = true)
 (hx : Get σ true x (.one (.rf id))) (hs : look σ.res id = some (.row k rows)) (hy : Get σ true y (.one (.rf id2))) (hs2 : look σ.res id2 = some (.row k rows2)) (hne : Nat.beq id id2 = false) (ht : P.underlying t = some (.slice e)) (hi : (P.info? e).map (fun i => (i.zero, i.size, i.bytes)) = some (some z, k, bytes)) (hzs : z.cells.size = k)
 (hb : (rows.length + rows2.length) * bytes ≤ 140737488355328) (hm : rows.length + rows2.length ≤ maxLen) :
 Op1 P ops o σ (((σ.kill id2).chg id (.row k (rows ++ rows2))).put o.dst (true, .a (.one (.rf id)))) :=
 .eff hg fun w0 a w ⟨I, hr⟩ => by
  have hne' : id ≠ id2 := fun e => by rw [e, Nat.beq_refl] at hne; cases hne
  have hv1 : VE I w (.rf id) (a.eval x) := hx.va hr rfl
  have hv2 : VE I w (.rf id2) (a.eval y) := hy.va hr rfl
  have hC : C true w (.sl k rows) (I.hd id) (I.F id) := hr.res id _ hs
  have hC2 : C true w (.sl k rows2) (I.hd id2) (I.F id2) := hr.res id2 _ hs2
  obtain ⟨v', w', hrun, h⟩ := run_append_T (ty := o.type) w ht hi hzs hC hC2 hb hm
  obtain ⟨k1, k2, k3⟩ := hr.kill hs2
  have hF : (I.set id2 [] (I.hd id2) (I.B id2)).F id = I.F id := by simp [Ip.set, hne']
  have hhd : (I.set id2 [] (I.hd id2) (I.B id2)).hd id = I.hd id := by simp [Ip.set, hne']
  have hs' := look_kill hne' hs
  refine ⟨v', w', by simp [execOp, ho, resolve, invoke, builtin, hv1.1, hv2.1, hrun], ?_⟩
  rcases h with ⟨rfl, rfl, rfl⟩ | ⟨g, cap, cur, e', G, rfl, h1, h2, h3, h4, h5, h6, h7, xs, news, h8, h9, h10, h11, h12⟩
  · have := k1.chg hs' (Chg.refl _ _) (G := I.F id) (u := I.hd id) (r := .row k (rows ++ [])) ⟨(hr.own id _ hs).1, fun b hb => ⟨((hr.own id _ hs).2 b hb).1, (hr.lt id b hb).1, ((hr.own id _ hs).2 b hb).2, .inl (by rw [hF]; exact hb)⟩⟩ (by show C true _ _ _ _; simpa [Ip.set] using hC)
    exact ⟨_, this.put hd ⟨by simp [Ip.set], hv1.1 ▸ hv1.2⟩⟩
  · have h13 : ∀ b ∈ (I.F id2).drop 1, b ∈ I.F id2 := fun b hb => List.mem_of_mem_drop hb
    have := k1.append hs' h1 h2 h3 h4 h5 (by rw [hF]; exact h6) (by rw [hF]; exact h7) h8 h9 h10 h11 h12 (fun b hb => k2 b (h13 b hb)) ((hr.own id2 _ hs2).1.sublist (List.drop_sublist _ _))
    exact ⟨_, this.put hd ⟨by simp [Ip.set], _, _, _, rfl⟩⟩
end
end Go.Q
