import Derived.Test.YtamnfkfjfelbbaaAbsDxw
set_option linter.unusedVariables false
set_option linter.unusedSimpArgs false
namespace Go.Q
open Go.RowKit
section
variable {P : Program} {ops : Array Oper} {o : Oper} {σ σ' : St} {q : Bool}
theorem Loc.of1 {d id : Nat} {r : R} {x : Bool × S} (hd : o.dst = some d) (h : ∀ σ', Sup σ σ' → σ'.has id = false → Op1 P ops o σ' ((σ'.add id r).put o.dst x)) : Loc P ops o σ (d, x, [(id, r)]) := fun σ' hs hf => by
 have := h σ' hs (hf (id, r) (by simp))
 rw [hd] at this
 exact this
theorem adds_addsR (l : List (Nat × R)) (σ : St) : St.adds σ l = ⟨σ.n, σ.slots, addsR l σ.res⟩ := adds_eq l σ.n σ.slots σ.res
theorem Loc.ofs {d : Nat} {rl : List (Nat × R)} {x : Bool × S} (hd : o.dst = some d) (h : ∀ σ', Sup σ σ' → (∀ z ∈ rl, σ'.has z.1 = false) → Op1 P ops o σ' ((σ'.adds rl).put o.dst x)) : Loc P ops o σ (d, x, rl) := fun σ' hs hf => by
 have := h σ' hs hf
 rw [hd, adds_addsR] at this
 exact this
def nthB : List (List Nat) → Nat → List Nat
 | [], _ => []
 | x :: l, i => bif Nat.beq i 0 then x else nthB l (i - 1)
def stR (L : Nat → Bool) : Nat → List Out → St → St
 | k, y :: r, σ => let σ' := stR L (k - 1) r σ; bif L (k - 1) then ⟨σ'.n, (y.1, y.2.1) :: σ'.slots, addsR y.2.2 σ'.res⟩ else σ'
 | _, [], σ => σ
theorem stL_append (L : Nat → Bool) : ∀ (l1 l2 : List Out) (i : Nat) (σ : St), stL L i (l1 ++ l2) σ = stL L (i + l1.length) l2 (stL L i l1 σ)
 | [], l2, i, σ => by simp [stL]
 | y :: r, l2, i, σ => by
  rw [List.cons_append, stL, stL_append L r l2, stL]
  congr 1
  simp; omega
theorem stR_eq (L : Nat → Bool) : ∀ (r : List Out) (σ : St), stR L r.length r σ = stL L 0 r.reverse σ
 | [], σ => rfl
 | y :: r, σ => by
  rw [stR, List.reverse_cons, stL_append, show (y :: r).length - 1 = r.length by simp, stR_eq L r σ]
  simp only [List.length_reverse, Nat.zero_add, stL]
theorem stL_false (L : Nat → Bool) : ∀ (l : List Out) (i : Nat) (σ : St), (∀ j, i ≤ j → L j = false) → stL L i l σ = σ
 | [], _, _, _ => rfl
 | y :: r, i, σ, h => by
  rw [stL, h i (Nat.le_refl _)]
  exact stL_false L r (i + 1) σ fun j hj => h j (by omega)
def dstsN (l : List Oper) (N : Nat) : List Nat := (l.take N).filterMap (·.dst)
structure DrawC (P : Program) (w0 : Base) (Q : Exit → St → Prop) (N : Nat) (B : Nat → List Nat) (l : List Oper) (n : Nat) (sl : List (Nat × (Bool × S))) (rs : List (Nat × R)) (acc : List Out) (k : Nat) (rest : List Oper) : Prop where
 pf : acc.length = k → rest = l.drop k → ∃ more : List Out, (acc.reverse ++ more).length = N ∧ dstsN rest (N - k) = more.map (·.1) ∧
  Steps P l.toArray B (acc.reverse ++ more) ⟨n, delS (dstsN l N) sl, rs⟩ k rest more ∧ outB B ⟨n, sl, rs⟩ (acc.reverse ++ more) = true ∧ AWl P w0 l.toArray Q (l.drop N) (stL (fun _ => true) 0 (acc.reverse ++ more) ⟨n, sl, rs⟩)
variable {w0 : Base} {Q : Exit → St → Prop} {N : Nat} {B : Nat → List Nat} {l : List Oper} {n : Nat} {sl : List (Nat × (Bool × S))} {rs : List (Nat × R)} {acc : List Out} {k : Nat} {rest : List Oper}
theorem AW.drawn {id : Nat} (N : Nat) (B : Nat → List Nat) (hm : P.follows .mixedOrders = true) (hB : planC l.toArray N = true) (hO : ordB l B N = true) (h : DrawC P w0 Q N B l n sl rs [] 0 l) : AW P w0 (.region id l.toArray true) Q ⟨n, sl, rs⟩ := by
 obtain ⟨more, h1, h2, h3, h4, h5⟩ := h.pf rfl rfl
 simp only [List.reverse_nil, List.nil_append, Nat.sub_zero] at h1 h2 h3 h4 h5
 rw [h2] at h3
 exact AW.draw N B more hm hB hO h1 h3 h4 h5
theorem DrawC.step {y : Out} (hN : Nat.blt k N = true) (hlt : ((B k).all fun j => Nat.blt j k) = true) (ho : o.dst = some y.1) (hl : Loc P l.toArray o (stR (memN (B k)) k acc ⟨n, delS (dstsN l N) sl, rs⟩) y) (h : DrawC P w0 Q N B l n sl rs (y :: acc) (k + 1) rest) : DrawC P w0 Q N B l n sl rs acc k (o :: rest) := ⟨fun ha hr => by
 have hd : rest = l.drop (k + 1) := by
  have := congrArg (List.drop 1) hr
  simpa using this
 obtain ⟨more, h1, h2, h3, h4, h5⟩ := h.pf (by simp [ha]) hd
 have e : (y :: acc).reverse ++ more = acc.reverse ++ (y :: more) := by simp
 rw [e] at h1 h3 h4 h5
 have hN' : k < N := Nat.le_of_ble_eq_true hN
 refine ⟨y :: more, h1, ?_, ⟨?_, h3⟩, h4, h5⟩
 · rw [show N - k = (N - (k + 1)) + 1 by omega]
   simp only [dstsN, List.take_succ_cons, List.filterMap_cons, ho, List.map_cons] at h2 ⊢
   rw [h2]
 · have : stL (memN (B k)) 0 (acc.reverse ++ (y :: more)) ⟨n, delS (dstsN l N) sl, rs⟩ = stR (memN (B k)) k acc ⟨n, delS (dstsN l N) sl, rs⟩ := by
    rw [stL_append, ← ha, stR_eq, stL_false]
    intro j hj
    rw [List.length_reverse, Nat.zero_add, ha] at hj
    cases hm : memN (B acc.length) j with
    | false => rfl
    | true =>
     have h1 := List.all_eq_true.1 hlt j (by rw [← ha]; exact memN_iff.1 hm)
     have h2 : j < k := Nat.le_of_ble_eq_true h1
     omega
   rw [this]
   exact hl⟩
def finSl : List Out → List (Nat × (Bool × S)) → List (Nat × (Bool × S))
 | [], sl => sl
 | y :: r, sl => (y.1, y.2.1) :: finSl r sl
def finRs : List Out → List (Nat × R) → List (Nat × R)
 | [], rs => rs
 | y :: r, rs => addsR y.2.2 (finRs r rs)
theorem fin_eq : ∀ (acc : List Out) (k : Nat), stR (fun _ => true) k acc ⟨n, sl, rs⟩ = ⟨n, finSl acc sl, finRs acc rs⟩
 | [], k => by cases k <;> rfl
 | y :: r, k => by rw [stR, fin_eq r]; rfl
theorem DrawC.fin (hk : Nat.beq k N = true) (hU : outB B ⟨n, sl, rs⟩ acc.reverse = true) (h : AWl P w0 l.toArray Q rest ⟨n, finSl acc sl, finRs acc rs⟩) : DrawC P w0 Q N B l n sl rs acc k rest := ⟨fun ha hr => by
 have hk' := Nat.eq_of_beq_eq_true hk
 subst hk'
 refine ⟨[], by simp [ha], by simp [dstsN], by unfold Steps; split <;> first | trivial | (rename_i h; cases h), by rw [List.append_nil]; exact hU, ?_⟩
 rw [List.append_nil, ← stR_eq, fin_eq, ← hr]
 exact h⟩
end
end Go.Q
namespace Go.Q
open Go.RowKit
section
variable {P : Program} {ops : Array Oper} {o : Oper} {σ : St} {q : Bool}
theorem guard_bool {op : BinOp} {t : TypeId} {x y : Operand} {n m : Bool} (w : World) : (eqGuard op t x y (.bool n) (.bool m)).run P w = .ok () w := by
 unfold eqGuard; split <;> rfl
theorem R_neb {t t' : TypeId} {x y : Operand} {n m : Bool} (ho : o.op = .binOp .neq t x y t') (hg : Grd ops o σ q) (hd : o.dst.all (fun d => Nat.blt d σ.n) = true) (hx : Get σ q x (.one (.t (.v (.bool n))))) (hy : Get σ q y (.one (.t (.v (.bool m))))) (hu : P.underlying t = some .bool) :
 Op1 P ops o σ (σ.put o.dst (q, .a (.one (.t (.v (.bool (!(n == m)))))))) := R_bin ho hg hd hx hy guard_bool (h := fun _ w => by simp [binOp, run_equal_bool w t n m hu])
def plain : List E → Option (List Value)
 | [] => some []
 | e :: r => match e with
  | .t (.v x) => (match plain r with | some l => some (x :: l) | none => none)
  | _ => none
theorem R_nilCheck {x : Operand} {cs : List T} (ho : o.op = .nilCheck x) (hg : Grd ops o σ q) (hd : o.dst.all (fun d => Nat.blt d σ.n) = true) (hx : Get σ q x (.one (.t (.ad cs)))) : Op1 P ops o σ (σ.put o.dst (q, .a (.one (.t (.ad cs))))) :=
 .val hg hd fun I w0 a w hr hq => by
  have hv := hx.va hr hq
  obtain ⟨F, h1, h2⟩ := hv
  have h1' := h1
  simp only [C] at h1'
  obtain ⟨b, off, G, e, _⟩ := h1'
  exact ⟨_, by simp [execOp, ho, e], F, e ▸ h1, h2⟩
theorem R_nilCheck_pp {x : Operand} {id p : Nat} (ho : o.op = .nilCheck x) (hg : Grd ops o σ q) (hd : o.dst.all (fun d => Nat.blt d σ.n) = true) (hx : Get σ q x (.one (.pp id p))) : Op1 P ops o σ (σ.put o.dst (q, .a (.one (.pp id p)))) :=
 .val hg hd fun I w0 a w hr hq => by
  have hv : a.eval x = .pointer (some ⟨I.B id, p, none⟩) := hx.va hr hq
  exact ⟨_, by simp [execOp, ho, hv], rfl⟩
theorem R_min {x y : Operand} {tys : Array TypeId} {n m : Int} (ho : o.op = .call { callee := .builtin .min, args := #[x, y], argTypes := tys }) (hg : Grd ops o σ q) (hd : o.dst.all (fun d => Nat.blt d σ.n) = true)
 (hx : Get σ q x (.one (.t (.v (.int .i64 n))))) (hy : Get σ q y (.one (.t (.v (.int .i64 m))))) : Op1 P ops o σ (σ.put o.dst (q, .a (.one (.t (.v (.int .i64 (min n m))))))) :=
 .val hg hd fun I w0 a w hr hq => ⟨.int .i64 (min n m), by
  have e : (if m < n then m else n) = min n m := by split <;> omega
  simp [execOp, ho, resolve, invoke, builtin, hx.int hr hq, hy.int hr hq, Builtin.min_, Builtin.min2, e], VS_v _⟩
def GetsT (σ : St) (q : Bool) : List Operand → List T → Prop
 | [], ts => ts = []
 | x :: r, ts => ∃ t tr, ts = t :: tr ∧ Get σ q x (.one (.t t)) ∧ GetsT σ q r tr
theorem GetsT.ok {I : Ip} {w0 : Base} {w : World} {a : Act} (hr : RelI I w0 σ a w) : ∀ {l : List Operand} {ts : List T}, GetsT σ true l ts → ∃ G, Cs false w ts (l.map a.eval) G ∧ ∀ b ∈ G, I.Z b
 | [], ts, h => by cases h; exact ⟨[], by simp [Cs], by simp⟩
 | x :: r, ts, ⟨t, tr, e, h1, h2⟩ => by
  subst e
  obtain ⟨G1, g1, g2⟩ := h1.va hr rfl
  obtain ⟨G2, g3, g4⟩ := GetsT.ok hr h2
  refine ⟨G1 ++ G2, by simp only [List.map_cons, Cs]; exact ⟨_, _, G1, G2, rfl, g1, g3, rfl⟩, fun b hb => ?_⟩
  rcases List.mem_append.1 hb with hb | hb
  · exact g2 b hb
  · exact g4 b hb
theorem GetsT.nil : GetsT σ q [] [] := rfl
theorem GetsT.cons {x : Operand} {r : List Operand} {t : T} {tr : List T} (h : Get σ q x (.one (.t t))) (hr : GetsT σ q r tr) : GetsT σ q (x :: r) (t :: tr) := ⟨t, tr, rfl, h, hr⟩
theorem R_makeFunc {f : FuncId} {l : List Operand} {ts : List T} (ho : o.op = .makeFunc (.func f) #[] l.toArray) (hg : Grd ops o σ q) (hd : o.dst.all (fun d => Nat.blt d σ.n) = true) (hx : GetsT σ true l ts) : Op1 P ops o σ (σ.put o.dst (q, .a (.one (.t (.fn (.func f) [] ts))))) :=
 .val hg hd fun I w0 a w hr hq => by
  obtain ⟨G, h1, h2⟩ := hx.ok hr
  refine ⟨.func (.func f) #[] (l.map a.eval).toArray, by simp [execOp, ho, Instr.makeFunc], G, ?_, h2⟩
  simp only [C]
  exact ⟨[], l.map a.eval, [], G, rfl, by simp [Cs], h1, rfl⟩
theorem V0s_append {o : Bool} {w : World} : ∀ {l m : List V0} {vs us : List Value} {F G : List Nat}, V0s o w l vs F → V0s o w m us G → V0s o w (l ++ m) (vs ++ us) (F ++ G)
 | [], m, vs, us, F, G, h1, h2 => by obtain ⟨rfl, rfl⟩ := h1; exact h2
 | x :: l, m, vs, us, F, G, ⟨v, vr, G1, G2, e1, h1, h3, e2⟩, h2 => ⟨v, vr ++ us, G1, G2 ++ G, by rw [e1]; rfl, h1, V0s_append h3 h2, by rw [e2]; simp⟩
theorem V0s_of_Cs {o : Bool} {w : World} : ∀ {ts : List T} {cs : List Value} {F : List Nat}, Cs o w ts cs F → V0s o w (ts.map .one) cs F
 | [], cs, F, h => by simp only [Cs] at h; exact h
 | t :: r, cs, F, h => by
  simp only [Cs] at h
  obtain ⟨c, cr, G1, G2, h1, h2, h3, h4⟩ := h
  exact ⟨c, cr, G1, G2, h1, h2, V0s_of_Cs h3, h4⟩
theorem R_callv {f : FuncId} {c : Operand} {l : List Operand} {tys : Array TypeId} {ins : List V0} {caps : List T} {out : V} (ho : o.op = .call { callee := .value c, args := l.toArray, argTypes := tys }) (hg : Grd ops o σ q) (hd : o.dst.all (fun d => Nat.blt d σ.n) = true)
 (hc : Get σ q c (.one (.t (.fn (.func f) [] caps)))) (ha : Args σ q l ins) (h : FrT P f (ins ++ caps.map .one) out) : Op1 P ops o σ (σ.put o.dst (q, inS out)) := by
 rintro w0 a w ⟨I, hr⟩ K Q hK
 rw [hg.wanted hr]
 cases q with
 | false => exact hK _ _ ⟨I, hr.put hd rfl⟩
 | true =>
  simp only [if_true]
  obtain ⟨F, hF⟩ := ha.ok hr rfl
  obtain ⟨Gc, hv, _⟩ := hc.va hr rfl
  simp only [C] at hv
  obtain ⟨xs, ys, G1, G2, e, h1, h2, rfl⟩ := hv
  simp only [Cs] at h1
  obtain ⟨rfl, rfl⟩ := h1
  have hrun : (execOp a.eval o).run P w = .ok (.enter f (l.map a.eval ++ ys).toArray) w := by
   obtain ⟨fn, k1, k2, k3⟩ := h.1
   have k2' : ¬ fn.name = "runtime.NumGoroutine" := by simpa using k2
   have k3' : ¬ fn.body = none := by intro e; rw [e] at k3; cases k3
   simp [execOp, ho, resolve, e, Deferred.ofValue, invoke, callFunc, k1, k2', k3']
  unfold Oper.wp
  rw [hrun]
  refine (h.2 w _ _ hr.good (V0s_append hF (V0s_of_Cs h2))).mono fun e w' hR => ?_
  obtain ⟨v, G, rfl, h1, h3, h4⟩ := hR
  have hr' := (hr.later h4).also (G := G) fun b hb => ⟨Vr.lt h1 b hb, fun i hi => by have := (hr.lt i b hi).1; have := h3 b hb; omega⟩
  exact hK _ _ ⟨_, hr'.put hd (VS_also h1 fun b hb => .inr hb)⟩
theorem Rws.drop {oo : Bool} {w : World} {b k : Nat} : ∀ {rs : List (List T)} {off : Nat} {F : List Nat}, Rws oo w b k off rs F → ∀ j, j ≤ rs.length → ∃ G, Rws oo w b k (off + j * k) (rs.drop j) G ∧ ∀ x ∈ G, x ∈ F
 | rs, off, F, h, 0, _ => ⟨F, by simpa using h, fun x hx => hx⟩
 | [], off, F, h, j + 1, hj => by simp at hj
 | r :: rs, off, F, h, j + 1, hj => by
  simp only [Rws] at h
  obtain ⟨G1, G2, h1, h2, h3, rfl⟩ := h
  obtain ⟨G, g1, g2⟩ := Rws.drop h3 j (by simpa using hj)
  refine ⟨G, ?_, fun x hx => by simp [g2 x hx]⟩
  rw [show off + (j + 1) * k = off + k + j * k by rw [Nat.succ_mul]; omega]
  exact g1
theorem Rws.take {oo : Bool} {w : World} {b k : Nat} : ∀ {rs : List (List T)} {off : Nat} {F : List Nat}, Rws oo w b k off rs F → ∀ j, ∃ G, Rws oo w b k off (rs.take j) G ∧ ∀ x ∈ G, x ∈ F
 | rs, off, F, h, 0 => ⟨[], by simp [Rws], by simp⟩
 | [], off, F, h, j + 1 => ⟨F, by simpa using h, fun x hx => hx⟩
 | r :: rs, off, F, h, j + 1 => by
  simp only [Rws] at h
  obtain ⟨G1, G2, h1, h2, h3, rfl⟩ := h
  obtain ⟨G, g1, g2⟩ := Rws.take h3 j
  refine ⟨G1 ++ G, ?_, fun x hx => ?_⟩
  · rw [List.take_succ_cons]
    simp only [Rws]
    exact ⟨G1, G, h1, h2, g1, rfl⟩
  · rcases List.mem_append.1 hx with hx | hx
    · simp [hx]
    · simp [g2 x hx]
inductive Bnd (σ : St) (q : Bool) : Option Operand → Nat → Nat → Prop where
 | no {d : Nat} : Bnd σ q none d d
 | yes {x : Operand} {d m : Nat} {n : Int} (h : Get σ q x (.one (.t (.v (.int .i64 n))))) (hn : q = true → n = (m : Int)) : Bnd σ q (some x) d m
theorem slice_C {w : World} {t e : TypeId} {k : Nat} {ag : Bool} {rows : List (List T)} {v : Value} {F : List Nat} {lo hi : Option Value} {n m : Nat} (hu : P.underlying t = some (.slice e)) (hk : tyB P e ag k = true) (hC : C false w (.sl k rows) v F)
 (hlo : lo = none ∧ n = 0 ∨ lo = some (.int .i64 (n : Int))) (hhi : hi = none ∧ m = rows.length ∨ hi = some (.int .i64 (m : Int))) (hm : m ≤ rows.length) (hn : n ≤ m) :
 ∃ v' F', (Instr.sliceAt t v lo hi none).run P w = .ok v' w ∧ C false w (.sl k ((rows.take m).drop n)) v' F' ∧ ∀ x ∈ F', x ∈ F := by
 simp only [C] at hC
 obtain ⟨a, len, cap, rfl, h2, h3, h4, h5⟩ := hC
 have hrun : (Instr.sliceAt t (.slice a len cap) lo hi none).run P w = .ok (.slice (if cap = n then a else a.map (·.add (n * k))) (m - n) (cap - n)) w := by
  have b1 : m ≤ cap := by omega
  have b2 : n ≤ len := by omega
  have b4 : rows.length ≤ cap := by omega
  rcases hlo with ⟨rfl, rfl⟩ | rfl <;> rcases hhi with ⟨rfl, rfl⟩ | rfl <;> simp [Instr.sliceAt, Instr.slice, run_underlying hu, Instr.sliceBounds, Instr.sliceBound, asIntOf, tyB_size hk, b1, b2, b4, hn, h2]
 rcases h5 with ⟨h6, rfl, _⟩ | ⟨b, off, G, rfl, rfl, h7, _, h8⟩
 · refine ⟨_, [], hrun, ?_, by simp⟩
   unfold C
   refine ⟨_, _, _, rfl, by simp; omega, by omega, by omega, .inl ⟨by omega, rfl, by simp⟩⟩
 · by_cases hmn : m = n
   · refine ⟨_, [], hrun, ?_, by simp⟩
     unfold C
     refine ⟨_, _, _, rfl, by simp; omega, by omega, by omega, .inl ⟨by omega, rfl, by simp⟩⟩
   · obtain ⟨G1, g1, g2⟩ := h8.take m
     obtain ⟨G2, g3, g4⟩ := g1.drop n (by simp; omega)
     refine ⟨_, b :: G2, hrun, ?_, fun x hx => ?_⟩
     · unfold C
       refine ⟨_, _, _, rfl, by simp; omega, by omega, by omega, .inr ⟨b, off + n * k, G2, ?_, rfl, h7, by simp, g3⟩⟩
       rw [if_neg (by omega)]
       simp [Addr.add_lit]
     · rcases List.mem_cons.1 hx with rfl | hx
       · simp
       · simp [g2 x (g4 x hx)]
theorem Bnd.val {x : Option Operand} {d n : Nat} (h : Bnd σ q x d n) {I : Ip} {w0 : Base} {w : World} {a : Act} (hr : RelI I w0 σ a w) (hq : q = true) : x.map a.eval = none ∧ n = d ∨ x.map a.eval = some (.int .i64 (n : Int)) := by
 cases h with
 | no => exact .inl ⟨rfl, rfl⟩
 | yes h hn => exact .inr (by simp [h.int hr hq, hn hq])
end
end Go.Q
