import Derived.Test.YtbkhopfpejhnlaaGreatDoorAbsEda
set_option linter.unusedVariables false
set_option linter.unusedSimpArgs false
namespace Go.Q
open Go.RowKit
section
variable {P : Program} {ops : Array Oper} {o : Oper} {σ : St} {q : Bool}
theorem guard_bool {op : BinOp} {t : TypeId} {x y : Operand} {n m : Bool} (w : World) : (eqGuard op t x y (.bool n) (.bool m)).run P w = .ok () w := by
 unfold eqGuard; split <;> rfl
theorem R_eqb {t t' : TypeId} {x y : Operand} {n m : Bool} (ho : o.op = .binOp .eql t x y t') (hg : Grd ops o σ q) (hd : o.dst.all (fun d => Nat.blt d σ.n) = true) (hx : Get σ q x (.one (.t (.v (.bool n))))) (hy : Get σ q y (.one (.t (.v (.bool m))))) (hu : P.underlying t = some .bool) :
 Op1 P ops o σ (σ.put o.dst (q, .a (.one (.t (.v (.bool (n == m))))))) := R_bin ho hg hd hx hy guard_bool (h := fun _ w => by simp [binOp, run_equal_bool w t n m hu])
theorem R_neb {t t' : TypeId} {x y : Operand} {n m : Bool} (ho : o.op = .binOp .neq t x y t') (hg : Grd ops o σ q) (hd : o.dst.all (fun d => Nat.blt d σ.n) = true) (hx : Get σ q x (.one (.t (.v (.bool n))))) (hy : Get σ q y (.one (.t (.v (.bool m))))) (hu : P.underlying t = some .bool) :
 Op1 P ops o σ (σ.put o.dst (q, .a (.one (.t (.v (.bool (!(n == m)))))))) := R_bin ho hg hd hx hy guard_bool (h := fun _ w => by simp [binOp, run_equal_bool w t n m hu])
def plain : List E → Option (List Value)
 | [] => some []
 | e :: r => match e with
  | .t (.v x) => (match plain r with | some l => some (x :: l) | none => none)
  | _ => none
theorem plain_ok {I : Ip} {w : World} : ∀ {l : List E} {us cs : List Value}, plain l = some us → VEs I w l cs → cs = us
 | [], us, cs, h, hv => by
  have h' : cs = [] := hv
  simp only [plain, Option.some.injEq] at h
  rw [h', h]
 | e :: r, us, cs, h, hv => by
  obtain ⟨c, cr, rfl, h1, h2⟩ := hv
  match e, h, h1 with
  | .t (.v x), h, h1 =>
   simp only [plain] at h
   split at h
   · rename_i l hl
     cases h
     obtain ⟨G, g1, _⟩ := h1
     simp only [C] at g1
     rw [g1.1, plain_ok hl h2]
   · cases h
theorem R_eqs {op : BinOp} {t t' : TypeId} {x y : Operand} {l1 l2 : List E} {us vs : List Value} {b : Bool} (ho : o.op = .binOp op t x y t') (hg : Grd ops o σ q) (hd : o.dst.all (fun d => Nat.blt d σ.n) = true) (hx : Get σ q x (.agg l1)) (hy : Get σ q y (.agg l2))
 (h1 : plain l1 = some us) (h2 : plain l2 = some vs) (hG : P.eqGuardType P.depth t = false) (hb : ∀ w, (binOp op t (.agg us.toArray) (.agg vs.toArray)).run P w = .ok (.bool b) w) : Op1 P ops o σ (σ.put o.dst (q, .a (.one (.t (.v (.bool b)))))) :=
 .val hg hd fun I w0 a w hr hq => by
  obtain ⟨c1, e1, g1⟩ := hx.va hr hq
  obtain ⟨c2, e2, g2⟩ := hy.va hr hq
  obtain rfl := plain_ok h1 g1
  obtain rfl := plain_ok h2 g2
  exact ⟨.bool b, by simp [execOp, ho, e1, e2, run_eqGuard_agg w op t x y _ _ hG, hb], VS_v _⟩
def GetsT (σ : St) (q : Bool) : List Operand → List T → Prop
 | [], ts => ts = []
 | x :: r, ts => ∃ t tr, ts = t :: tr ∧ Get σ q x (.one (.t t)) ∧ GetsT σ q r tr
theorem GetsT.ok {I : Ip} {w0 : Base} {w : World} {a : Act} (hr : RelI I w0 σ a w) : ∀ {l : List Operand} {ts : List T}, GetsT σ true l ts → ∃ G, Cs false w ts (l.map a.eval) G ∧ ∀ b ∈ G, I.Z b
 | [], ts, h => by cases h; exact ⟨[], by simp [Cs], by simp⟩
 | x :: r, ts, ⟨t, tr, e, h1, h2⟩ => by
  subst e
  obtain ⟨G1, g1, g2⟩ := h1.va hr rfl
  obtain ⟨G2, g3, g4⟩ := GetsT.ok hr h2
  refine ⟨G1 ++ G2, by simp only [List.map_cons, Cs]; exact ⟨_, _, G1, G2, rfl, g1, g3, rfl⟩, fun b hb => ?_⟩
  rcases List.mem_append.1 hb with hb | hb
  · exact g2 b hb
  · exact g4 b hb
theorem GetsT.nil : GetsT σ q [] [] := rfl
theorem GetsT.cons {x : Operand} {r : List Operand} {t : T} {tr : List T} (h : Get σ q x (.one (.t t))) (hr : GetsT σ q r tr) : GetsT σ q (x :: r) (t :: tr) := ⟨t, tr, rfl, h, hr⟩
theorem R_makeFunc {f : FuncId} {l : List Operand} {ts : List T} (ho : o.op = .makeFunc (.func f) #[] l.toArray) (hg : Grd ops o σ q) (hd : o.dst.all (fun d => Nat.blt d σ.n) = true) (hx : GetsT σ true l ts) : Op1 P ops o σ (σ.put o.dst (q, .a (.one (.t (.fn (.func f) [] ts))))) :=
 .val hg hd fun I w0 a w hr hq => by
  obtain ⟨G, h1, h2⟩ := hx.ok hr
  refine ⟨.func (.func f) #[] (l.map a.eval).toArray, by simp [execOp, ho, Instr.makeFunc], G, ?_, h2⟩
  simp only [C]
  exact ⟨[], l.map a.eval, [], G, rfl, by simp [Cs], h1, rfl⟩
theorem V0s_append {o : Bool} {w : World} : ∀ {l m : List V0} {vs us : List Value} {F G : List Nat}, V0s o w l vs F → V0s o w m us G → V0s o w (l ++ m) (vs ++ us) (F ++ G)
 | [], m, vs, us, F, G, h1, h2 => by obtain ⟨rfl, rfl⟩ := h1; exact h2
 | x :: l, m, vs, us, F, G, ⟨v, vr, G1, G2, e1, h1, h3, e2⟩, h2 => ⟨v, vr ++ us, G1, G2 ++ G, by rw [e1]; rfl, h1, V0s_append h3 h2, by rw [e2]; simp⟩
theorem V0s_of_Cs {o : Bool} {w : World} : ∀ {ts : List T} {cs : List Value} {F : List Nat}, Cs o w ts cs F → V0s o w (ts.map .one) cs F
 | [], cs, F, h => by simp only [Cs] at h; exact h
 | t :: r, cs, F, h => by
  simp only [Cs] at h
  obtain ⟨c, cr, G1, G2, h1, h2, h3, h4⟩ := h
  exact ⟨c, cr, G1, G2, h1, h2, V0s_of_Cs h3, h4⟩
theorem R_callv {f : FuncId} {c : Operand} {l : List Operand} {tys : Array TypeId} {ins : List V0} {caps : List T} {out : V} (ho : o.op = .call { callee := .value c, args := l.toArray, argTypes := tys }) (hg : Grd ops o σ q) (hd : o.dst.all (fun d => Nat.blt d σ.n) = true)
 (hc : Get σ q c (.one (.t (.fn (.func f) [] caps)))) (ha : Args σ q l ins) (h : FrT P f (ins ++ caps.map .one) out) : Op1 P ops o σ (σ.put o.dst (q, inS out)) := by
 rintro w0 a w ⟨I, hr⟩ K Q hK
 rw [hg.wanted hr]
 cases q with
 | false => exact hK _ _ ⟨I, hr.put hd rfl⟩
 | true =>
  simp only [if_true]
  obtain ⟨F, hF⟩ := ha.ok hr rfl
  obtain ⟨Gc, hv, _⟩ := hc.va hr rfl
  simp only [C] at hv
  obtain ⟨xs, ys, G1, G2, e, h1, h2, rfl⟩ := hv
  simp only [Cs] at h1
  obtain ⟨rfl, rfl⟩ := h1
  have hrun : (execOp a.eval o).run P w = .ok (.enter f (l.map a.eval ++ ys).toArray) w := by
   obtain ⟨fn, k1, k2, k3⟩ := h.1
   have k2' : ¬ fn.name = "runtime.NumGoroutine" := by simpa using k2
   have k3' : ¬ fn.body = none := by intro e; rw [e] at k3; cases k3
   simp [execOp, ho, resolve, e, Deferred.ofValue, invoke, callFunc, k1, k2', k3']
  unfold Oper.wp
  rw [hrun]
  refine (h.2 w _ _ hr.good (V0s_append hF (V0s_of_Cs h2))).mono fun e w' hR => ?_
  obtain ⟨v, G, rfl, h1, h3, h4⟩ := hR
  have hr' := (hr.later h4).also (G := G) fun b hb => ⟨Vr.lt h1 b hb, fun i hi => by have := (hr.lt i b hi).1; have := h3 b hb; omega⟩
  exact hK _ _ ⟨_, hr'.put hd (VS_also h1 fun b hb => .inr hb)⟩
theorem Rws.drop {oo : Bool} {w : World} {b k : Nat} : ∀ {rs : List (List T)} {off : Nat} {F : List Nat}, Rws oo w b k off rs F → ∀ j, j ≤ rs.length → ∃ G, Rws oo w b k (off + j * k) (rs.drop j) G ∧ ∀ x ∈ G, x ∈ F
 | rs, off, F, h, 0, _ => ⟨F, by simpa using h, fun x hx => hx⟩
 | [], off, F, h, j + 1, hj => by simp at hj
 | r :: rs, off, F, h, j + 1, hj => by
  simp only [Rws] at h
  obtain ⟨G1, G2, h1, h2, h3, rfl⟩ := h
  obtain ⟨G, g1, g2⟩ := Rws.drop h3 j (by simpa using hj)
  refine ⟨G, ?_, fun x hx => by simp [g2 x hx]⟩
  rw [show off + (j + 1) * k = off + k + j * k by rw [Nat.succ_mul]; omega]
  exact g1
theorem Rws.take {oo : Bool} {w : World} {b k : Nat} : ∀ {rs : List (List T)} {off : Nat} {F : List Nat}, Rws oo w b k off rs F → ∀ j, ∃ G, Rws oo w b k off (rs.take j) G ∧ ∀ x ∈ G, x ∈ F
 | rs, off, F, h, 0 => ⟨[], by simp [Rws], by simp⟩
 | [], off, F, h, j + 1 => ⟨F, by simpa using h, fun x hx => hx⟩
 | r :: rs, off, F, h, j + 1 => by
  simp only [Rws] at h
  obtain ⟨G1, G2, h1, h2, h3, rfl⟩ := h
  obtain ⟨G, g1, g2⟩ := Rws.take h3 j
  refine ⟨G1 ++ G, ?_, fun x hx => ?_⟩
  · rw [List.take_succ_cons]
    simp only [Rws]
    exact ⟨G1, G, h1, h2, g1, rfl⟩
  · rcases List.mem_append.1 hx with hx | hx
    · simp [hx]
    · simp [g2 x hx]
inductive Bnd (σ : St) (q : Bool) : Option Operand → Nat → Nat → Prop where
 | no {d : Nat} : Bnd σ q none d d
 | yes {x : Operand} {d m : Nat} {n : Int} (h : Get σ q x (.one (.t (.v (.int .i64 n))))) (hn : q = true → n = (m : Int)) : Bnd σ q (some x) d m
theorem slice_C {w : World} {t e : TypeId} {k : Nat} {ag : Bool} {rows : List (List T)} {v : Value} {F : List Nat} {lo hi : Option Value} {n m : Nat} (hu : P.underlying t = some (.slice e)) (hk : tyB P e ag k = true) (hC : C false w (.sl k rows) v F)
 (hlo : lo = none ∧ n = 0 ∨ lo = some (.int .i64 (n : Int))) (hhi : hi = none ∧ m = rows.length ∨ hi = some (.int .i64 (m : Int))) (hm : m ≤ rows.length) (hn : n ≤ m) :
 ∃ v' F', (Instr.sliceAt t v lo hi none).run P w = .ok v' w ∧ C false w (.sl k ((rows.take m).drop n)) v' F' ∧ ∀ x ∈ F', x ∈ F := by
 simp only [C] at hC
 obtain ⟨a, len, cap, rfl, h2, h3, h4, h5⟩ := hC
 have hrun : (Instr.sliceAt t (.slice a len cap) lo hi none).run P w = .ok (.slice (if cap = n then a else a.map (·.add (n * k))) (m - n) (cap - n)) w := by
  have b1 : m ≤ cap := by omega
  have b2 : n ≤ len := by omega
  have b4 : rows.length ≤ cap := by omega
  rcases hlo with ⟨rfl, rfl⟩ | rfl <;> rcases hhi with ⟨rfl, rfl⟩ | rfl <;> simp [Instr.sliceAt, Instr.slice, run_underlying hu, Instr.sliceBounds, Instr.sliceBound, asIntOf, tyB_size hk, b1, b2, b4, hn, h2]
 rcases h5 with ⟨h6, rfl, _⟩ | ⟨b, off, G, rfl, rfl, h7, _, h8⟩
 · refine ⟨_, [], hrun, ?_, by simp⟩
   unfold C
   refine ⟨_, _, _, rfl, by simp; omega, by omega, by omega, .inl ⟨by omega, rfl, by simp⟩⟩
 · by_cases hmn : m = n
   · refine ⟨_, [], hrun, ?_, by simp⟩
     unfold C
     refine ⟨_, _, _, rfl, by simp; omega, by omega, by omega, .inl ⟨by omega, rfl, by simp⟩⟩
   · obtain ⟨G1, g1, g2⟩ := h8.take m
     obtain ⟨G2, g3, g4⟩ := g1.drop n (by simp; omega)
     refine ⟨_, b :: G2, hrun, ?_, fun x hx => ?_⟩
     · unfold C
       refine ⟨_, _, _, rfl, by simp; omega, by omega, by omega, .inr ⟨b, off + n * k, G2, ?_, rfl, h7, by simp, g3⟩⟩
       rw [if_neg (by omega)]
       simp [Addr.add_lit]
     · rcases List.mem_cons.1 hx with rfl | hx
       · simp
       · simp [g2 x (g4 x hx)]
theorem Bnd.val {x : Option Operand} {d n : Nat} (h : Bnd σ q x d n) {I : Ip} {w0 : Base} {w : World} {a : Act} (hr : RelI I w0 σ a w) (hq : q = true) : x.map a.eval = none ∧ n = d ∨ x.map a.eval = some (.int .i64 (n : Int)) := by
 cases h with
 | no => exact .inl ⟨rfl, rfl⟩
 | yes h hn => exact .inr (by simp [h.int hr hq, hn hq])
end
end Go.Q
