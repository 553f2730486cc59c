import Derived.Test.YtamnfkfjfelbbaaAbs2xw
import Derived.Deep.LoopGhost
set_option linter.unusedVariables false
set_option linter.unusedSimpArgs false
namespace Go.Q
open Go.RowKit
def lift (w0 : Base) (Q : Exit → St → Prop) : Exit → Act → World → Prop := fun e a w => ∃ σ, Q e σ ∧ Rel w0 σ a w
def AW (P : Program) (w0 : Base) (c : Code) (Q : Exit → St → Prop) (σ : St) : Prop := ∀ a w, Rel w0 σ a w → c.wp P (lift w0 Q) a w
def AWl (P : Program) (w0 : Base) (ops : Array Oper) (Q : Exit → St → Prop) (l : List Oper) (σ : St) : Prop := ∀ a w, Rel w0 σ a w → wpList P ops (lift w0 Q) l a w
def Le (σ σ' : St) : Prop := ∀ w0 a w, Rel w0 σ a w → Rel w0 σ' a w
theorem Le.refl (σ : St) : Le σ σ := fun _ _ _ h => h
inductive Get (σ : St) (q : Bool) : Operand → A → Prop where
 | tmp {i : Nat} {p : Bool} {x : A} (h : look σ.slots i = some (p, .a x)) (hp : q = true → p = true) : Get σ q (.tmp i) x
 | const {v : Value} (h : v.oneCell' = true) : Get σ q (.const v) (.one (.t (.v v)))
 | func {f : FuncId} : Get σ q (.func f) (.one (.t (.fn (.func f) [] [])))
theorem Get.va {σ : St} {q : Bool} {x : Operand} {A0 : A} (h : Get σ q x A0) {I : Ip} {w0 : Base} {w : World} {a : Act} (hr : RelI I w0 σ a w) (hq : q = true) : VA I w A0 (a.eval x) := by
 cases h with
 | tmp h hp =>
  have := hr.slots _ _ h
  rw [hp hq] at this
  exact this
 | const h => exact ⟨[], by simp [C, Act.eval, h], by simp⟩
 | func => exact ⟨[], by simp only [C]; exact ⟨[], [], [], [], rfl, by simp [Cs], by simp [Cs], rfl⟩, by simp⟩
theorem Get.int {σ : St} {q : Bool} {x : Operand} {v : Value} (h : Get σ q x (.one (.t (.v v)))) {I : Ip} {w0 : Base} {w : World} {a : Act} (hr : RelI I w0 σ a w) (hq : q = true) : a.eval x = v := by
 obtain ⟨G, h1, _⟩ := h.va hr hq
 simp only [C] at h1
 exact h1.1
section
variable {P : Program} {w0 : Base} {Q : Exit → St → Prop} {σ : St}
theorem AW.le {c : Code} {σ' : St} (hl : Le σ σ') (h : AW P w0 c Q σ') : AW P w0 c Q σ := fun a w hr => h a w (hl w0 a w hr)
def ThenQ (K : St → Prop) (Q : Exit → St → Prop) : Exit → St → Prop
 | .normal, σ => K σ
 | e, σ => Q e σ
theorem AW.seq {x y : Code} (h : AW P w0 x (ThenQ (AW P w0 y Q) Q) σ) : AW P w0 (.seq x y) Q σ := fun a w hr => by
 refine wp_seq (wp_mono (h a w hr) ?_)
 rintro e a' w' ⟨σ', h1, h2⟩
 cases e with
 | normal => exact h1 a' w' h2
 | exit id => exact ⟨σ', h1, h2⟩
 | goto l => exact ⟨σ', h1, h2⟩
 | ret => exact ⟨σ', h1, h2⟩
 | panic c => exact ⟨σ', h1, h2⟩
 | outgrown => exact ⟨σ', h1, h2⟩
def BlockQ (id : Nat) (Q : Exit → St → Prop) : Exit → St → Prop
 | .exit i, σ => bif Nat.beq i id then Q .normal σ else Q (.exit i) σ
 | e, σ => Q e σ
theorem AW.block {id : Nat} {c : Code} (h : AW P w0 c (BlockQ id Q) σ) : AW P w0 (.block id c) Q σ := fun a w hr => by
 refine wp_block (wp_mono (h a w hr) ?_)
 rintro e a' w' ⟨σ', h1, h2⟩
 cases e with
 | normal => exact ⟨σ', h1, h2⟩
 | exit i =>
  simp only [BlockQ] at h1
  simp only [Exit.inBlock]
  split
  · rename_i e; subst e; simp only [Nat.beq_refl, cond_true] at h1; exact ⟨σ', h1, h2⟩
  · rename_i e
    have eb : Nat.beq i id = false := by
     cases hb : Nat.beq i id with
     | false => rfl
     | true => exact absurd (Nat.eq_of_beq_eq_true hb) e
    simp only [eb, cond_false] at h1; exact ⟨σ', h1, h2⟩
 | goto l => exact ⟨σ', h1, h2⟩
 | ret => exact ⟨σ', h1, h2⟩
 | panic c => exact ⟨σ', h1, h2⟩
 | outgrown => exact ⟨σ', h1, h2⟩
theorem AW.skip (h : Q .normal σ) : AW P w0 .skip Q σ := fun _ _ hr => wp_skip ⟨σ, h, hr⟩
theorem AW.ret (h : Q .ret σ) : AW P w0 .ret Q σ := fun _ _ hr => wp_ret ⟨σ, h, hr⟩
theorem AW.exit {id : Nat} (h : Q (.exit id) σ) : AW P w0 (.exit id) Q σ := fun _ _ hr => wp_exit ⟨σ, h, hr⟩
theorem AW.cond {c : Operand} {x y : Code} {b : Bool} (hc : Get σ true c (.one (.t (.v (.bool b))))) (ht : b = true → AW P w0 x Q σ) (hf : b = false → AW P w0 y Q σ) : AW P w0 (.cond c x y) Q σ := fun a w hr => by
 obtain ⟨I, hI⟩ := hr
 exact wp_cond_split (hc.int hI rfl) (fun e => ht e a w ⟨I, hI⟩) (fun e => hf e a w ⟨I, hI⟩)
def Round {β : Type} (Inv : β → Prop) (J : β → St) (m : β → Nat) (x : β) (Q : Exit → St → Prop) : Exit → St → Prop := ThenQ (fun σ => ∃ y, Inv y ∧ m y < m x ∧ Le σ (J y)) Q
theorem AW.loop {β : Type} (Inv : β → Prop) (J : β → St) (m : β → Nat) (x0 : β) {c : Code} (h0 : Inv x0) (hs : Le σ (J x0)) (round : ∀ x, Inv x → AW P w0 c (Round Inv J m x Q) (J x)) : AW P w0 (.loop c) Q σ := fun a w hr => by
 refine wp_loop_ghost (fun n a w => ∃ x, Inv x ∧ m x = n ∧ Rel w0 (J x) a w) (m x0) ⟨x0, h0, rfl, hs w0 a w hr⟩ ?_
 rintro n a w ⟨x, hx, rfl, hr⟩
 refine wp_mono (round x hx a w hr) ?_
 rintro e a' w' ⟨σ', h1, h2⟩
 cases e with
 | normal =>
  obtain ⟨y, hy, hm, hl⟩ := h1
  exact ⟨m y, hm, y, hy, rfl, hl w0 a' w' h2⟩
 | exit id => exact ⟨σ', h1, h2⟩
 | goto l => exact ⟨σ', h1, h2⟩
 | ret => exact ⟨σ', h1, h2⟩
 | panic c => exact ⟨σ', h1, h2⟩
 | outgrown => exact ⟨σ', h1, h2⟩
theorem Round.next {β : Type} {Inv : β → Prop} {J : β → St} {m : β → Nat} {x : β} (y : β) (h1 : Inv y) (h2 : m y < m x) (h3 : Le σ (J y)) : Round Inv J m x Q .normal σ := ⟨y, h1, h2, h3⟩
theorem AW.region {id : Nat} {l : List Oper} (h : AWl P w0 l.toArray Q l σ) : AW P w0 (.region id l.toArray false) Q σ := fun a w hr => wp_region_lit (h a w hr)
theorem AWl.nil {ops : Array Oper} (h : Q .normal σ) : AWl P w0 ops Q [] σ := fun _ _ hr => wpList_nil ⟨σ, h, hr⟩
def Op1 (P : Program) (ops : Array Oper) (o : Oper) (σ σ' : St) : Prop := ∀ w0 a w, Rel w0 σ a w → ∀ (K : Act → World → Prop) (Q : Exit → Act → World → Prop), (∀ a' w', Rel w0 σ' a' w' → K a' w') →
 if Region.wanted o (yielded ops a.tmps) then o.wp P a w K Q else K (a.put o.dst undef) w
theorem AWl.op {ops : Array Oper} {o : Oper} {l : List Oper} {σ' : St} (ho : Op1 P ops o σ σ') (h : AWl P w0 ops Q l σ') : AWl P w0 ops Q (o :: l) σ := fun a w hr =>
 wpList_step fun K hK => ho w0 a w hr K _ fun a' w' hr' => hK a' w' (h a' w' hr')
end
inductive Grd (ops : Array Oper) (o : Oper) (σ : St) : Bool → Prop where
 | no (hg : o.guard = none) : Grd ops o σ true
 | yes {j d : Nat} {p b : Bool} (hg : o.guard = some (j, true)) (hd : (ops[j]?).bind (·.dst) = some d) (h : look σ.slots d = some (p, .a (.one (.t (.v (.bool b)))))) (hn : Nat.blt d σ.n = true) : Grd ops o σ (p && b)
 | not {j d : Nat} {p b : Bool} (hg : o.guard = some (j, false)) (hd : (ops[j]?).bind (·.dst) = some d) (h : look σ.slots d = some (p, .a (.one (.t (.v (.bool b)))))) (hn : Nat.blt d σ.n = true) : Grd ops o σ (p && !b)
 | yes1 {j d : Nat} {b : Bool} (hg : o.guard = some (j, true)) (hd : (ops[j]?).bind (·.dst) = some d) (h : look σ.slots d = some (true, .a (.one (.t (.v (.bool b)))))) (hn : Nat.blt d σ.n = true) : Grd ops o σ b
 | not1 {j d : Nat} {b : Bool} (hg : o.guard = some (j, false)) (hd : (ops[j]?).bind (·.dst) = some d) (h : look σ.slots d = some (true, .a (.one (.t (.v (.bool b)))))) (hn : Nat.blt d σ.n = true) : Grd ops o σ (!b)
theorem yield_of {ops : Array Oper} {σ : St} {I : Ip} {w0 : Base} {w : World} {a : Act} (hr : RelI I w0 σ a w) {j d : Nat} {p b : Bool} (hd : (ops[j]?).bind (·.dst) = some d) (h : look σ.slots d = some (p, .a (.one (.t (.v (.bool b)))))) (hn : Nat.blt d σ.n = true) :
 yielded ops a.tmps j = if p = true then some b else none := by
 have hdn : d < a.tmps.size := by rw [hr.size]; exact Nat.le_of_ble_eq_true hn
 have hv := hr.slots d _ h
 unfold yielded
 rw [hd]
 simp only [Option.bind_some, Array.getElem?_eq_getElem hdn]
 rw [Array.getD_eq_getD_getElem?, Array.getElem?_eq_getElem hdn, Option.getD_some] at hv
 cases p with
 | false =>
  have hv' : a.tmps[d] = undef := hv
  rw [hv']; rfl
 | true =>
  obtain ⟨G, h1, _⟩ : VA I w (.one (.t (.v (.bool b)))) a.tmps[d] := hv
  simp only [C] at h1
  rw [h1.1]; rfl
theorem Grd.wanted {ops : Array Oper} {o : Oper} {σ : St} {q : Bool} (h : Grd ops o σ q) {I : Ip} {w0 : Base} {w : World} {a : Act} (hr : RelI I w0 σ a w) : Region.wanted o (yielded ops a.tmps) = q := by
 cases h with
 | no hg => simp [Region.wanted, hg]
 | yes hg hd h hn =>
  rename_i p b
  simp only [Region.wanted, hg]
  rw [yield_of hr hd h hn]
  cases p <;> cases b <;> rfl
 | not hg hd h hn =>
  rename_i p b
  simp only [Region.wanted, hg]
  rw [yield_of hr hd h hn]
  cases p <;> cases b <;> rfl
 | yes1 hg hd h hn =>
  simp only [Region.wanted, hg]
  rw [yield_of hr hd h hn]
  cases q <;> rfl
 | not1 hg hd h hn =>
  rename_i b
  simp only [Region.wanted, hg]
  rw [yield_of hr hd h hn]
  cases b <;> rfl
theorem Op1.val {P : Program} {ops : Array Oper} {o : Oper} {σ : St} {q : Bool} {x : S} (hg : Grd ops o σ q) (hd : o.dst.all (fun d => Nat.blt d σ.n) = true)
 (h : ∀ I w0 a w, RelI I w0 σ a w → q = true → ∃ v, (execOp a.eval o).run P w = .ok (.value v) w ∧ VS I w (true, x) v) : Op1 P ops o σ (σ.put o.dst (q, x)) := by
 rintro w0 a w ⟨I, hI⟩ K Q hK
 rw [hg.wanted hI]
 cases q with
 | true =>
  simp only [if_true]
  obtain ⟨v, h1, h2⟩ := h I w0 a w hI rfl
  unfold Oper.wp
  rw [h1]
  exact hK _ _ ⟨I, hI.put hd h2⟩
 | false => exact hK _ _ ⟨I, hI.put hd rfl⟩
inductive V0 where
 | one (t : T)
 | agg (l : List T)
inductive V where
 | a (x : V0)
 | tup (l : List V0)
def V0r (o : Bool) (w : World) : V0 → Value → List Nat → Prop
 | .one t, v, F => C o w t v F
 | .agg l, v, F => ∃ cs, v = .agg (List.toArray cs) ∧ Cs o w l cs F
def V0s (o : Bool) (w : World) : List V0 → List Value → List Nat → Prop
 | [], vs, F => vs = [] ∧ F = []
 | x :: r, vs, F => ∃ v vr G1 G2, vs = v :: vr ∧ V0r o w x v G1 ∧ V0s o w r vr G2 ∧ F = G1 ++ G2
def Vr (o : Bool) (w : World) : V → Value → List Nat → Prop
 | .a x, v, F => V0r o w x v F
 | .tup l, v, F => ∃ vs, v = .tuple (List.toArray vs) ∧ V0s o w l vs F
def FnPost (w : World) (out : V) (e : Ending) (w' : World) : Prop := ∃ v F, e = .returned v ∧ Vr true w' out v F ∧ F.Nodup ∧ (∀ b ∈ F, w.heap.size ≤ b ∧ Thaw w' b) ∧ Ext w w'
def Callee (P : Program) (f : FuncId) : Prop := ∃ fn, P.funcs[f]? = some fn ∧ (fn.name == "runtime.NumGoroutine") = false ∧ fn.body.isNone = false
def FnT (P : Program) (f : FuncId) (ins : List V0) (out : V) : Prop := Callee P f ∧ ∀ w vs F, Good w [] → V0s false w ins vs F → Calls P f (List.toArray vs) w (FnPost w out)
def FrPost (w : World) (out : V) (e : Ending) (w' : World) : Prop := ∃ v F, e = .returned v ∧ Vr false w' out v F ∧ (∀ b ∈ F, w.heap.size ≤ b) ∧ Ext w w'
def FrT (P : Program) (f : FuncId) (ins : List V0) (out : V) : Prop := Callee P f ∧ ∀ w vs F, Good w [] → V0s false w ins vs F → Calls P f (List.toArray vs) w (FrPost w out)
theorem V0r.read {w : World} {x : V0} {v : Value} {F : List Nat} (h : V0r true w x v F) : V0r false w x v F := by
 cases x with
 | one t => exact C.read h
 | agg l => obtain ⟨cs, h1, h2⟩ := h; exact ⟨cs, h1, h2.read⟩
theorem V0s.read {w : World} : ∀ {l : List V0} {vs : List Value} {F : List Nat}, V0s true w l vs F → V0s false w l vs F
 | [], _, _, h => h
 | _ :: _, _, _, ⟨v, vr, G1, G2, h1, h2, h3, h4⟩ => ⟨v, vr, G1, G2, h1, h2.read, h3.read, h4⟩
theorem Vr.read {w : World} {x : V} {v : Value} {F : List Nat} (h : Vr true w x v F) : Vr false w x v F := by
 cases x with
 | a x => exact V0r.read h
 | tup l => obtain ⟨vs, h1, h2⟩ := h; exact ⟨vs, h1, h2.read⟩
theorem FnT.fr {P : Program} {f : FuncId} {ins : List V0} {out : V} (h : FnT P f ins out) : FrT P f ins out := ⟨h.1, fun w vs F hg hv => (h.2 w vs F hg hv).mono fun _ _ ⟨v, F, h1, h2, _, h4, h3⟩ => ⟨v, F, h1, h2.read, fun b hb => (h4 b hb).1, h3⟩⟩
def Res (P : Program) (fn : Func) (o : Bool) (out : V) (σ : St) : Prop := ∀ I w0 a w, RelI I w0 σ a w → ∃ v F, (results fn a.tmps).run P w = .ok v w ∧ Vr o w out v F ∧ (∀ b ∈ F, w0.own b) ∧ (o = true → F.Nodup ∧ ∀ b ∈ F, Thaw w b)
def RetQ (P : Program) (fn : Func) (o : Bool) (out : V) : Exit → St → Prop
 | .normal, σ => Res P fn o out σ
 | .ret, σ => Res P fn o out σ
 | _, _ => False
def inA : V0 → A
 | .one t => .one (.t t)
 | .agg l => .agg (l.map .t)
def inSlots : Nat → List V0 → List (Nat × (Bool × S))
 | _, [] => []
 | i, x :: r => (i, (true, .a (inA x))) :: inSlots (i + 1) r
def st0 (n : Nat) (ins : List V0) : St := ⟨n, inSlots 0 ins, []⟩
def ip0 (w : World) : Ip := ⟨fun b => b < w.heap.size, fun _ => [], fun _ => undef, fun _ => 0⟩
theorem VEs_in {w : World} : ∀ {l : List T} {cs : List Value} {F : List Nat}, Cs false w l cs F → VEs (ip0 w) w (l.map .t) cs
 | [], cs, F, h => by simp only [Cs] at h; exact h.1
 | t :: r, cs, F, h => by
  simp only [Cs] at h
  obtain ⟨c, cr, G1, G2, h1, h2, h3, _⟩ := h
  exact ⟨c, cr, h1, ⟨G1, h2, fun b hb => h2.lt b hb⟩, VEs_in h3⟩
theorem VA_in {w : World} {x : V0} {v : Value} {F : List Nat} (h : V0r false w x v F) : VA (ip0 w) w (inA x) v := by
 cases x with
 | one t => exact ⟨F, h, fun b hb => C.lt h b hb⟩
 | agg l => obtain ⟨cs, h1, h2⟩ := h; exact ⟨cs, h1, VEs_in h2⟩
theorem in_slots {w : World} : ∀ {ins : List V0} {vs : List Value} {F : List Nat} (k : Nat), V0s false w ins vs F → (vs.length = ins.length) ∧ ∀ i x, look (inSlots k ins) i = some x → ∃ v, vs[i - k]? = some v ∧ k ≤ i ∧ VS (ip0 w) w x v
 | [], vs, F, k, h => by obtain ⟨rfl, _⟩ := h; exact ⟨rfl, fun i x hi => by cases hi⟩
 | y :: r, vs, F, k, h => by
  obtain ⟨v, vr, G1, G2, rfl, h2, h3, _⟩ := h
  obtain ⟨g1, g2⟩ := in_slots (k + 1) h3
  refine ⟨by simp [g1], fun i x hi => ?_⟩
  rw [inSlots, look_cons] at hi
  by_cases e : k = i
  · subst e
    rw [if_pos rfl] at hi
    cases hi
    exact ⟨v, by simp, Nat.le_refl _, VA_in h2⟩
  · rw [if_neg e] at hi
    obtain ⟨u, h4, h5, h6⟩ := g2 i x hi
    exact ⟨u, by rw [show i - k = (i - (k + 1)) + 1 by omega]; simpa using h4, by omega, h6⟩
theorem rel0 {w : World} (hG : Good w []) {ins : List V0} {vs : List Value} {F : List Nat} (h : V0s false w ins vs F) {n : Nat} (hn : Nat.ble ins.length n = true) : Rel ⟨w, [], hG⟩ (st0 n ins) ⟨vs.toArray ++ Array.replicate (n - vs.toArray.size) undef, []⟩ w := by
 obtain ⟨h1, h2⟩ := in_slots 0 h
 have hn' : ins.length ≤ n := Nat.le_of_ble_eq_true hn
 refine ⟨ip0 w, Chg.refl w [], rfl, by simp [h1, st0]; omega, fun i x hi => ?_, fun id r hi => (by cases hi), fun b hb => hb, fun id b hb => (by cases hb), fun id r hi => (by cases hi), fun i j _ b hb => (by cases hb)⟩
 obtain ⟨v, h3, _, h5⟩ := h2 i x hi
 have hl : i < vs.length := (List.getElem?_eq_some_iff.1 h3).1
 have e : (vs.toArray ++ Array.replicate (n - vs.toArray.size) undef).getD i undef = v := by
  rw [Array.getD_eq_getD_getElem?, Array.getElem?_append_left (by simpa using hl)]
  simp at h3
  simp [h3]
 rw [e]; exact h5
theorem FnT.intro {P : Program} {f : FuncId} {fn : Func} {c : Code} {ins : List V0} {out : V} (hf : P.funcs[f]? = some fn) (hb : fn.body = some c) (hname : (fn.name == "runtime.NumGoroutine") = false) (hn : Nat.ble ins.length fn.ntmps = true)
 (h : ∀ w0, AW P w0 c (RetQ P fn true out) (st0 fn.ntmps ins)) : FnT P f ins out := ⟨⟨fn, hf, hname, by rw [hb]; rfl⟩, fun w vs F hG hv => by
 refine calls_of_wp hf hb (Code.wp_mono ?_ (h ⟨w, [], hG⟩ _ _ (rel0 hG hv hn)))
 rintro e a' w' ⟨σ, h1, I, hI⟩
 have key : Res P fn true out σ → a'.defers = [] ∧ ∃ v, (results fn a'.tmps).run P w' = .ok v w' ∧ FnPost w out (.returned v) w' := fun h1 => by
  obtain ⟨v, F, g1, g2, g3⟩ := h1 I ⟨w, [], hG⟩ a' w' hI
  exact ⟨hI.defers, v, g1, v, F, rfl, g2, (g3.2 rfl).1, fun b hb => ⟨(g3.1 b hb).resolve_right (by simp), (g3.2 rfl).2 b hb⟩, hI.ext.toExt⟩
 cases e with
 | normal => exact key h1
 | ret => exact key h1
 | exit id => exact h1.elim
 | goto l => exact h1.elim
 | panic c => exact h1.elim
 | outgrown => exact h1.elim⟩
theorem FrT.intro {P : Program} {f : FuncId} {fn : Func} {c : Code} {ins : List V0} {out : V} (hf : P.funcs[f]? = some fn) (hb : fn.body = some c) (hname : (fn.name == "runtime.NumGoroutine") = false) (hn : Nat.ble ins.length fn.ntmps = true)
 (h : ∀ w0, AW P w0 c (RetQ P fn false out) (st0 fn.ntmps ins)) : FrT P f ins out := ⟨⟨fn, hf, hname, by rw [hb]; rfl⟩, fun w vs F hG hv => by
 refine calls_of_wp hf hb (Code.wp_mono ?_ (h ⟨w, [], hG⟩ _ _ (rel0 hG hv hn)))
 rintro e a' w' ⟨σ, h1, I, hI⟩
 have key : Res P fn false out σ → a'.defers = [] ∧ ∃ v, (results fn a'.tmps).run P w' = .ok v w' ∧ FrPost w out (.returned v) w' := fun h1 => by
  obtain ⟨v, F, g1, g2, g3⟩ := h1 I ⟨w, [], hG⟩ a' w' hI
  exact ⟨hI.defers, v, g1, v, F, rfl, g2, fun b hb => (g3.1 b hb).resolve_right (by simp), hI.ext.toExt⟩
 cases e with
 | normal => exact key h1
 | ret => exact key h1
 | exit id => exact h1.elim
 | goto l => exact h1.elim
 | panic c => exact h1.elim
 | outgrown => exact h1.elim⟩
end Go.Q
