import Derived.Test.YtamnfkfjfelbbaaAbs9xw
set_option linter.unusedVariables false
set_option linter.unusedSimpArgs false
namespace Go.Q
open Go.RowKit
mutual
def LenT : T → Prop
 | .v _ => True
 | .sl _ rows => rows.length ≤ 9223372036854775807 ∧ LenR rows
 | .ad cs => LenL cs
 | .fn _ x y => LenL x ∧ LenL y
def LenL : List T → Prop
 | [] => True
 | t :: r => LenT t ∧ LenL r
def LenR : List (List T) → Prop
 | [] => True
 | t :: r => LenL t ∧ LenR r
end
mutual
theorem C.lenT {o : Bool} {w : World} : ∀ {t : T} {c : Value} {F : List Nat}, C o w t c F → LenT t
 | .v _, _, _, _ => by simp only [LenT]
 | .sl k rows, c, F, h => by
  simp only [C] at h
  obtain ⟨a, len, cap, h1, h2, h3, h4, h5⟩ := h
  simp only [LenT]
  simp only [maxLen] at h4
  refine ⟨by omega, ?_⟩
  rcases h5 with ⟨h5, _⟩ | ⟨b, off, G, _, _, _, _, h9⟩
  · have : rows = [] := List.eq_nil_of_length_eq_zero (by omega)
    subst this; simp only [LenR]
  · exact Rws.lenT h9
 | .ad cs, c, F, h => by
  simp only [C] at h
  obtain ⟨b, off, G, h1, rfl, h2, h3⟩ := h
  simp only [LenT]
  exact Ms.lenT h3
 | .fn f first caps, c, F, h => by
  simp only [C] at h
  obtain ⟨xs, ys, G1, G2, h1, h2, h3, rfl⟩ := h
  simp only [LenT]
  exact ⟨Cs.lenT h2, Cs.lenT h3⟩
theorem Cs.lenT {o : Bool} {w : World} : ∀ {ts : List T} {cs : List Value} {F : List Nat}, Cs o w ts cs F → LenL ts
 | [], _, _, _ => by simp only [LenL]
 | t :: r, cs, F, h => by
  simp only [Cs] at h
  obtain ⟨c, cr, G1, G2, h1, h2, h3, rfl⟩ := h
  simp only [LenL]
  exact ⟨C.lenT h2, Cs.lenT h3⟩
theorem Ms.lenT {o : Bool} {w : World} {b0 : Nat} : ∀ {ts : List T} {off : Nat} {F : List Nat}, Ms o w b0 off ts F → LenL ts
 | [], _, _, _ => by simp only [LenL]
 | t :: r, off, F, h => by
  simp only [Ms] at h
  obtain ⟨c, G1, G2, h1, h2, h3, rfl⟩ := h
  simp only [LenL]
  exact ⟨C.lenT h2, Ms.lenT h3⟩
theorem Rws.lenT {o : Bool} {w : World} {b0 k : Nat} : ∀ {rs : List (List T)} {off : Nat} {F : List Nat}, Rws o w b0 k off rs F → LenR rs
 | [], _, _, _ => by simp only [LenR]
 | t :: r, off, F, h => by
  simp only [Rws] at h
  obtain ⟨G1, G2, h1, h2, h3, rfl⟩ := h
  simp only [LenR]
  exact ⟨Ms.lenT h2, Rws.lenT h3⟩
end
def LenV : List V0 → Prop
 | [] => True
 | x :: r => (match x with | .one t => LenT t | .agg l => LenL l) ∧ LenV r
theorem V0s.lenV {o : Bool} {w : World} : ∀ {l : List V0} {vs : List Value} {F : List Nat}, V0s o w l vs F → LenV l
 | [], _, _, _ => trivial
 | x :: r, _, _, ⟨v, vr, G1, G2, _, h2, h3, _⟩ => by
  refine ⟨?_, h3.lenV⟩
  cases x with
  | one t => exact C.lenT h2
  | agg l => obtain ⟨cs, _, h2⟩ := h2; exact h2.lenT
theorem LenR_map {α : Type} {f : α → List T} : ∀ {l : List α}, LenR (l.map f) ↔ ∀ x ∈ l, LenL (f x)
 | [] => by simp [LenR]
 | a :: l => by simp [LenR, LenR_map]
theorem FnT.len {P : Program} {f : FuncId} {ins : List V0} {out : V} (hc : LenV ins → FnT P f ins out) (hn : Callee P f) : FnT P f ins out := by
 refine ⟨hn, fun w vs F hG hv => ?_⟩
 exact (hc hv.lenV).2 w vs F hG hv
theorem FrT.len {P : Program} {f : FuncId} {ins : List V0} {out : V} (hc : LenV ins → FrT P f ins out) (hn : Callee P f) : FrT P f ins out := by
 refine ⟨hn, fun w vs F hG hv => ?_⟩
 exact (hc hv.lenV).2 w vs F hG hv
@[simp] theorem LenV_nil : LenV [] = True := rfl
@[simp] theorem LenV_one {t : T} {r : List V0} : LenV (.one t :: r) = (LenT t ∧ LenV r) := rfl
@[simp] theorem LenV_agg {l : List T} {r : List V0} : LenV (.agg l :: r) = (LenL l ∧ LenV r) := rfl
@[simp] theorem LenT_v {x : Value} : LenT (.v x) = True := by simp only [LenT]
@[simp] theorem LenT_sl {k : Nat} {rows : List (List T)} : LenT (.sl k rows) = (rows.length ≤ 9223372036854775807 ∧ LenR rows) := by simp only [LenT]
@[simp] theorem LenT_ad {cs : List T} : LenT (.ad cs) = LenL cs := by simp only [LenT]
@[simp] theorem LenL_nil : LenL [] = True := by simp only [LenL]
@[simp] theorem LenL_cons {t : T} {r : List T} : LenL (t :: r) = (LenT t ∧ LenL r) := by simp only [LenL]
section
variable {P : Program} {ops : Array Oper} {o : Oper} {σ : St} {q : Bool}
theorem FnT.intro' {f : FuncId} {fn : Func} {c : Code} {ins : List V0} {out : V} (hf : P.funcs[f]? = some fn) (hb : fn.body = some c) (hname : (fn.name == "runtime.NumGoroutine") = false) (hn : Nat.ble ins.length fn.ntmps = true)
 (h : LenV ins → ∀ w0, AW P w0 c (RetQ P fn true out) (st0 fn.ntmps ins)) : FnT P f ins out :=
 FnT.len (fun hl => FnT.intro hf hb hname hn (h hl)) ⟨fn, hf, hname, by rw [hb]; rfl⟩
theorem Res.v {fn : Func} {t : Nat} {x y : Value} {oo : Bool} (hl : fn.results = #[.tmp t]) (h : look σ.slots t = some (true, .a (.one (.t (.v x))))) (he : x = y) : Res P fn oo (.a (.one (.v y))) σ := by
 subst he
 intro I w0 a w hr
 obtain ⟨vs, h1, h2⟩ := run_results (fn := fn) (l := [.tmp t]) hr (by rw [hl]) (.tmp h .nil)
 obtain ⟨v, vr, rfl, ⟨G, h3, _⟩, rfl⟩ := h2
 simp only [C] at h3
 obtain ⟨rfl, rfl, h5⟩ := h3
 exact ⟨_, [], h1, by unfold Vr V0r C; exact ⟨rfl, rfl, h5⟩, by simp, fun _ => ⟨List.nodup_nil, by simp⟩⟩
theorem R_empty {t e : TypeId} (id : Nat) {k : Nat} {ag : Bool} (ho : o.op = .buildSlice t 0 #[]) (hg : o.guard = none) (hd : o.dst.all (fun d => Nat.blt d σ.n) = true) (hu : P.underlying t = some (.slice e)) (hk : tyB P e ag k = true) (hf : σ.has id = false) :
 Op1 P ops o σ ((σ.add id (.row k [])).put o.dst (true, .a (.one (.rf id)))) :=
 .eff hg fun w0 a w ⟨I, hr⟩ => by
  have hx : Ext w (w.alloc (.cells #[] e)) := (Ext.refl w).alloc _
  have hr' := (hr.later hx).addF (id := id) (G := []) (u := .slice (some ⟨w.heap.size, 0, none⟩) 0 0) (b := 0) (r := .row k []) hf List.nodup_nil (by simp) (by
   show C true _ _ _ _
   simp only [Ip.set, if_true]
   unfold C
   exact ⟨_, _, _, rfl, rfl, Nat.le_refl _, Nat.zero_le _, .inl ⟨rfl, rfl, fun _ => rfl⟩⟩)
  refine ⟨.slice (some ⟨w.heap.size, 0, none⟩) 0 0, w.alloc (.cells #[] e), ?_, _, hr'.put hd ⟨by simp [Ip.set], _, _, _, rfl⟩⟩
  simp [execOp, ho, Instr.buildSlice, run_underlying hu, tyB_size hk, Instr.fill, newRow]
  have e0 : Array.map (fun _ => (default : Value)) (Array.range 0) = #[] := by simp [Array.range]
  rw [e0]
def SubS0 (σ : St) : List (Nat × (Bool × S)) → Prop
 | [] => True
 | (i, x) :: l => look σ.slots i = some x ∧ SubS0 σ l
def SubR0 (σ : St) : List (Nat × R) → Prop
 | [] => True
 | (i, x) :: l => look σ.res i = some x ∧ SubR0 σ l
theorem look_SubS0 : ∀ {l : List (Nat × (Bool × S))}, SubS0 σ l → ∀ i x, look l i = some x → look σ.slots i = some x
 | [], _, i, x, hi => by cases hi
 | (j, z) :: l, ⟨h1, h2⟩, i, x, hi => by
  rw [look_cons] at hi
  split at hi
  · rename_i e; subst e; cases hi; exact h1
  · exact look_SubS0 h2 i x hi
theorem look_SubR0 : ∀ {l : List (Nat × R)}, SubR0 σ l → ∀ i x, look l i = some x → look σ.res i = some x
 | [], _, i, x, hi => by cases hi
 | (j, z) :: l, ⟨h1, h2⟩, i, x, hi => by
  rw [look_cons] at hi
  split at hi
  · rename_i e; subst e; cases hi; exact h1
  · exact look_SubR0 h2 i x hi
theorem Le.sub0 {σ' : St} (hn : σ'.n = σ.n) (hs : SubS0 σ σ'.slots) (hr : SubR0 σ σ'.res) : Le σ σ' := by
 rintro w0 a w ⟨I, h⟩
 exact ⟨I, h.ext, h.defers, h.size.trans hn.symm, fun i x hi => h.slots _ _ (look_SubS0 hs i x hi), fun i r hi => h.res _ _ (look_SubR0 hr i r hi), h.old, h.lt, fun i r hi => h.own _ _ (look_SubR0 hr i r hi), h.apart⟩
theorem cells_t1 (x : T) : cellsA (.one (.t x)) = [x].map .t := rfl
variable {w0 : Base} {Q : Exit → St → Prop} {n : Nat} {sl : List (Nat × (Bool × S))} {rs : List (Nat × R)} {l : List Oper}
theorem AWl.p {d : Nat} {x : Bool × S} (ho : Op1 P ops o ⟨n, sl, rs⟩ (St.put ⟨n, sl, rs⟩ o.dst x)) (hd : o.dst = some d) (h : AWl P w0 ops Q l ⟨n, (d, x) :: sl, rs⟩) : AWl P w0 ops Q (o :: l) ⟨n, sl, rs⟩ :=
 AWl.op ho (by rw [hd]; exact h)
theorem Get.tm {i : Nat} {x : A} (h : look σ.slots i = some (true, .a x)) : Get σ q (.tmp i) x := .tmp h fun _ => rfl
theorem AWl.mv {d i : Nat} {x : A} (h : AWl P w0 ops Q l ⟨n, (d, (true, .a x)) :: sl, rs⟩) (ho : o.op = .move (.tmp i) := by exact rfl) (hg : o.guard = none := by exact rfl) (hd : o.dst.all (fun d => Nat.blt d n) = true := by exact rfl) (hs : look sl i = some (true, .a x) := by exact rfl) (hds : o.dst = some d := by exact rfl) : AWl P w0 ops Q (o :: l) ⟨n, sl, rs⟩ :=
 AWl.p (R_move ho (.no hg) hd (.tm hs)) hds h
theorem AWl.av {d i : Nat} {x : A} (h : AWl P w0 ops Q l ⟨n, (d, (true, .a x)) :: sl, rs⟩) (ho : o.op = .assign (.tmp i) := by exact rfl) (hg : o.guard = none := by exact rfl) (hd : o.dst.all (fun d => Nat.blt d n) = true := by exact rfl) (hs : look sl i = some (true, .a x) := by exact rfl) (hds : o.dst = some d := by exact rfl) : AWl P w0 ops Q (o :: l) ⟨n, sl, rs⟩ :=
 AWl.p (R_assign ho (.no hg) hd (.tm hs)) hds h
theorem AWl.ac {d : Nat} {v : Value} (h : AWl P w0 ops Q l ⟨n, (d, (true, .a (.one (.t (.v v))))) :: sl, rs⟩) (ho : o.op = .assign (.const v) := by exact rfl) (hg : o.guard = none := by exact rfl) (hd : o.dst.all (fun d => Nat.blt d n) = true := by exact rfl) (hv : v.oneCell' = true := by exact rfl) (hds : o.dst = some d := by exact rfl) : AWl P w0 ops Q (o :: l) ⟨n, sl, rs⟩ :=
 AWl.p (R_assign ho (.no hg) hd (.const hv)) hds h
theorem AW.sr {id : Nat} {y : Code} {ls : List Oper} (h : AWl P w0 ls.toArray (ThenQ (AW P w0 y Q) Q) ls σ) : AW P w0 (.seq (.region id ls.toArray false) y) Q σ := AW.seq (AW.region h)
theorem AWl.add {d id : Nat} {r : R} {x : Bool × S} (ho : Op1 P ops o ⟨n, sl, rs⟩ ((St.add ⟨n, sl, rs⟩ id r).put o.dst x)) (hd : o.dst = some d) (h : AWl P w0 ops Q l ⟨n, (d, x) :: sl, (id, r) :: rs⟩) : AWl P w0 ops Q (o :: l) ⟨n, sl, rs⟩ :=
 AWl.op ho (by rw [hd]; exact h)
def addsR : List (Nat × R) → List (Nat × R) → List (Nat × R)
 | [], rs => rs
 | x :: l, rs => addsR l (x :: rs)
theorem adds_eq : ∀ (l : List (Nat × R)) (n : Nat) (sl : List (Nat × (Bool × S))) (rs : List (Nat × R)), St.adds ⟨n, sl, rs⟩ l = ⟨n, sl, addsR l rs⟩
 | [], _, _, _ => rfl
 | (id, r) :: l, n, sl, rs => by rw [St.adds, St.add, adds_eq l]; rfl
theorem AWl.adds {d : Nat} {rl : List (Nat × R)} {x : Bool × S} (ho : Op1 P ops o ⟨n, sl, rs⟩ ((St.adds ⟨n, sl, rs⟩ rl).put o.dst x)) (hd : o.dst = some d) (h : AWl P w0 ops Q l ⟨n, (d, x) :: sl, addsR rl rs⟩) : AWl P w0 ops Q (o :: l) ⟨n, sl, rs⟩ :=
 AWl.op ho (by rw [hd, adds_eq]; exact h)
def purS (id : Nat) (sl : List (Nat × (Bool × S))) : List (Nat × (Bool × S)) := sl.map fun x => (x.1, (x.2.1, x.2.2.pur id))
def chgR (id : Nat) (r : R) (rs : List (Nat × R)) : List (Nat × R) := setR (rs.map fun x => (x.1, x.2.pur id)) id r
theorem AWl.chg {id : Nat} {r : R} (ho : Op1 P ops o ⟨n, sl, rs⟩ (St.chg ⟨n, sl, rs⟩ id r)) (h : AWl P w0 ops Q l ⟨n, purS id sl, chgR id r rs⟩) : AWl P w0 ops Q (o :: l) ⟨n, sl, rs⟩ := AWl.op ho h
theorem AWl.chgput {d id : Nat} {r : R} {x : Bool × S} (ho : Op1 P ops o ⟨n, sl, rs⟩ ((St.chg ⟨n, sl, rs⟩ id r).put o.dst x)) (hd : o.dst = some d) (h : AWl P w0 ops Q l ⟨n, (d, x) :: purS id sl, chgR id r rs⟩) : AWl P w0 ops Q (o :: l) ⟨n, sl, rs⟩ :=
 AWl.op ho (by rw [hd]; exact h)
theorem FnT.walk {f : FuncId} {fn : Func} {c : Code} {ins : List V0} {out : V} (hf : P.funcs[f]? = some fn) (hb : fn.body = some c) (hname : (fn.name == "runtime.NumGoroutine") = false) (hnt : fn.ntmps = n) (hn : Nat.ble ins.length n = true)
 (h : LenV ins → ∀ w0, AW P w0 c (RetQ P fn true out) ⟨n, inSlots 0 ins, []⟩) : FnT P f ins out := by
 subst hnt; exact FnT.intro' hf hb hname hn h
theorem FrT.walk {f : FuncId} {fn : Func} {c : Code} {ins : List V0} {out : V} (hf : P.funcs[f]? = some fn) (hb : fn.body = some c) (hname : (fn.name == "runtime.NumGoroutine") = false) (hnt : fn.ntmps = n) (hn : Nat.ble ins.length n = true)
 (h : LenV ins → ∀ w0, AW P w0 c (RetQ P fn false out) ⟨n, inSlots 0 ins, []⟩) : FrT P f ins out := by
 subst hnt; exact FrT.len (fun hl => FrT.intro hf hb hname hn (h hl)) ⟨fn, hf, hname, by rw [hb]; rfl⟩
end
end Go.Q
