import Derived.Test.YtamnfkfjfelbbaaAbsZxw
import Derived.Test.YtamnfkfjfelbbaaB56xw
import Derived.DeepKeys4
set_option linter.unusedVariables false
set_option linter.unusedSimpArgs false
namespace Go.Q
open Go.RowKit Go.ChangeMaps Go.WideMaps
section
variable {P : Program} {ops : Array Oper} {o : Oper} {σ : St}
theorem MapB.thaw {w : World} {b : Nat} {f : Int → Int → Int → Int} (h : MapB w b f) : Thaw w b := by
 obtain ⟨es, k, h1, _⟩ := h
 exact ⟨.inr es, k, h1⟩
structure MapTy (P : Program) (t kt et : TypeId) : Prop where
 map : P.underlying t = some (.map kt et)
 law : KeyLaw P kt
 key : ∀ x y z : Int, wfI x ∧ wfI y ∧ wfI z → ∃ l, keyOf P kt (.agg #[.int .i64 x, .int .i64 y, .int .i64 z]) = some l
 zero : ∀ w, (zeroValue et).run P w = .ok (.int .i64 0) w
theorem MapTy.keys {t kt et : TypeId} (T : MapTy P t kt et) {f : Int → Int → Int → Int} {es : Array MapEntry} (h : ∀ e ∈ es.toList, ∃ x y z : Int, e.key = .agg #[.int .i64 x, .int .i64 y, .int .i64 z] ∧ (wfI x ∧ wfI y ∧ wfI z) ∧ e.val = .int .i64 (f x y z)) : ∀ e ∈ es.toList, ∃ l, keyOf P kt e.key = some l := fun e he => by
 obtain ⟨x, y, z, h1, h2, _⟩ := h e he
 rw [h1]; exact T.key x y z h2
theorem key_inj {x y z p q r : Int} (h : Value.agg #[.int .i64 x, .int .i64 y, .int .i64 z] = .agg #[.int .i64 p, .int .i64 q, .int .i64 r]) : x = p ∧ y = q ∧ z = r := by
 injection h with h
 have h := congrArg Array.toList h
 simp only [List.cons.injEq, Value.int.injEq, and_true, true_and] at h
 exact h
theorem run_look {t kt et : TypeId} (T : MapTy P t kt et) {w : World} {b : Nat} {f : Int → Int → Int → Int} (h : MapB w b f) {p q r : Int} (hk : wfI p ∧ wfI q ∧ wfI r) : ∃ (n : Int) (ok : Bool), (Instr.lookup t (.map (some b)) (.agg #[.int .i64 p, .int .i64 q, .int .i64 r]) true).run P w = .ok (.tuple #[.int .i64 n, .bool ok]) w ∧ (ok = true → n = f p q r) := by
 obtain ⟨es, c, hb, hes⟩ := h
 obtain ⟨l, hl⟩ := T.key p q r hk
 rcases T.law.find w hl es.toList (T.keys hes) with ⟨h1, _⟩ | ⟨j, e, h1, h2, h3⟩
 · exact ⟨0, false, by simp [Instr.lookup, run_underlying T.map, MapKept.run_getObj_map hb, T.law.check w _ hl, h1, T.zero w, Result.andThen], fun h => by cases h⟩
 · obtain ⟨x, y, z, e1, _, e3⟩ := hes e (List.mem_of_getElem? h2)
   obtain ⟨rfl, rfl, rfl⟩ := key_inj (e1.symm.trans h3)
   exact ⟨f x y z, true, by simp [Instr.lookup, run_underlying T.map, MapKept.run_getObj_map hb, T.law.check w _ hl, h1, e3, Result.andThen], fun _ => rfl⟩
theorem run_upd {t kt et : TypeId} (T : MapTy P t kt et) {w : World} {b : Nat} {f : Int → Int → Int → Int} (h : MapB w b f) {p q r : Int} (hk : wfI p ∧ wfI q ∧ wfI r) : ∃ w', (Instr.mapUpdate t (.map (some b)) (.agg #[.int .i64 p, .int .i64 q, .int .i64 r]) (.int .i64 (f p q r))).run P w = .ok () w' ∧ Chg w w' [b] ∧ MapB w' b f := by
 obtain ⟨es, c, hb, hes⟩ := h
 obtain ⟨l, hl⟩ := T.key p q r hk
 have hch : ∀ o, Chg w (setBlock w b o) [b] := fun o => ⟨rfl, rfl, rfl, by simp [setBlock], fun k _ hn => heap_setBlock_other hb o (by simpa using hn)⟩
 rcases T.law.find w hl es.toList (T.keys hes) with ⟨h1, _⟩ | ⟨j, e, h1, h2, h3⟩
 · refine ⟨setBlock w b (.map (es.push ⟨.agg #[.int .i64 p, .int .i64 q, .int .i64 r], .int .i64 (f p q r), c⟩) (c + 1)), ?_, hch _, _, _, heap_setBlock_same hb _, fun e he => ?_⟩
   · simp [Instr.mapUpdate, run_underlying T.map, MapKept.run_getObj_map hb, T.law.check w false hl, h1, MapKept.run_setObj_map _ hb, Result.andThen, setBlock]
   · simp only [Array.toList_push, List.mem_append, List.mem_singleton] at he
     rcases he with he | rfl
     · exact hes e he
     · exact ⟨p, q, r, rfl, hk, rfl⟩
 · have hj : es[j]? = some e := by simpa using h2
   refine ⟨setBlock w b (.map (es.modify j fun e' => { e' with key := .agg #[.int .i64 p, .int .i64 q, .int .i64 r], val := .int .i64 (f p q r) }) c), ?_, hch _, _, _, heap_setBlock_same hb _, fun e' he => ?_⟩
   · simp [Instr.mapUpdate, run_underlying T.map, MapKept.run_getObj_map hb, T.law.check w false hl, h1, hj, h3, T.law.stays w hl, MapKept.run_setObj_map _ hb, Result.andThen, setBlock]
   · rcases MapFrom.mem_modify he with he | ⟨e1, _, rfl⟩
     · exact hes e' he
     · exact ⟨p, q, r, rfl, hk, rfl⟩
theorem VE_v {I : Ip} {w : World} (x : Value) (h : x.oneCell' = true := by rfl) : VE I w (.t (.v x)) x := ⟨[], by simp [C, h], by simp⟩
theorem setR_id : ∀ {l : List (Nat × R)} {u : Nat} {r : R}, look l u = some r → setR l u r = l
 | [], _, _, h => by cases h
 | (j, y) :: l, u, r, h => by
  rw [look_cons] at h
  rw [setR]
  by_cases e : j = u
  · subst e; rw [if_pos rfl] at h; cases h; simp [Nat.beq_refl]
  · rw [if_neg e] at h
    rw [beq_false e, cond_false, setR_id h]
theorem has_addR {σ : St} {id m : Nat} {r : R} (h : σ.has m = false) (hm : id ≠ m) (hr : r.has m = false) : (σ.add id r).has m = false := by
 unfold St.has St.add at *
 simp only [Bool.or_eq_false_iff, List.any_cons] at h ⊢
 exact ⟨h.1, ⟨beq_false hm, hr⟩, h.2⟩
theorem key_at {I : Ip} {w : World} {v : Value} {p q r : Int} (h : VA I w (.agg [.t (.v (.int .i64 p)), .t (.v (.int .i64 q)), .t (.v (.int .i64 r))]) v) : v = .agg #[.int .i64 p, .int .i64 q, .int .i64 r] := by
 obtain ⟨cs, rfl, c1, r1, rfl, ⟨_, g1, _⟩, c2, r2, rfl, ⟨_, g2, _⟩, c3, r3, rfl, ⟨_, g3, _⟩, h4⟩ := h
 simp only [C] at g1 g2 g3
 have h4 : r3 = [] := h4
 rw [g1.1, g2.1, g3.1, h4]
theorem map_at {I : Ip} {w : World} {v x : Value} (h : VA I w (.one (.t (.v x))) v) : v = x := by
 obtain ⟨_, g, _⟩ := h
 simp only [C] at g
 exact g.1
theorem R_look {t kt et : TypeId} {m x : Operand} {b u : Nat} {f : Int → Int → Int → Int} {p q r : Int} (T : MapTy P t kt et) (ho : o.op = .lookup t m x true) (hg : o.guard = none) (hd : o.dst.all (fun d => Nat.blt d σ.n) = true)
 (hm : Get σ true m (.one (.t (.v (.map (some b)))))) (hu : look σ.res u = some (.mp b f)) (hx : Get σ true x (.agg [.t (.v (.int .i64 p)), .t (.v (.int .i64 q)), .t (.v (.int .i64 r))])) (hk : wfI p ∧ wfI q ∧ wfI r) :
 OpE P ops o σ fun σ' => ∃ z : Int × Bool, (z.2 = true → z.1 = f p q r) ∧ σ' = σ.put o.dst (true, .tup [.one (.t (.v (.int .i64 z.1))), .one (.t (.v (.bool z.2)))]) := by
 rintro w0 a w ⟨I, hr⟩ K Q hK
 simp only [Region.wanted, hg, if_true]
 obtain ⟨_, hM⟩ : I.F u = [b] ∧ MapB w b f := hr.res _ _ hu
 have e1 := map_at (hm.va hr rfl)
 have e2 := key_at (hx.va hr rfl)
 obtain ⟨n, ok, h1, h2⟩ := run_look T hM hk
 unfold Oper.wp
 simp [execOp, ho, e1, e2, h1, Result.andThen]
 refine hK _ _ _ ⟨(n, ok), h2, rfl⟩ ⟨I, hr.put hd ⟨[.int .i64 n, .bool ok], rfl, ?_⟩⟩
 exact ⟨_, _, rfl, VE_v _, _, _, rfl, VE_v _, rfl⟩
theorem RelI.mapped {I : Ip} {w0 : Base} {w : World} {a : Act} {u b : Nat} {f : Int → Int → Int → Int} (hr : RelI I w0 σ a w) (hu : look σ.res u = some (.mp b f)) (hn : nvB u σ.slots σ.res = true) {w' : World} (hc : Chg w w' [b]) (hM : MapB w' b f) : ∃ I', RelI I' w0 σ a w' ∧ I'.Z = I.Z ∧ I'.F = I.F := by
 obtain ⟨hF, _⟩ : I.F u = [b] ∧ MapB w b f := hr.res _ _ hu
 have h := hr.upd (w' := w') hu (by rw [hF]; exact hc) (G := [b]) (r := .mp b f) ⟨by simp, fun x hx => ?_⟩ ⟨by simp [Ip.set], hM⟩
 · rw [upd_nv hn, setR_id hu] at h
   refine ⟨_, h, rfl, ?_⟩
   funext i
   simp only [Ip.set]
   split
   · rename_i e; rw [e, hF]
   · rfl
 · simp only [List.mem_singleton] at hx
   subst hx
   exact ⟨((hr.own u _ hu).2 _ (by rw [hF]; simp)).1, hM.lt, hM.thaw, .inl (by rw [hF]; simp)⟩
theorem R_mapUpd {t kt et : TypeId} {m x y : Operand} {b u : Nat} {f : Int → Int → Int → Int} {p q r n : Int} (T : MapTy P t kt et) (ho : o.op = .mapUpdate t m x y) (hg : o.guard = none) (hd : o.dst = none)
 (hm : Get σ true m (.one (.t (.v (.map (some b)))))) (hu : look σ.res u = some (.mp b f)) (hn : nvB u σ.slots σ.res = true) (hx : Get σ true x (.agg [.t (.v (.int .i64 p)), .t (.v (.int .i64 q)), .t (.v (.int .i64 r))])) (hk : wfI p ∧ wfI q ∧ wfI r)
 (hy : Get σ true y (.one (.t (.v (.int .i64 n))))) (hf : n = f p q r) : Op1 P ops o σ σ := by
 subst hf
 rintro w0 a w ⟨I, hr⟩ K Q hK
 simp only [Region.wanted, hg, if_true]
 obtain ⟨_, hM⟩ : I.F u = [b] ∧ MapB w b f := hr.res _ _ hu
 have e1 := map_at (hm.va hr rfl)
 have e2 := key_at (hx.va hr rfl)
 have e3 := map_at (hy.va hr rfl)
 obtain ⟨w', h1, h2, h3⟩ := run_upd T hM hk
 obtain ⟨I', hr', _, _⟩ := hr.mapped hu hn h2 h3
 unfold Oper.wp
 simp [execOp, ho, e1, e2, e3, h1, Result.andThen, Oper.upon]
 exact hK _ _ ⟨I', by rw [hd]; exact hr'⟩
theorem V0s.ck {w : World} {FF : List Nat} : ∀ {ins : List V0} {vs : List Value} {F : List Nat}, V0s false w ins vs F → (∀ b ∈ F, b ∉ FF) → V0c w FF (ins.map fun x => (false, x)) vs []
 | [], vs, F, ⟨h, _⟩, _ => ⟨h, rfl⟩
 | x :: r, vs, F, ⟨v, vr, G1, G2, h1, h2, h3, h4⟩, hF => by
  subst h4
  exact ⟨v, vr, G1, [], h1, h2, h3.ck fun b hb => hF b (by simp [hb]), by simpa using fun b hb => hF b (by simp [hb])⟩
def KPost (w : World) (b : Nat) (f : Int → Int → Int → Int) (out : V) (e : Ending) (w' : World) : Prop :=
 ∃ v F, e = .returned v ∧ Vr true w' out v F ∧ F.Nodup ∧ (∀ x ∈ F, w.heap.size ≤ x ∧ Thaw w' x) ∧ Chg w w' [b] ∧ MapB w' b f
def FnK (P : Program) (fid : FuncId) (b : Nat) (f : Int → Int → Int → Int) (ins : List V0) (out : V) : Prop :=
 Callee P fid ∧ ∀ w vs F, Good w [b] → MapB w b f → V0s false w ins vs F → b ∉ F → Calls P fid (List.toArray vs) w (KPost w b f out)
def KRes (P : Program) (fn : Func) (b : Nat) (f : Int → Int → Int → Int) (out : V) (σ : St) : Prop := look σ.res 888888 = some (.mp b f) ∧ Res P fn true out ⟨σ.n, σ.slots, delR σ.res 888888⟩
def RetK (P : Program) (fn : Func) (b : Nat) (f : Int → Int → Int → Int) (out : V) : Exit → St → Prop
 | .normal, σ => KRes P fn b f out σ
 | .ret, σ => KRes P fn b f out σ
 | _, _ => False
theorem KRes.mk {fn : Func} {b : Nat} {f : Int → Int → Int → Int} {out : V} {σ : St} (hc : look σ.res 888888 = some (.mp b f)) (h : Res P fn true out ⟨σ.n, σ.slots, delR σ.res 888888⟩) : KRes P fn b f out σ := ⟨hc, h⟩
theorem FnK.walk {n : Nat} {fid : FuncId} {fn : Func} {c : Code} {b : Nat} {f : Int → Int → Int → Int} {ins : List V0} {out : V} {σ' : St} (hf : P.funcs[fid]? = some fn) (hb : fn.body = some c) (hname : (fn.name == "runtime.NumGoroutine") = false) (hnt : fn.ntmps = n) (hn : Nat.ble ins.length n = true)
 (hi : initC 0 (ins.map fun x => (false, x)) ⟨n, [], [(888888, .mp b f)]⟩ = some σ') (h : ∀ w0, AW P w0 c (RetK P fn b f out) σ') : FnK P fid b f ins out := by
 subst hnt
 refine ⟨⟨fn, hf, hname, by rw [hb]; rfl⟩, fun w vs F hG hM hv hbF => ?_⟩
 have hv' := hv.ck (FF := [b]) fun x hx hm => hbF (by simp only [List.mem_singleton] at hm; rwa [← hm])
 have hl : vs.length = ins.length := by simpa using hv'.len
 have hn' : ins.length ≤ fn.ntmps := Nat.le_of_ble_eq_true hn
 have hblt : b < w.heap.size := hM.lt
 let a0 : Act := ⟨(List.toArray vs) ++ Array.replicate (fn.ntmps - (List.toArray vs).size) undef, []⟩
 let I0 : Ip := ⟨fun x => x < w.heap.size ∧ x ≠ b, fun i => if i = 888888 then [b] else [], fun _ => undef, fun _ => 0⟩
 have hget : ∀ (j : Nat) v, vs[j]? = some v → a0.tmps.getD j undef = v := fun j v hj => by
  have hjl := (List.getElem?_eq_some_iff.1 hj).1
  simp only [a0]
  rw [Array.getD_eq_getD_getElem?, Array.getElem?_append_left (by simpa using hjl)]
  have : (List.toArray vs)[j]? = some v := by simpa using hj
  rw [this]; rfl
 have hr0 : RelI I0 ⟨w, [b], hG⟩ ⟨fn.ntmps, [], [(888888, .mp b f)]⟩ a0 w := by
  have key : ∀ i r, look [(888888, R.mp b f)] i = some r → i = 888888 ∧ r = .mp b f := fun i r hi => by
   rw [look_cons] at hi
   split at hi
   · rename_i e; cases hi; exact ⟨e.symm, rfl⟩
   · cases hi
  refine ⟨Chg.refl w [b], rfl, by simp [a0, hl]; omega, fun i z hi => (by cases hi), fun id r hi => ?_, fun x hx => hx.1, fun id x hx => ?_, fun id r hi => ?_, fun i j hne x hx hx' => ?_⟩
  · obtain ⟨rfl, rfl⟩ := key id r hi
    exact ⟨rfl, hM⟩
  · simp only [I0] at hx ⊢
    split at hx
    · simp only [List.mem_singleton] at hx; subst hx; exact ⟨hblt, fun h => h.2 rfl⟩
    · cases hx
  · obtain ⟨rfl, rfl⟩ := key id r hi
    refine ⟨by simp [I0], fun x hx => ?_⟩
    have : x = b := by simpa [I0] using hx
    subst this
    exact ⟨.inr (by simp), hM.thaw⟩
  · simp only [I0] at hx hx'
    split at hx
    · split at hx'
      · omega
      · cases hx'
    · cases hx
 obtain ⟨I1, r1⟩ := initC_ok (FF := [b]) (fun _ _ _ => trivial) hi hr0 (fun x h1 h2 => ⟨h1, fun e => h2 (by simp [e])⟩) hv' (by simp) (fun x hx => by cases hx) fun j v hj => hget (0 + j) v (by rw [Nat.zero_add]; exact hj)
 refine calls_of_wp hf hb (Code.wp_mono ?_ (h ⟨w, [b], hG⟩ _ _ ⟨I1, r1⟩))
 rintro e a' w' ⟨σ1, h1, I, hI⟩
 have key : KRes P fn b f out σ1 → a'.defers = [] ∧ ∃ v, (results fn a'.tmps).run P w' = .ok v w' ∧ KPost w b f out (.returned v) w' := fun ⟨hcur, h1⟩ => by
  obtain ⟨hF, hM'⟩ : I.F 888888 = [b] ∧ MapB w' b f := hI.res _ _ hcur
  have hsz : w.heap.size ≤ w'.heap.size := hI.ext.size
  let W : World := { w' with heap := w'.heap.extract 0 w.heap.size }
  have hW : W.heap.size = w.heap.size := by simp [W]; omega
  have hWk : ∀ k, k < w.heap.size → W.heap[k]? = w'.heap[k]? := fun k hk => by
   show (w'.heap.extract 0 w.heap.size)[k]? = _
   rw [Array.getElem?_extract]
   simp
   omega
  have hGW : Good W [] := hG.step (Nat.le_of_eq hW.symm) (fun k hk hn => (hWk k hk).trans (hI.ext.block k hk hn)) fun x hx => by cases hx
  have hI2 : RelI I ⟨W, [], hGW⟩ ⟨σ1.n, σ1.slots, delR σ1.res 888888⟩ a' w' := by
   refine ⟨⟨rfl, rfl, rfl, by rw [hW]; exact hsz, fun k hk _ => ?_⟩, hI.defers, hI.size, hI.slots, fun id r hr => hI.res id r (look_delR _ _ _ _ hr).2, hI.old, hI.lt, fun id r hr => ?_, hI.apart⟩
   · rw [hW] at hk; exact (hWk k hk).symm
   · obtain ⟨e1, e2⟩ := look_delR _ _ _ _ hr
     refine ⟨(hI.own id r e2).1, fun x hx => ⟨?_, ((hI.own id r e2).2 x hx).2⟩⟩
     rcases ((hI.own id r e2).2 x hx).1 with h | h
     · left; show W.heap.size ≤ x; rw [hW]; exact h
     · exfalso
       have : x = b := by simpa using h
       subst this
       exact hI.apart id 888888 e1 _ hx (by rw [hF]; simp)
  obtain ⟨v, F, g1, g2, g3⟩ := h1 I ⟨W, [], hGW⟩ a' w' hI2
  refine ⟨hI.defers, v, g1, v, F, rfl, g2, (g3.2 rfl).1, fun x hx => ⟨?_, (g3.2 rfl).2 x hx⟩, hI.ext, hM'⟩
  have := (g3.1 x hx).resolve_right (by simp)
  rwa [show (Base.W ⟨W, [], hGW⟩).heap.size = w.heap.size from hW] at this
 cases e with
 | normal => exact key h1
 | ret => exact key h1
 | exit id => exact h1.elim
 | goto l => exact h1.elim
 | panic c => exact h1.elim
 | outgrown => exact h1.elim
def readK (u : Nat) (σ : St) : E → Option T
 | .t x => some x
 | .vw id x => bif Nat.beq id u then none else some x
 | .rf id => match look σ.res id with | some (.row k rows) => some (.sl k rows) | _ => none
 | _ => none
def readKA (u : Nat) (σ : St) : A → Option V0
 | .one e => match readK u σ e with | some t => some (.one t) | none => none
 | .agg l => match mapO (readK u σ) l with | some ts => some (.agg ts) | none => none
inductive ArgsK (σ : St) (u : Nat) : List Operand → List V0 → Prop where
 | nil : ArgsK σ u [] []
 | cons {x : Operand} {A0 : A} {v : V0} {l : List Operand} {vs : List V0} (hx : Get σ true x A0) (hv : readKA u σ A0 = some v) (h : ArgsK σ u l vs) : ArgsK σ u (x :: l) (v :: vs)
section
variable {I : Ip} {w0 : Base} {w : World} {a : Act} {u b : Nat} {f : Int → Int → Int → Int}
theorem readK_ok (hr : RelI I w0 σ a w) (hu : look σ.res u = some (.mp b f)) {e : E} {t : T} {c : Value} (h : readK u σ e = some t) (hv : VE I w e c) : ∃ G, C false w t c G ∧ ∀ x ∈ G, x ∉ I.F u := by
 cases e with
 | t x => cases h; obtain ⟨G, h1, h2⟩ := hv; exact ⟨G, h1, fun y hy hm => (hr.lt u y hm).2 (h2 y hy)⟩
 | vw id x =>
  rw [readK] at h
  cases hb : Nat.beq id u with
  | true => rw [hb] at h; cases h
  | false =>
   rw [hb] at h; cases h
   obtain ⟨G, h1, h2⟩ := hv
   exact ⟨G, h1, fun y hy => hr.apart id u (beq_ne hb) y (h2 y hy)⟩
 | rf id =>
  rw [readK] at h
  split at h
  · rename_i k rows h0
    cases h
    have hc : c = I.hd id := hv.1
    have hne : id ≠ u := fun e => by subst e; rw [hu] at h0; cases h0
    rw [hc]; exact ⟨_, C.read (show C true w (.sl k rows) _ _ from hr.res id _ h0), hr.apart id u hne⟩
  · cases h
 | pp id off => cases h
 | pr id k i j => cases h
 | sb id k i j => cases h
 | tl id k j => cases h
 | pf id k j => cases h
 | no => cases h
theorem mapK_ok (hr : RelI I w0 σ a w) (hu : look σ.res u = some (.mp b f)) : ∀ {l : List E} {ts : List T} {cs : List Value}, mapO (readK u σ) l = some ts → VEs I w l cs → ∃ G, Cs false w ts cs G ∧ ∀ x ∈ G, x ∉ I.F u
 | [], ts, cs, h, hv => by cases h; exact ⟨[], by unfold Cs; exact ⟨hv, rfl⟩, fun _ hb => by cases hb⟩
 | e :: r, ts, cs, h, hv => by
  obtain ⟨c, cr, rfl, h1, h2⟩ := hv
  rw [mapO] at h
  split at h
  · rename_i t e1
    split at h
    · rename_i ts' e2
      cases h
      obtain ⟨G1, g1, k1⟩ := readK_ok hr hu e1 h1
      obtain ⟨G2, g2, k2⟩ := mapK_ok hr hu e2 h2
      exact ⟨G1 ++ G2, by unfold Cs; exact ⟨c, cr, G1, G2, rfl, g1, g2, rfl⟩, fun x hx => (List.mem_append.1 hx).elim (k1 x) (k2 x)⟩
    · cases h
  · cases h
theorem readKA_ok (hr : RelI I w0 σ a w) (hu : look σ.res u = some (.mp b f)) {x : A} {t : V0} {v : Value} (h : readKA u σ x = some t) (hv : VA I w x v) : ∃ G, V0r false w t v G ∧ ∀ x ∈ G, x ∉ I.F u := by
 cases x with
 | one e =>
  rw [readKA] at h
  split at h
  · rename_i t' h1; cases h; exact readK_ok hr hu h1 hv
  · cases h
 | agg l =>
  rw [readKA] at h
  split at h
  · rename_i ts h1; cases h
    obtain ⟨cs, h2, h3⟩ := hv
    obtain ⟨G, h4, h5⟩ := mapK_ok hr hu h1 h3
    exact ⟨G, ⟨cs, h2, h4⟩, h5⟩
  · cases h
theorem ArgsK.ok {l : List Operand} {ins : List V0} (h : ArgsK σ u l ins) (hr : RelI I w0 σ a w) (hu : look σ.res u = some (.mp b f)) : ∃ F, V0s false w ins (l.map a.eval) F ∧ ∀ x ∈ F, x ∉ I.F u := by
 induction h with
 | nil => exact ⟨[], ⟨rfl, rfl⟩, fun _ hb => by cases hb⟩
 | cons hx hv h ih =>
  obtain ⟨F, ih, k1⟩ := ih
  obtain ⟨G, hg, k2⟩ := readKA_ok hr hu hv (hx.va hr rfl)
  exact ⟨G ++ F, ⟨_, _, G, F, rfl, hg, ih, rfl⟩, fun x hx => (List.mem_append.1 hx).elim (k2 x) (k1 x)⟩
end
theorem R_callK {fid : FuncId} {l : List Operand} {tys : Array TypeId} {ins : List V0} {out : V} {b : Nat} {f : Int → Int → Int → Int} {u : Nat} {y : S} {rs : List (Nat × R)} (n : Nat) (h : FnK P fid b f ins out) (ho : o.op = .call { callee := .value (.func fid), args := l.toArray, argTypes := tys }) (hg : o.guard = none) (hd : o.dst.all (fun d => Nat.blt d σ.n) = true)
 (hu : look σ.res u = some (.mp b f)) (hn : nvB u σ.slots σ.res = true) (ha : ArgsK σ u l ins) (hout : outV n out = some (y, rs)) (hf : (rs.all fun x => !σ.has x.1) = true) : Op1 P ops o σ ((σ.adds rs).put o.dst (true, y)) := by
 rintro w0 a w ⟨I, hr⟩ K Q hK
 simp only [Region.wanted, hg, if_true]
 obtain ⟨hF, hM⟩ : I.F u = [b] ∧ MapB w b f := hr.res _ _ hu
 obtain ⟨F, hV, hap⟩ := ha.ok hr hu
 have hgood : Good w [b] := hr.goodF fun x hx => by simp only [List.mem_singleton] at hx; subst hx; exact ((hr.own u _ hu).2 _ (by rw [hF]; simp)).1
 unfold Oper.wp
 rw [run_enter h.1 ho]
 refine (h.2 w _ F hgood hM hV (fun hm => hap b hm (by rw [hF]; simp))).mono fun e w' hR => ?_
 obtain ⟨v, G, rfl, h1, h2, h3, h4, h5⟩ := hR
 obtain ⟨I', hr', hZ', hF'⟩ := hr.mapped hu hn h4 h5
 obtain ⟨I2, g1, g2⟩ := outV_ok hout hf hr' h1 h2 fun x hx => ⟨.inl (Nat.le_trans hr.ext.size (h3 x hx).1), (Vr.lt h1 x hx), (h3 x hx).2, fun hz => by rw [hZ'] at hz; have := hr.old x hz; have := (h3 x hx).1; omega, fun i hi => by rw [hF'] at hi; have := (hr.lt i x hi).1; have := (h3 x hx).1; omega⟩
 refine hK _ _ ⟨I2, g1.put ?_ g2⟩
 have : (σ.adds rs).n = σ.n := adds_n rs
 rw [this]; exact hd
def FnNK (P : Program) (fid : FuncId) (tg ta : List T) (y : Value) (k : Nat) (rows : List (List T)) (f : Int → Int → Int → Int) : Prop :=
 Callee P fid ∧ ∀ w gs as1 F1 F2, Good w [] → Cs false w tg gs F1 → Cs false w ta as1 F2 → Calls P fid #[.agg gs.toArray, .agg as1.toArray, y] w fun e w' => ∃ b mb v t F, e = .returned (.pointer (some ⟨b, 0, none⟩)) ∧ (w.heap.size ≤ b ∧ w.heap.size ≤ mb ∧ b ≠ mb) ∧
  w'.heap[b]? = some (.cells (gs ++ (as1 ++ [y, v, .map (some mb)])).toArray t (0, 0)) ∧ MapB w' mb f ∧ C true w' (.sl k rows) v F ∧ F.Nodup ∧ (∀ x ∈ F, w.heap.size ≤ x ∧ Thaw w' x ∧ x ≠ b ∧ x ≠ mb) ∧ Ext w w'
theorem VEs_cs {I : Ip} {w : World} : ∀ {ts : List T} {cs : List Value}, VEs I w (ts.map .t) cs → ∃ F, Cs false w ts cs F
 | [], cs, h => ⟨[], by unfold Cs; exact ⟨h, rfl⟩⟩
 | t :: ts, cs, ⟨c, cr, e, ⟨G, h1, _⟩, h2⟩ => by
  subst e
  obtain ⟨F, h3⟩ := VEs_cs h2
  exact ⟨G ++ F, by unfold Cs; exact ⟨c, cr, G, F, rfl, h1, h3, rfl⟩⟩
theorem any_t {id : Nat} (ts : List T) : (ts.map E.t).any (E.has id) = false := by
 induction ts with
 | nil => rfl
 | cons t ts ih => simp only [List.map_cons, List.any_cons, ih]; rfl
theorem VEs_app {I : Ip} {w : World} : ∀ {l l' : List E} {cs cs' : List Value}, VEs I w l cs → VEs I w l' cs' → VEs I w (l ++ l') (cs ++ cs')
 | [], _, cs, cs', h, h' => by have h : cs = [] := h; subst h; exact h'
 | _ :: _, _, _, _, ⟨c, cr, e, h1, h2⟩, h' => by subst e; exact ⟨c, _, rfl, h1, VEs_app h2 h'⟩
theorem R_callNK {fid : FuncId} {x1 x2 x3 : Operand} {tys : Array TypeId} {tg ta : List T} {y : Int} {k : Nat} {rows : List (List T)} (n u : Nat) (f : Int → Int → Int → Int) (h : FnNK P fid tg ta (.int .i64 y) k rows f) (ho : o.op = .call { callee := .value (.func fid), args := #[x1, x2, x3], argTypes := tys }) (hg : o.guard = none) (hd : o.dst.all (fun d => Nat.blt d σ.n) = true)
 (h1 : Get σ true x1 (.agg (tg.map .t))) (h2 : Get σ true x2 (.agg (ta.map .t))) (h3 : Get σ true x3 (.one (.t (.v (.int .i64 y))))) (hf : σ.has u = false) (hf1 : σ.has (n + 1) = false) (hf2 : σ.has n = false) (hun : u ≠ n + 1 ∧ u ≠ n) :
 OpE P ops o σ fun σ' => ∃ mb : Nat, σ' = (((σ.add u (.mp mb f)).add (n + 1) (.row k rows)).add n (.box (tg.map .t ++ (ta.map .t ++ [.t (.v (.int .i64 y)), .rf (n + 1), .t (.v (.map (some mb)))])))).put o.dst (true, .a (.one (.pp n 0))) := by
 rintro w0 a w ⟨I, hr⟩ K Q hK
 simp only [Region.wanted, hg, if_true]
 obtain ⟨gs, e1, g1⟩ := h1.va hr rfl
 obtain ⟨as1, e2, g2⟩ := h2.va hr rfl
 have e3 := map_at (h3.va hr rfl)
 obtain ⟨F1, c1⟩ := VEs_cs g1
 obtain ⟨F2, c2⟩ := VEs_cs g2
 unfold Oper.wp
 rw [run_enter (l := [x1, x2, x3]) h.1 ho]
 simp only [List.map_cons, List.map_nil, e1, e2, e3]
 refine (h.2 w gs as1 F1 F2 hr.good c1 c2).mono fun e w' hR => ?_
 obtain ⟨b, mb, v, t, F, rfl, ⟨hb1, hb2, hb3⟩, hB, hMB, hC, hN, hFr, hx⟩ := hR
 have hr1 := hr.later hx
 have hblt : b < w'.heap.size := (Array.getElem?_eq_some_iff.1 hB).1
 have hmlt : mb < w'.heap.size := hMB.lt
 have hfree : ∀ x, w.heap.size ≤ x → x < w'.heap.size → Thaw w' x → Free I w0 w' x := fun x h1 h2 h3 => ⟨.inl (Nat.le_trans hr.ext.size h1), h2, h3, fun hz => by have := hr.old x hz; omega, fun i hi => by have := (hr.lt i x hi).1; omega⟩
 have f1 := hfree mb hb2 hmlt hMB.thaw
 have f2 : ∀ x ∈ F, Free I w0 w' x := fun x hm => hfree x (hFr x hm).1 (C.lt hC x hm) (hFr x hm).2.1
 have f3 := hfree b hb1 hblt ⟨.inl _, _, hB⟩
 have r1 := hr1.addF (id := u) hf (G := [mb]) (u := undef) (b := mb) (r := .mp mb f) (by simp) (fun x hm => by simp only [List.mem_singleton] at hm; subst hm; exact f1) ⟨by simp [Ip.set], hMB⟩
 have r2 := r1.addF (id := n + 1) (has_addR hf1 hun.1 rfl) (G := F) (u := v) (b := 0) (r := .row k rows) hN (fun x hm => (f2 x hm).set fun h => (hFr x hm).2.2.2 (by simpa using h)) (by show C true w' _ _ _; simpa [Ip.set] using hC)
 have r3 := r2.addF (id := n) (has_addR (has_addR hf2 hun.2 rfl) (by omega) rfl) (G := [b]) (u := undef) (b := b) (r := .box (tg.map .t ++ (ta.map .t ++ [.t (.v (.int .i64 y)), .rf (n + 1), .t (.v (.map (some mb)))]))) (by simp) (fun x hm => by
  simp only [List.mem_singleton] at hm; subst hm
  exact (f3.set fun h => hb3 (by simpa using h)).set fun h => (hFr x h).2.2.1 rfl) ⟨by simp [Ip.set], _, t, by simpa [Ip.set] using hB, by
   refine VEs_app (((((g1.mono hx).set (any_t tg)).set (any_t tg)).set (any_t tg))) (VEs_app (((((g2.mono hx).set (any_t ta)).set (any_t ta)).set (any_t ta))) ⟨_, _, rfl, VE_v _, _, _, rfl, ⟨by simp [Ip.set], ?_⟩, _, _, rfl, VE_v _, rfl⟩)
   simp only [C] at hC
   obtain ⟨a', l', k', e, _⟩ := hC
   exact ⟨a', l', k', e⟩⟩
 exact hK _ _ _ ⟨mb, rfl⟩ ⟨_, r3.put hd (by show Value.pointer _ = Value.pointer _; simp [Ip.set])⟩
end
end Go.Q
