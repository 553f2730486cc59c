import Derived.Test.YtamnfkfjfelbbaaKntxw
set_option linter.unusedVariables false
set_option linter.unusedSimpArgs false
namespace Go.Q
open Go.RowKit
section
variable {P : Program} {ops : Array Oper} {o : Oper} {σ : St}
def FnTk (P : Program) (f : FuncId) (K : List (Nat × Obj)) (ins : List V0) (out : V) : Prop := Callee P f ∧ ∀ w vs F, Good w [] → V0s false w ins vs F → Keeps w K → Calls P f (List.toArray vs) w (FnPost w out)
theorem R_callTk {f : FuncId} {K : List (Nat × Obj)} {l : List Operand} {tys : Array TypeId} {ins : List V0} {out : V} {y : S} {rs : List (Nat × R)} (n : Nat) (h : FnTk P f K ins out) (hk : look σ.res 999999 = some (.kept K)) (ho : o.op = .call { callee := .value (.func f), args := l.toArray, argTypes := tys }) (hg : o.guard = none) (hd : o.dst.all (fun d => Nat.blt d σ.n) = true)
 (ha : Args σ true l ins) (hout : outV n out = some (y, rs)) (hf : (rs.all fun x => !σ.has x.1) = true) : Op1 P ops o σ ((σ.adds rs).put o.dst (true, y)) := by
 rintro w0 a w ⟨I, hr⟩ KK Q hK
 simp only [Region.wanted, hg, if_true]
 obtain ⟨F, hF⟩ := ha.ok hr rfl
 unfold Oper.wp
 rw [run_enter h.1 ho]
 refine (h.2 w _ F hr.good hF (kept_at hr hk)).mono fun e w' hR => ?_
 obtain ⟨v, G, rfl, h1, h2, h3, h4⟩ := hR
 obtain ⟨I', g1, g2⟩ := outV_ok hout hf (hr.later h4) h1 h2 fun b hb => ⟨.inl (Nat.le_trans hr.ext.size (h3 b hb).1), (Vr.lt h1 b hb), (h3 b hb).2, fun hz => by have := hr.old b hz; have := (h3 b hb).1; omega, fun i hi => by have := (hr.lt i b hi).1; have := (h3 b hb).1; omega⟩
 refine hK _ _ ⟨I', g1.put ?_ g2⟩
 have : (σ.adds rs).n = σ.n := adds_n rs
 rw [this]; exact hd
theorem FnT.tk {f : FuncId} {K : List (Nat × Obj)} {ts : List T} {gs : List Value} {out : V} (h : FnT P f [.agg ts] out) (hK : ∀ w, Keeps w K → ∃ F, Cs false w ts gs F) : FnTk P f K [.agg (gs.map .v)] out := ⟨h.1, fun w vs F hG hv hk => by
 obtain ⟨v, vr, G1, G2, rfl, ⟨cs, rfl, h2⟩, ⟨rfl, rfl⟩, _⟩ := hv
 have e : ∀ {l cs : List Value} {G : List Nat}, Cs false w (l.map .v) cs G → cs = l := by
  intro l
  induction l with
  | nil => intro cs G h; unfold Cs at h; exact h.1
  | cons x l ih =>
   intro cs G h
   rw [List.map_cons] at h
   unfold Cs at h
   obtain ⟨c, cr, G1, G2, rfl, g1, g2, _⟩ := h
   unfold C at g1
   rw [ih g2, g1.1]
 rw [e h2]
 obtain ⟨F', h3⟩ := hK w hk
 exact h.2 w _ (F' ++ []) hG ⟨_, _, F', [], rfl, ⟨gs, rfl, h3⟩, ⟨rfl, rfl⟩, rfl⟩⟩
theorem R_makeMap {t : TypeId} (u : Nat) (f : Int → Int → Int → Int) (ho : o.op = .makeMap t none) (hg : o.guard = none) (hd : o.dst.all (fun d => Nat.blt d σ.n) = true) (hf : σ.has u = false) :
 OpE P ops o σ fun σ' => ∃ mb : Nat, True ∧ σ' = (σ.add u (.mp mb f)).put o.dst (true, .a (.one (.t (.v (.map (some mb)))))) := by
 rintro w0 a w ⟨I, hr⟩ K Q hK
 simp only [Region.wanted, hg, if_true]
 have hrun : (Instr.makeMap t none).run P w = .ok (.map (some w.heap.size)) (w.alloc (.map #[] 0)) := by simp [Instr.makeMap]
 have h1 : (w.alloc (.map #[] 0)).heap[w.heap.size]? = some (.map #[] 0) := heap_alloc_new w _
 have hMB : MapB (w.alloc (.map #[] 0)) w.heap.size f := ⟨#[], 0, h1, fun e he => by simp at he⟩
 have hr' := hr.add (id := u) hf ((Ext.refl w).alloc (.map #[] 0)) (G := [w.heap.size]) (u := undef) (b := w.heap.size) (r := .mp w.heap.size f) ⟨by simp, fun b hb => by simp only [List.mem_singleton] at hb; subst hb; exact ⟨Nat.le_refl _, hMB.lt, hMB.thaw⟩⟩ ⟨by simp [Ip.set], hMB⟩
 unfold Oper.wp
 simp [execOp, ho, hrun, Result.andThen, Oper.upon]
 exact hK _ _ _ ⟨w.heap.size, trivial, rfl⟩ ⟨_, hr'.put hd (VS_v _)⟩
def NKRes (fn : Func) (cs : List Value) (k : Nat) (rows : List (List T)) (f : Int → Int → Int → Int) (σ : St) : Prop :=
 ∃ r id aid mb : Nat, fn.results = #[.tmp r] ∧ look σ.slots r = some (true, .a (.one (.pp id 0))) ∧ look σ.res id = some (.box (cs.map (fun v => .t (.v v)) ++ [.rf aid, .t (.v (.map (some mb)))])) ∧ look σ.res aid = some (.row k rows) ∧ look σ.res 888888 = some (.mp mb f)
def RetNK (fn : Func) (cs : List Value) (k : Nat) (rows : List (List T)) (f : Int → Int → Int → Int) : Exit → St → Prop
 | .normal, σ => NKRes fn cs k rows f σ
 | .ret, σ => NKRes fn cs k rows f σ
 | _, _ => False
theorem VEs_v {I : Ip} {w : World} : ∀ {l : List Value} {l' : List E} {cs : List Value}, VEs I w (l.map (fun v => .t (.v v)) ++ l') cs → ∃ cs', cs = l ++ cs' ∧ VEs I w l' cs'
 | [], _, cs, h => ⟨cs, rfl, h⟩
 | x :: l, l', cs, ⟨c, cr, e, ⟨_, g, _⟩, h⟩ => by
  obtain ⟨cs', e1, h2⟩ := VEs_v h
  simp only [C] at g
  exact ⟨cs', by rw [e, e1, g.1]; rfl, h2⟩
theorem Cs.one1 {w : World} : ∀ {ts : List T} {cs : List Value} {F : List Nat}, Cs false w ts cs F → ∀ v ∈ cs, v.oneCell' = true
 | [], cs, F, h => by unfold Cs at h; rw [h.1]; exact fun v hv => (by cases hv)
 | t :: ts, cs, F, h => by
  unfold Cs at h
  obtain ⟨c, cr, G1, G2, rfl, g1, g2, _⟩ := h
  intro v hv
  rcases List.mem_cons.1 hv with rfl | hv
  · exact g1.cell1
  · exact g2.one1 v hv
theorem FnNK.walk {n : Nat} {fid : FuncId} {fn : Func} {c : Code} {t1 t2 t3 t4 t5 : T} {y : Value} {k : Nat} {rows : List (List T)} {f : Int → Int → Int → Int} (hf : P.funcs[fid]? = some fn) (hb : fn.body = some c) (hname : (fn.name == "runtime.NumGoroutine") = false) (hnt : fn.ntmps = n) (hn : Nat.ble 3 n = true) (hy : y.oneCell' = true)
 (h : ∀ (g0 g1 a0 a1 a2 : Value) (K : List (Nat × Obj)), (∀ w, Keeps w K → ∃ F, Cs false w [t1, t2] [g0, g1] F) → ∀ w0, AW P w0 c (RetNK fn [g0, g1, a0, a1, a2, y] k rows f) ⟨n, [(2, (true, .a (.one (.t (.v y))))), (1, (true, .a (.agg ([T.v a0, .v a1, .v a2].map E.t)))), (0, (true, .a (.agg ([T.v g0, .v g1].map E.t))))], [(999999, .kept K)]⟩) :
 FnNK P fid [t1, t2] [t3, t4, t5] y k rows f := by
 subst hnt
 refine ⟨⟨fn, hf, hname, by rw [hb]; rfl⟩, fun w gs as1 F1 F2 hG h1 h2 => ?_⟩
 obtain ⟨g0, g1, rfl⟩ : ∃ g0 g1, gs = [g0, g1] := by
  have := h1.len
  match gs, this with
  | [g0, g1], _ => exact ⟨g0, g1, rfl⟩
 obtain ⟨a0, a1, a2, rfl⟩ : ∃ a0 a1 a2, as1 = [a0, a1, a2] := by
  have := h2.len
  match as1, this with
  | [a0, a1, a2], _ => exact ⟨a0, a1, a2, rfl⟩
 have hn' : 3 ≤ fn.ntmps := Nat.le_of_ble_eq_true hn
 let K : List (Nat × Obj) := F1.filterMap fun b => (w.heap[b]?).map fun o => (b, o)
 have hK : Keeps w K := fun x hx => by
  obtain ⟨b, _, e⟩ := List.mem_filterMap.1 hx
  cases e1 : w.heap[b]? with
  | none => rw [e1] at e; cases e
  | some o => rw [e1] at e; cases e; exact e1
 have hKr : ∀ w', Keeps w' K → ∃ F, Cs false w' [t1, t2] [g0, g1] F := fun w' hk => ⟨F1, h1.congr fun b hb => by
  have hlt := h1.lt b hb
  have e1 : w.heap[b]? = some (w.heap[b]'hlt) := Array.getElem?_eq_getElem _
  rw [e1]
  exact hk (b, _) (List.mem_filterMap.2 ⟨b, hb, by rw [e1]; rfl⟩)⟩
 have o1 := h1.one1
 have o2 := h2.one1
 let a : Act := ⟨#[.agg #[g0, g1], .agg #[a0, a1, a2], y] ++ Array.replicate (fn.ntmps - (#[Value.agg #[g0, g1], .agg #[a0, a1, a2], y]).size) undef, []⟩
 let I0 : Ip := ⟨fun b => b < w.heap.size, fun _ => [], fun _ => undef, fun _ => 0⟩
 have hget : ∀ (j : Nat) v, [Value.agg #[g0, g1], .agg #[a0, a1, a2], y][j]? = some v → a.tmps.getD j undef = v := fun j v hj => by
  have hjl := (List.getElem?_eq_some_iff.1 hj).1
  simp only [a]
  rw [Array.getD_eq_getD_getElem?, Array.getElem?_append_left (by simpa using hjl)]
  have : #[Value.agg #[g0, g1], .agg #[a0, a1, a2], y][j]? = some v := by simpa using hj
  rw [this]; rfl
 have tv : ∀ v : Value, v.oneCell' = true → VE I0 w (.t (.v v)) v := fun v hv => VE_v v hv
 have hr0 : RelI I0 ⟨w, [], hG⟩ ⟨fn.ntmps, [(2, (true, .a (.one (.t (.v y))))), (1, (true, .a (.agg ([T.v a0, .v a1, .v a2].map E.t)))), (0, (true, .a (.agg ([T.v g0, .v g1].map E.t))))], [(999999, .kept K)]⟩ a w := by
  refine ⟨Chg.refl w [], rfl, by simp [a]; omega, fun i x hi => ?_, fun id r hi => ?_, fun b hb => hb, fun id b hb => (by cases hb), fun id r hi => ⟨List.nodup_nil, fun b hb => (by cases hb)⟩, fun i j _ b hb => (by cases hb)⟩
  · rw [look_cons] at hi
    split at hi
    · rename_i e; subst e; cases hi
      rw [hget 2 y rfl]; exact tv y hy
    rw [look_cons] at hi
    split at hi
    · rename_i e; subst e; cases hi
      rw [hget 1 _ rfl]
      exact ⟨[a0, a1, a2], rfl, _, _, rfl, tv a0 (o2 a0 (by simp)), _, _, rfl, tv a1 (o2 a1 (by simp)), _, _, rfl, tv a2 (o2 a2 (by simp)), rfl⟩
    rw [look_cons] at hi
    split at hi
    · rename_i e; subst e; cases hi
      rw [hget 0 _ rfl]
      exact ⟨[g0, g1], rfl, _, _, rfl, tv g0 (o1 g0 (by simp)), _, _, rfl, tv g1 (o1 g1 (by simp)), rfl⟩
    cases hi
  · rw [look_cons] at hi
    split at hi
    · cases hi; exact ⟨rfl, fun x hx => ⟨hK x hx, hK.lt x hx⟩⟩
    · cases hi
 refine calls_of_wp hf hb (Code.wp_mono ?_ (h g0 g1 a0 a1 a2 K hKr ⟨w, [], hG⟩ _ _ ⟨_, hr0⟩))
 rintro e a' w' ⟨σ1, h1, I, hI⟩
 have key : NKRes fn [g0, g1, a0, a1, a2, y] k rows f σ1 → a'.defers = [] ∧ ∃ v', (results fn a'.tmps).run P w' = .ok v' w' ∧ ∃ b mb v t F, (Ending.returned v') = .returned (.pointer (some ⟨b, 0, none⟩)) ∧ (w.heap.size ≤ b ∧ w.heap.size ≤ mb ∧ b ≠ mb) ∧
  w'.heap[b]? = some (.cells ([g0, g1] ++ ([a0, a1, a2] ++ [y, v, .map (some mb)])).toArray t (0, 0)) ∧ MapB w' mb f ∧ C true w' (.sl k rows) v F ∧ F.Nodup ∧ (∀ x ∈ F, w.heap.size ≤ x ∧ Thaw w' x ∧ x ≠ b ∧ x ≠ mb) ∧ Ext w w' := fun ⟨r, id, aid, mb, q1, q2, q3, q4, q5⟩ => by
  obtain ⟨vs, r1, r2⟩ := run_results (P := P) (fn := fn) (l := [.tmp r]) hI q1 (.tmp q2 .nil)
  obtain ⟨v1, vr, rfl, r3, r4⟩ := r2
  have r4 : vr = [] := r4
  subst r4
  have r3 : v1 = .pointer (some ⟨I.B id, 0, none⟩) := r3
  subst r3
  obtain ⟨m1, ws, t, m2, m3⟩ : I.F id = [I.B id] ∧ ∃ vs e, w'.heap[I.B id]? = some (.cells (List.toArray vs) e (0, 0)) ∧ VEs I w' _ vs := hI.res _ _ q3
  obtain ⟨cs', rfl, m4⟩ := VEs_v m3
  obtain ⟨v, cr, rfl, ⟨m5, _⟩, cm, cr2, rfl, ⟨_, m6, _⟩, m7⟩ := m4
  have m7 : cr2 = [] := m7
  subst m7
  simp only [C] at m6
  obtain ⟨rfl, _⟩ := m6
  have hC : C true w' (.sl k rows) (I.hd aid) (I.F aid) := hI.res _ _ q4
  obtain ⟨p1, p2⟩ : I.F 888888 = [mb] ∧ MapB w' mb f := hI.res _ _ q5
  have own : ∀ i r0, look σ1.res i = some r0 → ∀ x ∈ I.F i, w.heap.size ≤ x ∧ Thaw w' x := fun i r0 hi x hx => ⟨((hI.own i r0 hi).2 x hx).1.resolve_right (by simp), ((hI.own i r0 hi).2 x hx).2⟩
  have ne1 : id ≠ 888888 := fun e => by rw [e, q5] at q3; cases q3
  have ne2 : aid ≠ 888888 := fun e => by rw [e, q5] at q4; cases q4
  have ne3 : aid ≠ id := fun e => by rw [e, q3] at q4; cases q4
  refine ⟨hI.defers, _, r1, I.B id, mb, v, t, I.F aid, rfl, ⟨(own id _ q3 _ (by rw [m1]; simp)).1, (own 888888 _ q5 _ (by rw [p1]; simp)).1, fun e => hI.apart id 888888 ne1 (I.B id) (by rw [m1]; simp) (by rw [p1, e]; simp)⟩, m2, p2, by rw [m5]; exact hC, (hI.own aid _ q4).1, fun x hx => ⟨(own aid _ q4 x hx).1, (own aid _ q4 x hx).2, fun e => hI.apart aid id ne3 x hx (by rw [m1, e]; simp), fun e => hI.apart aid 888888 ne2 x hx (by rw [p1, e]; simp)⟩, hI.ext.toExt⟩
 cases e with
 | normal => exact key h1
 | ret => exact key h1
 | exit id => exact h1.elim
 | goto l => exact h1.elim
 | panic c => exact h1.elim
 | outgrown => exact h1.elim
end
end Go.Q
