import Derived.Test.YtamnfkfjfelbbaaAbsZxw
import Derived.Test.YtamnfkfjfelbbaaB56xw
import Derived.Test.YtamnfkfjfelbbaaAbsOxw
set_option linter.unusedVariables false
set_option linter.unusedSimpArgs false
namespace Go.Q
open Go.RowKit
section
variable {P : Program} {ops : Array Oper} {o : Oper} {σ : St} {τ : Type}
def CuOk (w : World) (g : Nat × Value) : Prop := CuB (fun b => b < w.heap.size ∧ b ≠ g.1) w g ∧ Thaw w g.1
def DPost (w : World) (g : Nat × Value) (p : τ → Prop) (out : τ → V) (e : Ending) (w' : World) : Prop :=
 ∃ x v F, e = .returned v ∧ p x ∧ Vr true w' (out x) v F ∧ F.Nodup ∧ (∀ b ∈ F, w.heap.size ≤ b ∧ Thaw w' b) ∧ Chg w w' [g.1] ∧ CuOk w' g
def FnD (P : Program) (f : FuncId) (ins : List V0) (p : τ → Prop) (out : τ → V) : Prop :=
 Callee P f ∧ ∀ w g vs F, Good w [g.1] → CuOk w g → V0s false w ins vs F → g.1 ∉ F → Calls P f (List.toArray (.pointer (some ⟨g.1, 0, none⟩) :: vs)) w (DPost w g p out)
def FnE (P : Program) (f : FuncId) (ins : List V0) (p : τ → Prop) (out : τ → V) : Prop :=
 Callee P f ∧ ∀ w vs F, Good w [] → V0s false w ins vs F → Calls P f (List.toArray vs) w fun e w' => ∃ x, p x ∧ FnPost w (out x) e w'
theorem V0s.c {w : World} {FF : List Nat} : ∀ {ins : List V0} {vs : List Value} {F : List Nat}, V0s false w ins vs F → (∀ b ∈ F, b ∉ FF) → V0c w FF (ins.map fun x => (false, x)) vs []
 | [], vs, F, ⟨h, _⟩, _ => ⟨h, rfl⟩
 | x :: r, vs, F, ⟨v, vr, G1, G2, h1, h2, h3, h4⟩, hF => by
  subst h4
  exact ⟨v, vr, G1, [], h1, h2, h3.c fun b hb => hF b (by simp [hb]), by simpa using fun b hb => hF b (by simp [hb])⟩
def DRes (P : Program) (fn : Func) (g : Nat × Value) (p : τ → Prop) (out : τ → V) (σ : St) : Prop := ∃ x, p x ∧ look σ.res 888888 = some (.cur g) ∧ Res P fn true (out x) ⟨σ.n, σ.slots, delR σ.res 888888⟩
def RetD (P : Program) (fn : Func) (g : Nat × Value) (p : τ → Prop) (out : τ → V) : Exit → St → Prop
 | .normal, σ => DRes P fn g p out σ
 | .ret, σ => DRes P fn g p out σ
 | _, _ => False
def RetE (P : Program) (fn : Func) (p : τ → Prop) (out : τ → V) : Exit → St → Prop
 | .normal, σ => ∃ x, p x ∧ Res P fn true (out x) σ
 | .ret, σ => ∃ x, p x ∧ Res P fn true (out x) σ
 | _, _ => False
theorem DRes.mk {fn : Func} {g : Nat × Value} {p : τ → Prop} {out : τ → V} {σ : St} {x : τ} (hc : look σ.res 888888 = some (.cur g)) (h : Res P fn true (out x) ⟨σ.n, σ.slots, delR σ.res 888888⟩) (hp : p x) : DRes P fn g p out σ := ⟨x, hp, hc, h⟩
theorem ERes.mk {fn : Func} {p : τ → Prop} {out : τ → V} {σ : St} {x : τ} (h : Res P fn true (out x) σ) (hp : p x) : ∃ x, p x ∧ Res P fn true (out x) σ := ⟨x, hp, h⟩
theorem FnE.walk {n : Nat} {f : FuncId} {fn : Func} {c : Code} {ins : List V0} {p : τ → Prop} {out : τ → V} (hf : P.funcs[f]? = some fn) (hb : fn.body = some c) (hname : (fn.name == "runtime.NumGoroutine") = false) (hnt : fn.ntmps = n) (hn : Nat.ble ins.length n = true)
 (h : ∀ w0, AW P w0 c (RetE P fn p out) (st0 n ins)) : FnE P f ins p out := by
 subst hnt
 refine ⟨⟨fn, hf, hname, by rw [hb]; rfl⟩, fun w vs F hG hv => ?_⟩
 refine calls_of_wp hf hb (Code.wp_mono ?_ (h ⟨w, [], hG⟩ _ _ (rel0 hG hv hn)))
 rintro e a' w' ⟨σ, h1, I, hI⟩
 have key : (∃ x, p x ∧ Res P fn true (out x) σ) → a'.defers = [] ∧ ∃ v, (results fn a'.tmps).run P w' = .ok v w' ∧ ∃ x, p x ∧ FnPost w (out x) (.returned v) w' := fun ⟨x, hp, h1⟩ => by
  obtain ⟨v, F, g1, g2, g3⟩ := h1 I ⟨w, [], hG⟩ a' w' hI
  exact ⟨hI.defers, v, g1, x, hp, v, F, rfl, g2, (g3.2 rfl).1, fun b hb => ⟨(g3.1 b hb).resolve_right (by simp), (g3.2 rfl).2 b hb⟩, hI.ext.toExt⟩
 cases e with
 | normal => exact key h1
 | ret => exact key h1
 | exit id => exact h1.elim
 | goto l => exact h1.elim
 | panic c => exact h1.elim
 | outgrown => exact h1.elim
theorem trunc_get {α : Type} (l : Array α) (n k : Nat) (h : n ≤ l.size) (hk : k < n) : (l.extract 0 n)[k]? = l[k]? := by
 rw [Array.getElem?_extract]
 simp
 omega
theorem FnD.walk {n : Nat} {f : FuncId} {fn : Func} {c : Code} {ins : List V0} {p : τ → Prop} {out : τ → V} {σ' : Nat × Value → St} (hf : P.funcs[f]? = some fn) (hb : fn.body = some c) (hname : (fn.name == "runtime.NumGoroutine") = false) (hnt : fn.ntmps = n) (hn : Nat.ble (ins.length + 1) n = true)
 (hi : ∀ g, initC 1 (ins.map fun x => (false, x)) ⟨n, [(0, (true, .a (.one (.pp 888888 0))))], [(888888, .cur g)]⟩ = some (σ' g)) (h : ∀ w0 g, AW P w0 c (RetD P fn g p out) (σ' g)) : FnD P f ins p out := by
 subst hnt
 refine ⟨⟨fn, hf, hname, by rw [hb]; rfl⟩, fun w g vs F hG hC hv hgF => ?_⟩
 have hv' := hv.c (FF := [g.1]) fun b hb hm => hgF (by simp only [List.mem_singleton] at hm; rwa [← hm])
 have hl : vs.length = ins.length := by simpa using hv'.len
 have hn' : ins.length + 1 ≤ fn.ntmps := Nat.le_of_ble_eq_true hn
 have hglt : g.1 < w.heap.size := hC.1.lt
 let a0 : Act := ⟨(List.toArray (.pointer (some ⟨g.1, 0, none⟩) :: vs)) ++ Array.replicate (fn.ntmps - (List.toArray (Value.pointer (some ⟨g.1, 0, none⟩) :: vs)).size) undef, []⟩
 let I0 : Ip := ⟨fun b => b < w.heap.size ∧ b ≠ g.1, fun i => if i = 888888 then [g.1] else [], fun _ => undef, fun i => if i = 888888 then g.1 else 0⟩
 have hget : ∀ (j : Nat) v, (Value.pointer (some ⟨g.1, 0, none⟩) :: vs)[j]? = some v → a0.tmps.getD j undef = v := fun j v hj => by
  have hjl := (List.getElem?_eq_some_iff.1 hj).1
  simp only [a0]
  rw [Array.getD_eq_getD_getElem?, Array.getElem?_append_left (by simpa using hjl)]
  have : (List.toArray (Value.pointer (some ⟨g.1, 0, none⟩) :: vs))[j]? = some v := by simpa using hj
  rw [this]; rfl
 have hr0 : RelI I0 ⟨w, [g.1], hG⟩ ⟨fn.ntmps, [(0, (true, .a (.one (.pp 888888 0))))], [(888888, .cur g)]⟩ a0 w := by
  have key : ∀ i r, look [(888888, R.cur g)] i = some r → i = 888888 ∧ r = .cur g := fun i r hi => by
   rw [look_cons] at hi
   split at hi
   · rename_i e; cases hi; exact ⟨e.symm, rfl⟩
   · cases hi
  refine ⟨Chg.refl w [g.1], rfl, by simp [a0, hl]; omega, fun i z hi => ?_, fun id r hi => ?_, fun b hb => hb.1, fun id b hb => ?_, fun id r hi => ?_, fun i j hne b hb hb' => ?_⟩
  · rw [look_cons] at hi
    split at hi
    · rename_i e
      subst e; cases hi
      exact hget 0 _ rfl
    · cases hi
  · obtain ⟨rfl, rfl⟩ := key id r hi
    exact ⟨rfl, rfl, hC.1⟩
  · simp only [I0] at hb ⊢
    split at hb
    · simp only [List.mem_singleton] at hb; subst hb; exact ⟨hglt, fun h => h.2 rfl⟩
    · cases hb
  · obtain ⟨rfl, rfl⟩ := key id r hi
    refine ⟨by simp [I0], fun b hb => ?_⟩
    have : b = g.1 := by simpa [I0] using hb
    subst this
    exact ⟨.inr (by simp), hC.2⟩
  · simp only [I0] at hb hb'
    split at hb
    · split at hb'
      · omega
      · cases hb'
    · cases hb
 obtain ⟨I1, r1⟩ := initC_ok (FF := [g.1]) (fun _ _ _ => trivial) (hi g) hr0 (fun b h1 h2 => ⟨h1, fun e => h2 (by simp [e])⟩) hv' (by simp) (fun b hb => by cases hb) fun j v hj => hget (1 + j) v (by rw [Nat.add_comm]; simpa using hj)
 refine calls_of_wp hf hb (Code.wp_mono ?_ (h ⟨w, [g.1], hG⟩ g _ _ ⟨I1, r1⟩))
 rintro e a' w' ⟨σ1, h1, I, hI⟩
 have key : DRes P fn g p out σ1 → a'.defers = [] ∧ ∃ v, (results fn a'.tmps).run P w' = .ok v w' ∧ DPost w g p out (.returned v) w' := fun ⟨x, hp, hcur, h1⟩ => by
  obtain ⟨hF, hB, hcu⟩ : I.F 888888 = [g.1] ∧ I.B 888888 = g.1 ∧ CuB I.Z w' g := hI.res _ _ hcur
  have hsz : w.heap.size ≤ w'.heap.size := hI.ext.size
  let W : World := { w' with heap := w'.heap.extract 0 w.heap.size }
  have hW : W.heap.size = w.heap.size := by simp [W]; omega
  have hWk : ∀ k, k < w.heap.size → W.heap[k]? = w'.heap[k]? := fun k hk => trunc_get _ _ _ hsz hk
  have hGW : Good W [] := hG.step (Nat.le_of_eq hW.symm) (fun k hk hn => (hWk k hk).trans (hI.ext.block k hk hn)) fun b hb => by cases hb
  have hI2 : RelI I ⟨W, [], hGW⟩ ⟨σ1.n, σ1.slots, delR σ1.res 888888⟩ a' w' := by
   refine ⟨⟨rfl, rfl, rfl, by rw [hW]; exact hsz, fun k hk _ => ?_⟩, hI.defers, hI.size, hI.slots, fun id r hr => hI.res id r (look_delR _ _ _ _ hr).2, hI.old, hI.lt, fun id r hr => ?_, hI.apart⟩
   · rw [hW] at hk; exact (hWk k hk).symm
   · obtain ⟨e1, e2⟩ := look_delR _ _ _ _ hr
     refine ⟨(hI.own id r e2).1, fun b hb => ⟨?_, ((hI.own id r e2).2 b hb).2⟩⟩
     rcases ((hI.own id r e2).2 b hb).1 with h | h
     · left; show W.heap.size ≤ b; rw [hW]; exact h
     · exfalso
       have : b = g.1 := by simpa using h
       subst this
       exact hI.apart id 888888 e1 _ hb (by rw [hF]; simp)
  obtain ⟨v, F, g1, g2, g3⟩ := h1 I ⟨W, [], hGW⟩ a' w' hI2
  refine ⟨hI.defers, v, g1, x, v, F, rfl, hp, g2, (g3.2 rfl).1, fun b hb => ⟨?_, (g3.2 rfl).2 b hb⟩, hI.ext, ?_, ?_⟩
  · have := (g3.1 b hb).resolve_right (by simp)
    rwa [show (Base.W ⟨W, [], hGW⟩).heap.size = w.heap.size from hW] at this
  · refine hcu.congr rfl fun b _ hz => ⟨⟨hI.old b hz, fun e => ?_⟩, rfl⟩
    subst e
    exact (hI.lt 888888 _ (by rw [hF]; simp)).2 hz
  · exact ((hI.own 888888 _ hcur).2 g.1 (by rw [hF]; simp)).2
 cases e with
 | normal => exact key h1
 | ret => exact key h1
 | exit id => exact h1.elim
 | goto l => exact h1.elim
 | panic c => exact h1.elim
 | outgrown => exact h1.elim
def readD (u : Nat) (σ : St) : E → Option T
 | .t x => some x
 | .vw id x => bif Nat.beq id u then none else some x
 | .rf id => match look σ.res id with | some (.row k rows) => some (.sl k rows) | _ => none
 | _ => none
def readDA (u : Nat) (σ : St) : A → Option V0
 | .one e => match readD u σ e with | some t => some (.one t) | none => none
 | .agg l => match mapO (readD u σ) l with | some ts => some (.agg ts) | none => none
inductive ArgsD (σ : St) (u : Nat) (q : Bool) : List Operand → List V0 → Prop where
 | nil : ArgsD σ u q [] []
 | cons {x : Operand} {A0 : A} {v : V0} {l : List Operand} {vs : List V0} (hx : Get σ q x A0) (hv : readDA u σ A0 = some v) (h : ArgsD σ u q l vs) : ArgsD σ u q (x :: l) (v :: vs)
section
variable {I : Ip} {w0 : Base} {w : World} {a : Act} {u : Nat} {g : Nat × Value}
theorem readD_ok (hr : RelI I w0 σ a w) (hu : look σ.res u = some (.cur g)) {e : E} {t : T} {c : Value} (h : readD u σ e = some t) (hv : VE I w e c) : ∃ G, C false w t c G ∧ ∀ b ∈ G, b ∉ I.F u := by
 cases e with
 | t x => cases h; obtain ⟨G, h1, h2⟩ := hv; exact ⟨G, h1, fun b hb hm => (hr.lt u b hm).2 (h2 b hb)⟩
 | vw id x =>
  rw [readD] at h
  cases hb : Nat.beq id u with
  | true => rw [hb] at h; cases h
  | false =>
   rw [hb] at h; cases h
   obtain ⟨G, h1, h2⟩ := hv
   exact ⟨G, h1, fun b hb' => hr.apart id u (beq_ne hb) b (h2 b hb')⟩
 | rf id =>
  rw [readD] at h
  split at h
  · rename_i k rows h0
    cases h
    have hc : c = I.hd id := hv.1
    have hne : id ≠ u := fun e => by subst e; rw [hu] at h0; cases h0
    rw [hc]; exact ⟨_, C.read (show C true w (.sl k rows) _ _ from hr.res id _ h0), hr.apart id u hne⟩
  · cases h
 | pp id off => cases h
 | pr id k i j => cases h
 | sb id k i j => cases h
 | tl id k j => cases h
 | pf id k j => cases h
 | no => cases h
theorem mapD_ok (hr : RelI I w0 σ a w) (hu : look σ.res u = some (.cur g)) : ∀ {l : List E} {ts : List T} {cs : List Value}, mapO (readD u σ) l = some ts → VEs I w l cs → ∃ G, Cs false w ts cs G ∧ ∀ b ∈ G, b ∉ I.F u
 | [], ts, cs, h, hv => by cases h; exact ⟨[], by unfold Cs; exact ⟨hv, rfl⟩, fun _ hb => by cases hb⟩
 | e :: r, ts, cs, h, hv => by
  obtain ⟨c, cr, rfl, h1, h2⟩ := hv
  rw [mapO] at h
  split at h
  · rename_i t e1
    split at h
    · rename_i ts' e2
      cases h
      obtain ⟨G1, g1, k1⟩ := readD_ok hr hu e1 h1
      obtain ⟨G2, g2, k2⟩ := mapD_ok hr hu e2 h2
      exact ⟨G1 ++ G2, by unfold Cs; exact ⟨c, cr, G1, G2, rfl, g1, g2, rfl⟩, fun b hb => (List.mem_append.1 hb).elim (k1 b) (k2 b)⟩
    · cases h
  · cases h
theorem readDA_ok (hr : RelI I w0 σ a w) (hu : look σ.res u = some (.cur g)) {x : A} {t : V0} {v : Value} (h : readDA u σ x = some t) (hv : VA I w x v) : ∃ G, V0r false w t v G ∧ ∀ b ∈ G, b ∉ I.F u := by
 cases x with
 | one e =>
  rw [readDA] at h
  split at h
  · rename_i t' h1; cases h; exact readD_ok hr hu h1 hv
  · cases h
 | agg l =>
  rw [readDA] at h
  split at h
  · rename_i ts h1; cases h
    obtain ⟨cs, h2, h3⟩ := hv
    obtain ⟨G, h4, h5⟩ := mapD_ok hr hu h1 h3
    exact ⟨G, ⟨cs, h2, h4⟩, h5⟩
  · cases h
theorem ArgsD.ok {l : List Operand} {ins : List V0} (h : ArgsD σ u true l ins) (hr : RelI I w0 σ a w) (hu : look σ.res u = some (.cur g)) : ∃ F, V0s false w ins (l.map a.eval) F ∧ ∀ b ∈ F, b ∉ I.F u := by
 induction h with
 | nil => exact ⟨[], ⟨rfl, rfl⟩, fun _ hb => by cases hb⟩
 | cons hx hv h ih =>
  obtain ⟨F, ih, k1⟩ := ih
  obtain ⟨G, hg, k2⟩ := readDA_ok hr hu hv (hx.va hr rfl)
  exact ⟨G ++ F, ⟨_, _, G, F, rfl, hg, ih, rfl⟩, fun b hb => (List.mem_append.1 hb).elim (k2 b) (k1 b)⟩
end
end
end Go.Q
namespace Go.Q
open Go.RowKit
section
variable {P : Program}
def EndP (Φ : St → Prop) : Exit → St → Prop
 | .normal, σ => ∃ σt, Φ σt ∧ Le σ σt
 | _, _ => False
theorem EndP.run {ops : Array Oper} {o : Oper} {σ : St} {Φ : St → Prop} (h : ∀ w0, AWl P w0 ops (EndP Φ) [o] σ) {w0 : Base} {a : Act} {w : World} (hr : Rel w0 σ a w) (K : Act → World → Prop) (Q : Exit → Act → World → Prop) (hK : ∀ a' w' σ', Φ σ' → Rel w0 σ' a' w' → K a' w') :
 if Region.wanted o (yielded ops a.tmps) then o.wp P a w K Q else K (a.put o.dst undef) w := by
 have h1 := h w0 a w hr
 unfold wpList at h1
 have hN : ∀ a' w', wpList P ops (lift w0 (EndP Φ)) [] a' w' → K a' w' := fun a' w' h => by
  obtain ⟨σ', ⟨σt, h2, h4⟩, h3⟩ := h
  exact hK a' w' σt h2 (h4 w0 a' w' h3)
 have hF : ∀ e a' w', e ≠ Exit.normal → lift w0 (EndP Φ) e a' w' → False := fun e a' w' he h => by
  obtain ⟨σ', h2, h3⟩ := h
  cases e <;> first | exact he rfl | exact h2
 have hL : LetsOut (lift w0 (EndP Φ)) → False := fun ⟨a', w', h⟩ => hF _ a' w' (by simp) h
 split
 · rename_i hw
   rw [if_pos hw] at h1
   rcases h1 with h1 | ⟨_, h1⟩
   · unfold Oper.wp at *
     generalize (execOp a.eval o).run P w = r at *
     cases r with
     | ok n w' =>
      cases n <;> simp only [Oper.upon] at h1 ⊢ <;>
       first
        | exact hN _ _ h1
        | exact Calls.mono h1 (fun e w'' he => by cases e <;> first | exact hN _ _ he | exact (hL he).elim | exact (hF _ _ _ (by simp) he).elim)
        | exact Rows.mono h1 (fun _ _ he => hN _ _ he)
     | halt x w' => cases x <;> simp only [Oper.upon] at h1 ⊢ <;> first | exact h1.elim | exact (hF _ _ _ (by simp) h1).elim
   · exact (hL h1).elim
 · rename_i hw
   rw [if_neg hw] at h1
   exact hN _ _ h1
def Stp (P : Program) (l : List Oper) (o : Oper) (Φ : St → Prop) (σ : St) : Prop := ∀ w0 a w, Rel w0 σ a w → ∀ (K : Act → World → Prop) (Q : Exit → Act → World → Prop), (∀ a' w' σ', Φ σ' → Rel w0 σ' a' w' → K a' w') →
 if Region.wanted o (yielded l.toArray a.tmps) then o.wp P a w K Q else K (a.put o.dst undef) w
theorem AW.dagP {w0 : Base} {Q : Exit → St → Prop} {σ : St} {id : Nat} {l : List Oper} (N k : Nat) (ms : List (List Nat)) (es : List (Nat × Nat × Nat)) (st : Nat → St → Prop) (hm : P.follows .mixedOrders = true) (hB : planC l.toArray N = true) (hP : dagB l N ms es k = true)
 (hes : ∀ e ∈ es, ∀ o, l[e.2.1]? = some o → ∀ σ, st e.1 σ → Stp P l o (st e.2.2) σ) (hσ : st 0 σ) (hfin : ∀ σ', st k σ' → AWl P w0 l.toArray Q (l.drop N) σ') : AW P w0 (.region id l.toArray true) Q σ := by
 intro a w hr
 refine wp_region_any hm ?_
 simp only [dagB, Bool.and_eq_true] at hP
 obtain ⟨hP, hms⟩ := hP
 have hms0 : ms[0]? = some [] := by
  match ms, hms with
  | [] :: _, _ => rfl
 have hlN : N ≤ l.length := by
  have hB' := hB
  simp only [planC, Bool.and_eq_true, decide_eq_true_eq] at hB'
  simpa using hB'.1.1.1
 have hdep : ∀ i o, i < N → l[i]? = some o → ∀ j ∈ deps o, j < N := fun i o hi ho j hj => by
  have hB' := hB
  simp only [planC, Bool.and_eq_true, decide_eq_true_eq] at hB'
  have := List.all_eq_true.1 hB'.1.1.2 i (List.mem_range.2 hi)
  have ho' : l.toArray[i]? = some o := by simpa using ho
  rw [ho'] at this
  have := List.all_eq_true.1 this j hj
  simp only [decide_eq_true_eq] at this
  omega
 have hat : ∀ (b : Nat) (m : List Nat), ms[b]? = some m → ((∀ i, i < N → memN m i = false → ∀ o, l[i]? = some o → (∀ j ∈ deps o, memN m j = true) → ∃ e ∈ es, e.1 = b ∧ e.2.1 = i ∧ ∃ m', ms[e.2.2]? = some m' ∧ ∀ j, j < N → memN m' j = (Nat.beq j i || memN m j)) ∧ ((∀ i, i < N → memN m i = true) → b = k)) := by
  intro b m hb
  have := List.all_eq_true.1 hP b (List.mem_range.2 (List.getElem?_eq_some_iff.1 hb).1)
  rw [hb] at this
  simp only [Bool.and_eq_true] at this
  refine ⟨fun i hi hu o ho hd => ?_, fun hall => ?_⟩
  · have := List.all_eq_true.1 this.1 i (List.mem_range.2 hi)
    rw [hu, Bool.false_or, ho] at this
    simp only [Bool.or_eq_true, Bool.not_eq_true'] at this
    rcases this with h | h
    · rw [List.all_eq_true.2 hd] at h; cases h
    · obtain ⟨e, he, h⟩ := List.any_eq_true.1 h
      simp only [Bool.and_eq_true] at h
      obtain ⟨⟨h1, h2⟩, h3⟩ := h
      refine ⟨e, he, Nat.eq_of_beq_eq_true h1, Nat.eq_of_beq_eq_true h2, ?_⟩
      split at h3
      · cases h3
      · rename_i m' hm'
        exact ⟨m', hm', fun j hj => by simpa using List.all_eq_true.1 h3 j (List.mem_range.2 hj)⟩
  · have h2 := this.2
    simp only [Bool.or_eq_true] at h2
    rcases h2 with h | h
    · exact Nat.eq_of_beq_eq_true h
    · obtain ⟨i, hi, h⟩ := List.any_eq_true.1 h
      rw [hall i (List.mem_range.1 hi)] at h; cases h
 have H := wpAny_inv (P := P) (Q := lift w0 Q) (J := fun listed a w => ∃ b m, ms[b]? = some m ∧ (∀ j, j < N → memN m j = listed.getD j false) ∧ ∃ σ, st b σ ∧ Rel w0 σ a w) hB (fun i o hi ho listed a w inv hd hu hJ => ?_) (fun listed a w hall hJ => ?_)
  (unl N (Array.replicate l.toArray.size false)) (Array.replicate l.toArray.size false) a { w with drawn := w.drawn + 1 } rfl
  ⟨by simp, fun j oj _ hl => (by rw [getD_replicate_false] at hl; cases hl), fun t _ ht => getD_in (by simpa using ht) (getD_replicate_false _ _)⟩ ?_
 · have hu : unl N (Array.replicate l.toArray.size false) = N := by
    unfold unl
    rw [List.countP_eq_length.2 (fun j _ => by rw [getD_replicate_false]; rfl), List.length_range]
   rw [hu, show N + (l.toArray.size - N) = l.toArray.size by simp; omega] at H
   exact H
 · obtain ⟨b, m, hb, hmj, σ, hσ, hr⟩ := hJ
   have ho0 : l[i]? = some o := by simpa using ho
   obtain ⟨e, he, rfl, rfl, m', hm', hj'⟩ := (hat b m hb).1 i hi (by rw [hmj i hi]; exact hu) o ho0 fun j hj => by rw [hmj j (hdep i o hi ho0 j hj)]; exact hd j hj
   intro K Q' hK
   refine hes e he o ho0 σ hσ w0 a w hr K Q' fun a' w' σ' hσ' hr' => hK a' w' ⟨e.2.2, m', hm', fun j hj => ?_, σ', hσ', hr'⟩
   rw [hj' j hj, hmj j hj]
   by_cases ej : j = e.2.1
   · subst ej
     have : e.2.1 < listed.size := by rw [inv.size]; simp; omega
     simp [this, Nat.beq_refl]
   · rw [beq_false ej, Bool.false_or, getD_set_ne false (fun h => ej h.symm)]
 · obtain ⟨b, m, hb, hmj, σ, hσ, hr⟩ := hJ
   have := (hat b m hb).2 fun i hi => by rw [hmj i hi]; exact hall i hi
   subst this
   exact hfin σ hσ a w hr
 · refine ⟨0, [], hms0, fun j _ => by rw [getD_replicate_false]; rfl, σ, hσ, ?_⟩
   obtain ⟨I, hI⟩ := hr
   exact ⟨I, hI.later (Ext.refl w).drawn⟩
structure Dg (P : Program) (l : List Oper) (acc : List (Nat × (St → Prop))) (es : List (Nat × Nat × Nat)) (Fin : (Nat → St → Prop) → Prop) : Prop where
 pf : ∃ st : Nat → St → Prop, (∀ k Φ, look acc k = some Φ → st k = Φ) ∧ (∀ e ∈ es, ∀ o, l[e.2.1]? = some o → ∀ σ, st e.1 σ → Stp P l o (st e.2.2) σ) ∧ Fin st
variable {l : List Oper} {acc : List (Nat × (St → Prop))} {es : List (Nat × Nat × Nat)} {Fin : (Nat → St → Prop) → Prop}
theorem Dg.new {a i b : Nat} {Φ Φ' : St → Prop} {o : Oper} (ha : look acc a = some Φ) (ho : l[i]? = some o) (hb : look acc b = none) (hE : ∀ σ, Φ σ → Stp P l o Φ' σ) (h : Dg P l ((b, Φ') :: acc) es Fin) : Dg P l acc ((a, i, b) :: es) Fin := by
 obtain ⟨st, h1, h2, h3⟩ := h.pf
 have hne : b ≠ a := fun e => by subst e; rw [hb] at ha; cases ha
 have h1' : ∀ k σ, look acc k = some σ → st k = σ := fun k σ hk => h1 k σ (by
  rw [look_cons, if_neg (fun e => ?_)]
  · exact hk
  · subst e; rw [hb] at hk; cases hk)
 refine ⟨st, h1', fun e he o' ho' σ hσ => ?_, h3⟩
 rcases List.mem_cons.1 he with rfl | he
 · simp only at ho' hσ ⊢
   rw [ho] at ho'; cases ho'
   rw [h1' a Φ ha] at hσ
   rw [h1 b Φ' (by rw [look_cons, if_pos rfl])]
   exact hE σ hσ
 · exact h2 e he o' ho' σ hσ
theorem Dg.old {a i b : Nat} {Φ Φ' : St → Prop} {o : Oper} (ha : look acc a = some Φ) (ho : l[i]? = some o) (hb : look acc b = some Φ') (hE : ∀ σ, Φ σ → Stp P l o Φ' σ) (h : Dg P l acc es Fin) : Dg P l acc ((a, i, b) :: es) Fin := by
 obtain ⟨st, h1, h2, h3⟩ := h.pf
 refine ⟨st, h1, fun e he o' ho' σ hσ => ?_, h3⟩
 rcases List.mem_cons.1 he with rfl | he
 · simp only at ho' hσ ⊢
   rw [ho] at ho'; cases ho'
   rw [h1 a Φ ha] at hσ
   rw [h1 b Φ' hb]
   exact hE σ hσ
 · exact h2 e he o' ho' σ hσ
theorem Dg.fin {w0 : Base} {Q : Exit → St → Prop} {N k : Nat} {Φ : St → Prop} (hk : look acc k = some Φ) (h : ∀ σ', Φ σ' → AWl P w0 l.toArray Q (l.drop N) σ') : Dg P l acc [] (fun st => ∀ σ', st k σ' → AWl P w0 l.toArray Q (l.drop N) σ') :=
 ⟨fun i => (look acc i).getD fun _ => False, fun i σ' hi => by simp [hi], fun e he => (by cases he), by simpa [hk] using h⟩
theorem EndQ.eq {σ σ' s : St} (h : Le σ σ') (e : s = σ') : EndQ s .normal σ := by subst e; exact h
theorem Stp.run {o : Oper} {σ σt : St} {Φ : St → Prop} (h : ∀ w0, AWl P w0 l.toArray (EndQ σt) [o] σ) (hΦ : Φ σt) : Stp P l o Φ σ := fun w0 a w hr K Q hK => EndQ.run h hr K Q fun a' w' hr' => hK a' w' σt hΦ hr'
theorem Stp.opE {o : Oper} {σ : St} {Φ Ψ : St → Prop} (h : OpE P l.toArray o σ Ψ) (hL : ∀ σ', Ψ σ' → ∃ σt, Φ σt ∧ Le σ' σt) : Stp P l o Φ σ := fun w0 a w hr K Q hK => h w0 a w hr K Q fun σ' a' w' hσ' hr' => by
 obtain ⟨σt, h1, h2⟩ := hL σ' hσ'
 exact hK a' w' σt h1 (h2 w0 a' w' hr')
def Nd0  (p : Prop) (s : St) : St → Prop := fun σ => p ∧ σ = s
def Nd1 {α1 : Type} (p : α1 → Prop) (s : α1 → St) : St → Prop := fun σ => ∃ z1, p z1 ∧ σ = s z1
theorem Dg.new0 {a i b : Nat}  {p : Prop} {s s' : St} {o : Oper} (ha : look acc a = some (Nd0 p s)) (ho : l[i]? = some o) (hb : look acc b = none) (hE : ∀ w0, p → AWl P w0 l.toArray (EndQ (s')) [o] (s)) (h : Dg P l ((b, Nd0 p s') :: acc) es Fin) : Dg P l acc ((a, i, b) :: es) Fin :=
 Dg.new ha ho hb (fun σ h => by obtain ⟨hp, rfl⟩ := h; exact Stp.run (fun w0 => hE w0  hp) ⟨hp, rfl⟩) h
theorem Dg.old0 {a i b : Nat}  {p : Prop} {s s' : St} {o : Oper} (ha : look acc a = some (Nd0 p s)) (ho : l[i]? = some o) (hb : look acc b = some (Nd0 p s')) (hE : ∀ w0, p → AWl P w0 l.toArray (EndQ (s')) [o] (s)) (h : Dg P l acc es Fin) : Dg P l acc ((a, i, b) :: es) Fin :=
 Dg.old ha ho hb (fun σ h => by obtain ⟨hp, rfl⟩ := h; exact Stp.run (fun w0 => hE w0  hp) ⟨hp, rfl⟩) h
theorem Dg.drw0 {a i b : Nat}  {β : Type} {p : Prop} {s : St} {q : β → Prop} {f s' : β → St} {o : Oper} (ha : look acc a = some (Nd0 p s)) (ho : l[i]? = some o) (hE : p → OpE P l.toArray o (s) (fun σ' => ∃ y, q y ∧ σ' = f y)) (hb : look acc b = none) (hL : ∀ y, p → q y → EndQ (s' y) .normal (f y)) (h : Dg P l ((b, Nd1 (fun y => p ∧ q y) s') :: acc) es Fin) : Dg P l acc ((a, i, b) :: es) Fin :=
 Dg.new ha ho hb (fun σ h => by
  obtain ⟨hp, rfl⟩ := h
  refine Stp.opE (hE  hp) ?_
  rintro _ ⟨y, hy, rfl⟩
  exact ⟨_, ⟨y, ⟨hp, hy⟩, rfl⟩, hL y hp hy⟩) h
theorem Dg.new1 {a i b : Nat} {α1 : Type} {p : α1 → Prop} {s s' : α1 → St} {o : Oper} (ha : look acc a = some (Nd1 p s)) (ho : l[i]? = some o) (hb : look acc b = none) (hE : ∀ w0, ∀ z1, p z1 → AWl P w0 l.toArray (EndQ (s' z1)) [o] (s z1)) (h : Dg P l ((b, Nd1 p s') :: acc) es Fin) : Dg P l acc ((a, i, b) :: es) Fin :=
 Dg.new ha ho hb (fun σ h => by obtain ⟨z1, hp, rfl⟩ := h; exact Stp.run (fun w0 => hE w0 z1 hp) ⟨z1, hp, rfl⟩) h
theorem Dg.old1 {a i b : Nat} {α1 : Type} {p : α1 → Prop} {s s' : α1 → St} {o : Oper} (ha : look acc a = some (Nd1 p s)) (ho : l[i]? = some o) (hb : look acc b = some (Nd1 p s')) (hE : ∀ w0, ∀ z1, p z1 → AWl P w0 l.toArray (EndQ (s' z1)) [o] (s z1)) (h : Dg P l acc es Fin) : Dg P l acc ((a, i, b) :: es) Fin :=
 Dg.old ha ho hb (fun σ h => by obtain ⟨z1, hp, rfl⟩ := h; exact Stp.run (fun w0 => hE w0 z1 hp) ⟨z1, hp, rfl⟩) h
theorem Dg.fin1 {w0 : Base} {Q : Exit → St → Prop} {N k : Nat} {α1 : Type} {p : α1 → Prop} {s : α1 → St} (hk : look acc k = some (Nd1 p s)) (h : ∀ z1, p z1 → AWl P w0 l.toArray Q (l.drop N) (s z1)) : Dg P l acc [] (fun st => ∀ σ', st k σ' → AWl P w0 l.toArray Q (l.drop N) σ') :=
 Dg.fin hk fun σ h' => by obtain ⟨z1, hp, rfl⟩ := h'; exact h z1 hp
theorem AW.dg0 {w0 : Base} {Q : Exit → St → Prop} {σ : St} {id : Nat} (N k : Nat) (ms : List (List Nat)) (es : List (Nat × Nat × Nat)) (hm : P.follows .mixedOrders = true) (hB : planC l.toArray N = true) (hP : dagB l N ms es k = true)
 (h : Dg P l [(0, Nd0 True σ)] es (fun st => ∀ σ', st k σ' → AWl P w0 l.toArray Q (l.drop N) σ')) : AW P w0 (.region id l.toArray true) Q σ := by
 obtain ⟨st, h1, h2, h3⟩ := h.pf
 exact AW.dagP N k ms es st hm hB hP h2 (by rw [h1 0 _ U]; exact ⟨trivial, U⟩) h3
end
end Go.Q
