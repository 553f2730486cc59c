import Derived.Test.YtbkhopfpejhnlaaGreatDoorAbsZta
import Derived.Test.YtbkhopfpejhnlaaGreatDoorB102ta
set_option linter.unusedVariables false
set_option linter.unusedSimpArgs false
namespace Go.Q
open Go.RowKit
section
variable {P : Program} {ops : Array Oper} {o : Oper} {σ : St} {τ : Type}
def CuOk (w : World) (g : Nat × Value) : Prop := CuB (fun b => b < w.heap.size ∧ b ≠ g.1) w g ∧ Thaw w g.1
def DPost (w : World) (g : Nat × Value) (p : τ → Prop) (out : τ → V) (e : Ending) (w' : World) : Prop :=
 ∃ x v F, e = .returned v ∧ p x ∧ Vr true w' (out x) v F ∧ F.Nodup ∧ (∀ b ∈ F, w.heap.size ≤ b ∧ Thaw w' b) ∧ Chg w w' [g.1] ∧ CuOk w' g
def FnD (P : Program) (f : FuncId) (ins : List V0) (p : τ → Prop) (out : τ → V) : Prop :=
 Callee P f ∧ ∀ w g vs F, Good w [g.1] → CuOk w g → V0s false w ins vs F → g.1 ∉ F → Calls P f (List.toArray (.pointer (some ⟨g.1, 0, none⟩) :: vs)) w (DPost w g p out)
def FnE (P : Program) (f : FuncId) (ins : List V0) (p : τ → Prop) (out : τ → V) : Prop :=
 Callee P f ∧ ∀ w vs F, Good w [] → V0s false w ins vs F → Calls P f (List.toArray vs) w fun e w' => ∃ x, p x ∧ FnPost w (out x) e w'
def FnN (P : Program) (f : FuncId) : Prop :=
 Callee P f ∧ ∀ w v F bs, Good w [] → C false w (.sl 1 (byR bs)) v F → (∀ n ∈ bs, 0 ≤ n ∧ n < 256) → Calls P f #[v] w fun e w' => ∃ g i h t, e = .returned (.pointer (some ⟨g, 0, none⟩)) ∧ w.heap.size ≤ g ∧ Thaw w' g ∧ w'.heap[g]? = some (.cells #[v, .int .i64 i, .int .i64 h] t (0, 0)) ∧ 0 ≤ i ∧ Ext w w'
theorem setR_same : ∀ (l : List (Nat × R)) (u : Nat) (r : R), look l u = some r → setR l u r = l
 | [], _, _, h => by cases h
 | (j, y) :: l, u, r, h => by
  rw [look_cons] at h
  rw [setR]
  by_cases e : j = u
  · subst e; rw [if_pos rfl] at h; cases h; simp [Nat.beq_refl]
  · rw [if_neg e] at h
    rw [beq_false e, cond_false, setR_same l u r h]
theorem V0s.c {w : World} {FF : List Nat} : ∀ {ins : List V0} {vs : List Value} {F : List Nat}, V0s false w ins vs F → (∀ b ∈ F, b ∉ FF) → V0c w FF (ins.map fun x => (false, x)) vs []
 | [], vs, F, ⟨h, _⟩, _ => ⟨h, rfl⟩
 | x :: r, vs, F, ⟨v, vr, G1, G2, h1, h2, h3, h4⟩, hF => by
  subst h4
  exact ⟨v, vr, G1, [], h1, h2, h3.c fun b hb => hF b (by simp [hb]), by simpa using fun b hb => hF b (by simp [hb])⟩
def DRes (P : Program) (fn : Func) (g : Nat × Value) (p : τ → Prop) (out : τ → V) (σ : St) : Prop := ∃ x, p x ∧ look σ.res 888888 = some (.cur g) ∧ Res P fn true (out x) ⟨σ.n, σ.slots, delR σ.res 888888⟩
def RetD (P : Program) (fn : Func) (g : Nat × Value) (p : τ → Prop) (out : τ → V) : Exit → St → Prop
 | .normal, σ => DRes P fn g p out σ
 | .ret, σ => DRes P fn g p out σ
 | _, _ => False
def RetE (P : Program) (fn : Func) (p : τ → Prop) (out : τ → V) : Exit → St → Prop
 | .normal, σ => ∃ x, p x ∧ Res P fn true (out x) σ
 | .ret, σ => ∃ x, p x ∧ Res P fn true (out x) σ
 | _, _ => False
theorem DRes.mk {fn : Func} {g : Nat × Value} {p : τ → Prop} {out : τ → V} {σ : St} {x : τ} (hc : look σ.res 888888 = some (.cur g)) (h : Res P fn true (out x) ⟨σ.n, σ.slots, delR σ.res 888888⟩) (hp : p x) : DRes P fn g p out σ := ⟨x, hp, hc, h⟩
theorem ERes.mk {fn : Func} {p : τ → Prop} {out : τ → V} {σ : St} {x : τ} (h : Res P fn true (out x) σ) (hp : p x) : ∃ x, p x ∧ Res P fn true (out x) σ := ⟨x, hp, h⟩
theorem FnE.walk {n : Nat} {f : FuncId} {fn : Func} {c : Code} {ins : List V0} {p : τ → Prop} {out : τ → V} (hf : P.funcs[f]? = some fn) (hb : fn.body = some c) (hname : (fn.name == "runtime.NumGoroutine") = false) (hnt : fn.ntmps = n) (hn : Nat.ble ins.length n = true)
 (h : ∀ w0, AW P w0 c (RetE P fn p out) (st0 n ins)) : FnE P f ins p out := by
 subst hnt
 refine ⟨⟨fn, hf, hname, by rw [hb]; rfl⟩, fun w vs F hG hv => ?_⟩
 refine calls_of_wp hf hb (Code.wp_mono ?_ (h ⟨w, [], hG⟩ _ _ (rel0 hG hv hn)))
 rintro e a' w' ⟨σ, h1, I, hI⟩
 have key : (∃ x, p x ∧ Res P fn true (out x) σ) → a'.defers = [] ∧ ∃ v, (results fn a'.tmps).run P w' = .ok v w' ∧ ∃ x, p x ∧ FnPost w (out x) (.returned v) w' := fun ⟨x, hp, h1⟩ => by
  obtain ⟨v, F, g1, g2, g3⟩ := h1 I ⟨w, [], hG⟩ a' w' hI
  exact ⟨hI.defers, v, g1, x, hp, v, F, rfl, g2, (g3.2 rfl).1, fun b hb => ⟨(g3.1 b hb).resolve_right (by simp), (g3.2 rfl).2 b hb⟩, hI.ext.toExt⟩
 cases e with
 | normal => exact key h1
 | ret => exact key h1
 | exit id => exact h1.elim
 | goto l => exact h1.elim
 | panic c => exact h1.elim
 | outgrown => exact h1.elim
theorem trunc_get {α : Type} (l : Array α) (n k : Nat) (h : n ≤ l.size) (hk : k < n) : (l.extract 0 n)[k]? = l[k]? := by
 rw [Array.getElem?_extract]
 simp
 omega
theorem FnD.walk {n : Nat} {f : FuncId} {fn : Func} {c : Code} {ins : List V0} {p : τ → Prop} {out : τ → V} {σ' : Nat × Value → St} (hf : P.funcs[f]? = some fn) (hb : fn.body = some c) (hname : (fn.name == "runtime.NumGoroutine") = false) (hnt : fn.ntmps = n) (hn : Nat.ble (ins.length + 1) n = true)
 (hi : ∀ g, initC 1 (ins.map fun x => (false, x)) ⟨n, [(0, (true, .a (.one (.pp 888888 0))))], [(888888, .cur g)]⟩ = some (σ' g)) (h : ∀ w0 g, AW P w0 c (RetD P fn g p out) (σ' g)) : FnD P f ins p out := by
 subst hnt
 refine ⟨⟨fn, hf, hname, by rw [hb]; rfl⟩, fun w g vs F hG hC hv hgF => ?_⟩
 have hv' := hv.c (FF := [g.1]) fun b hb hm => hgF (by simp only [List.mem_singleton] at hm; rwa [← hm])
 have hl : vs.length = ins.length := by simpa using hv'.len
 have hn' : ins.length + 1 ≤ fn.ntmps := Nat.le_of_ble_eq_true hn
 have hglt : g.1 < w.heap.size := hC.1.lt
 let a0 : Act := ⟨(List.toArray (.pointer (some ⟨g.1, 0, none⟩) :: vs)) ++ Array.replicate (fn.ntmps - (List.toArray (Value.pointer (some ⟨g.1, 0, none⟩) :: vs)).size) undef, []⟩
 let I0 : Ip := ⟨fun b => b < w.heap.size ∧ b ≠ g.1, fun i => if i = 888888 then [g.1] else [], fun _ => undef, fun i => if i = 888888 then g.1 else 0⟩
 have hget : ∀ (j : Nat) v, (Value.pointer (some ⟨g.1, 0, none⟩) :: vs)[j]? = some v → a0.tmps.getD j undef = v := fun j v hj => by
  have hjl := (List.getElem?_eq_some_iff.1 hj).1
  simp only [a0]
  rw [Array.getD_eq_getD_getElem?, Array.getElem?_append_left (by simpa using hjl)]
  have : (List.toArray (Value.pointer (some ⟨g.1, 0, none⟩) :: vs))[j]? = some v := by simpa using hj
  rw [this]; rfl
 have hr0 : RelI I0 ⟨w, [g.1], hG⟩ ⟨fn.ntmps, [(0, (true, .a (.one (.pp 888888 0))))], [(888888, .cur g)]⟩ a0 w := by
  have key : ∀ i r, look [(888888, R.cur g)] i = some r → i = 888888 ∧ r = .cur g := fun i r hi => by
   rw [look_cons] at hi
   split at hi
   · rename_i e; cases hi; exact ⟨e.symm, rfl⟩
   · cases hi
  refine ⟨Chg.refl w [g.1], rfl, by simp [a0, hl]; omega, fun i z hi => ?_, fun id r hi => ?_, fun b hb => hb.1, fun id b hb => ?_, fun id r hi => ?_, fun i j hne b hb hb' => ?_⟩
  · rw [look_cons] at hi
    split at hi
    · rename_i e
      subst e; cases hi
      exact hget 0 _ rfl
    · cases hi
  · obtain ⟨rfl, rfl⟩ := key id r hi
    exact ⟨rfl, rfl, hC.1⟩
  · simp only [I0] at hb ⊢
    split at hb
    · simp only [List.mem_singleton] at hb; subst hb; exact ⟨hglt, fun h => h.2 rfl⟩
    · cases hb
  · obtain ⟨rfl, rfl⟩ := key id r hi
    refine ⟨by simp [I0], fun b hb => ?_⟩
    have : b = g.1 := by simpa [I0] using hb
    subst this
    exact ⟨.inr (by simp), hC.2⟩
  · simp only [I0] at hb hb'
    split at hb
    · split at hb'
      · omega
      · cases hb'
    · cases hb
 obtain ⟨I1, r1⟩ := initC_ok (FF := [g.1]) (fun _ _ _ => trivial) (hi g) hr0 (fun b h1 h2 => ⟨h1, fun e => h2 (by simp [e])⟩) hv' (by simp) (fun b hb => by cases hb) fun j v hj => hget (1 + j) v (by rw [Nat.add_comm]; simpa using hj)
 refine calls_of_wp hf hb (Code.wp_mono ?_ (h ⟨w, [g.1], hG⟩ g _ _ ⟨I1, r1⟩))
 rintro e a' w' ⟨σ1, h1, I, hI⟩
 have key : DRes P fn g p out σ1 → a'.defers = [] ∧ ∃ v, (results fn a'.tmps).run P w' = .ok v w' ∧ DPost w g p out (.returned v) w' := fun ⟨x, hp, hcur, h1⟩ => by
  obtain ⟨hF, hB, hcu⟩ : I.F 888888 = [g.1] ∧ I.B 888888 = g.1 ∧ CuB I.Z w' g := hI.res _ _ hcur
  have hsz : w.heap.size ≤ w'.heap.size := hI.ext.size
  let W : World := { w' with heap := w'.heap.extract 0 w.heap.size }
  have hW : W.heap.size = w.heap.size := by simp [W]; omega
  have hWk : ∀ k, k < w.heap.size → W.heap[k]? = w'.heap[k]? := fun k hk => trunc_get _ _ _ hsz hk
  have hGW : Good W [] := hG.step (Nat.le_of_eq hW.symm) (fun k hk hn => (hWk k hk).trans (hI.ext.block k hk hn)) fun b hb => by cases hb
  have hI2 : RelI I ⟨W, [], hGW⟩ ⟨σ1.n, σ1.slots, delR σ1.res 888888⟩ a' w' := by
   refine ⟨⟨rfl, rfl, rfl, by rw [hW]; exact hsz, fun k hk _ => ?_⟩, hI.defers, hI.size, hI.slots, fun id r hr => hI.res id r (look_delR _ _ _ _ hr).2, hI.old, hI.lt, fun id r hr => ?_, hI.apart⟩
   · rw [hW] at hk; exact (hWk k hk).symm
   · obtain ⟨e1, e2⟩ := look_delR _ _ _ _ hr
     refine ⟨(hI.own id r e2).1, fun b hb => ⟨?_, ((hI.own id r e2).2 b hb).2⟩⟩
     rcases ((hI.own id r e2).2 b hb).1 with h | h
     · left; show W.heap.size ≤ b; rw [hW]; exact h
     · exfalso
       have : b = g.1 := by simpa using h
       subst this
       exact hI.apart id 888888 e1 _ hb (by rw [hF]; simp)
  obtain ⟨v, F, g1, g2, g3⟩ := h1 I ⟨W, [], hGW⟩ a' w' hI2
  refine ⟨hI.defers, v, g1, x, v, F, rfl, hp, g2, (g3.2 rfl).1, fun b hb => ⟨?_, (g3.2 rfl).2 b hb⟩, hI.ext, ?_, ?_⟩
  · have := (g3.1 b hb).resolve_right (by simp)
    rwa [show (Base.W ⟨W, [], hGW⟩).heap.size = w.heap.size from hW] at this
  · refine hcu.congr rfl fun b _ hz => ⟨⟨hI.old b hz, fun e => ?_⟩, rfl⟩
    subst e
    exact (hI.lt 888888 _ (by rw [hF]; simp)).2 hz
  · exact ((hI.own 888888 _ hcur).2 g.1 (by rw [hF]; simp)).2
 cases e with
 | normal => exact key h1
 | ret => exact key h1
 | exit id => exact h1.elim
 | goto l => exact h1.elim
 | panic c => exact h1.elim
 | outgrown => exact h1.elim
def readD (u : Nat) (σ : St) : E → Option T
 | .t x => some x
 | .vw id x => bif Nat.beq id u then none else some x
 | .rf id => match look σ.res id with | some (.row k rows) => some (.sl k rows) | _ => none
 | _ => none
def readDA (u : Nat) (σ : St) : A → Option V0
 | .one e => match readD u σ e with | some t => some (.one t) | none => none
 | .agg l => match mapO (readD u σ) l with | some ts => some (.agg ts) | none => none
inductive ArgsD (σ : St) (u : Nat) (q : Bool) : List Operand → List V0 → Prop where
 | nil : ArgsD σ u q [] []
 | cons {x : Operand} {A0 : A} {v : V0} {l : List Operand} {vs : List V0} (hx : Get σ q x A0) (hv : readDA u σ A0 = some v) (h : ArgsD σ u q l vs) : ArgsD σ u q (x :: l) (v :: vs)
section
variable {I : Ip} {w0 : Base} {w : World} {a : Act} {u : Nat} {g : Nat × Value}
theorem readD_ok (hr : RelI I w0 σ a w) (hu : look σ.res u = some (.cur g)) {e : E} {t : T} {c : Value} (h : readD u σ e = some t) (hv : VE I w e c) : ∃ G, C false w t c G ∧ ∀ b ∈ G, b ∉ I.F u := by
 cases e with
 | t x => cases h; obtain ⟨G, h1, h2⟩ := hv; exact ⟨G, h1, fun b hb hm => (hr.lt u b hm).2 (h2 b hb)⟩
 | vw id x =>
  rw [readD] at h
  cases hb : Nat.beq id u with
  | true => rw [hb] at h; cases h
  | false =>
   rw [hb] at h; cases h
   obtain ⟨G, h1, h2⟩ := hv
   exact ⟨G, h1, fun b hb' => hr.apart id u (beq_ne hb) b (h2 b hb')⟩
 | rf id =>
  rw [readD] at h
  split at h
  · rename_i k rows h0
    cases h
    have hc : c = I.hd id := hv.1
    have hne : id ≠ u := fun e => by subst e; rw [hu] at h0; cases h0
    rw [hc]; exact ⟨_, C.read (show C true w (.sl k rows) _ _ from hr.res id _ h0), hr.apart id u hne⟩
  · cases h
 | pp id off => cases h
 | pr id k i j => cases h
 | sb id k i j => cases h
 | tl id k j => cases h
 | pf id k j => cases h
 | no => cases h
theorem mapD_ok (hr : RelI I w0 σ a w) (hu : look σ.res u = some (.cur g)) : ∀ {l : List E} {ts : List T} {cs : List Value}, mapO (readD u σ) l = some ts → VEs I w l cs → ∃ G, Cs false w ts cs G ∧ ∀ b ∈ G, b ∉ I.F u
 | [], ts, cs, h, hv => by cases h; exact ⟨[], by unfold Cs; exact ⟨hv, rfl⟩, fun _ hb => by cases hb⟩
 | e :: r, ts, cs, h, hv => by
  obtain ⟨c, cr, rfl, h1, h2⟩ := hv
  rw [mapO] at h
  split at h
  · rename_i t e1
    split at h
    · rename_i ts' e2
      cases h
      obtain ⟨G1, g1, k1⟩ := readD_ok hr hu e1 h1
      obtain ⟨G2, g2, k2⟩ := mapD_ok hr hu e2 h2
      exact ⟨G1 ++ G2, by unfold Cs; exact ⟨c, cr, G1, G2, rfl, g1, g2, rfl⟩, fun b hb => (List.mem_append.1 hb).elim (k1 b) (k2 b)⟩
    · cases h
  · cases h
theorem readDA_ok (hr : RelI I w0 σ a w) (hu : look σ.res u = some (.cur g)) {x : A} {t : V0} {v : Value} (h : readDA u σ x = some t) (hv : VA I w x v) : ∃ G, V0r false w t v G ∧ ∀ b ∈ G, b ∉ I.F u := by
 cases x with
 | one e =>
  rw [readDA] at h
  split at h
  · rename_i t' h1; cases h; exact readD_ok hr hu h1 hv
  · cases h
 | agg l =>
  rw [readDA] at h
  split at h
  · rename_i ts h1; cases h
    obtain ⟨cs, h2, h3⟩ := hv
    obtain ⟨G, h4, h5⟩ := mapD_ok hr hu h1 h3
    exact ⟨G, ⟨cs, h2, h4⟩, h5⟩
  · cases h
theorem ArgsD.ok {l : List Operand} {ins : List V0} (h : ArgsD σ u true l ins) (hr : RelI I w0 σ a w) (hu : look σ.res u = some (.cur g)) : ∃ F, V0s false w ins (l.map a.eval) F ∧ ∀ b ∈ F, b ∉ I.F u := by
 induction h with
 | nil => exact ⟨[], ⟨rfl, rfl⟩, fun _ hb => by cases hb⟩
 | cons hx hv h ih =>
  obtain ⟨F, ih, k1⟩ := ih
  obtain ⟨G, hg, k2⟩ := readDA_ok hr hu hv (hx.va hr rfl)
  exact ⟨G ++ F, ⟨_, _, G, F, rfl, hg, ih, rfl⟩, fun b hb => (List.mem_append.1 hb).elim (k2 b) (k1 b)⟩
theorem RelI.moved (hr : RelI I w0 σ a w) (hu : look σ.res u = some (.cur g)) (hn : nvB u σ.slots σ.res = true) {w' : World} (hc : Chg w w' [g.1]) (hg : CuOk w' g) (hZ : ∀ b, I.Z b → b ≠ g.1) (hcu : CuB I.Z w' g) : ∃ I', RelI I' w0 σ a w' ∧ I'.Z = I.Z ∧ I'.F = I.F := by
 obtain ⟨hF, hB, _⟩ : I.F u = [g.1] ∧ I.B u = g.1 ∧ CuB I.Z w g := hr.res _ _ hu
 have h := hr.upd (w' := w') hu (by rw [hF]; exact hc) (G := [g.1]) (r := .cur g) ⟨by simp, fun b hb => ?_⟩ ⟨by simp [Ip.set], by simp [Ip.set, hB], hcu⟩
 · rw [upd_nv hn, setR_same _ _ _ hu] at h
   refine ⟨_, h, rfl, ?_⟩
   funext i
   simp only [Ip.set]
   split
   · rename_i e; rw [e, hF]
   · rfl
 · simp only [List.mem_singleton] at hb
   subst hb
   exact ⟨((hr.own u _ hu).2 _ (by rw [hF]; simp)).1, hcu.lt, hg.2, .inl (by rw [hF]; simp)⟩
end
theorem R_calldG {f : FuncId} {x : Operand} {l : List Operand} {tys : Array TypeId} {ins : List V0} {p : τ → Prop} {out : τ → V} {g : Nat × Value} {u : Nat} {y : τ → S} {rs : τ → List (Nat × R)} (n : Nat) (h : FnD P f ins p out) (ho : o.op = .call { callee := .value (.func f), args := (x :: l).toArray, argTypes := tys }) (hg : Grd ops o σ true) (hd : o.dst.all (fun d => Nat.blt d σ.n) = true)
 (hx : Get σ true x (.one (.pp u 0))) (hu : look σ.res u = some (.cur g)) (hn : nvB u σ.slots σ.res = true) (ha : ArgsD σ u true l ins) (hout : ∀ z, outV n (out z) = some (y z, rs z)) (hf : ∀ z, ((rs z).all fun x => !σ.has x.1) = true) : OpE P ops o σ fun σ' => ∃ z, p z ∧ σ' = (σ.adds (rs z)).put o.dst (true, y z) := by
 rintro w0 a w ⟨I, hr⟩ K Q hK
 rw [hg.wanted hr]
 simp only [if_true]
 obtain ⟨hF, hB, hcu⟩ : I.F u = [g.1] ∧ I.B u = g.1 ∧ CuB I.Z w g := hr.res _ _ hu
 obtain ⟨F, hV, hap⟩ := ha.ok hr hu
 have hv : a.eval x = .pointer (some ⟨g.1, 0, none⟩) := by
  have : a.eval x = .pointer (some ⟨I.B u, 0, none⟩) := hx.va hr rfl
  rw [this, hB]
 have hZg : ∀ b, I.Z b → b ≠ g.1 := fun b hz e => by subst e; exact (hr.lt u _ (by rw [hF]; simp)).2 hz
 have hgo := (hr.own u _ hu).2 g.1 (by rw [hF]; simp)
 have hok : CuOk w g := ⟨hcu.congr rfl fun b _ hz => ⟨⟨hr.old b hz, hZg b hz⟩, rfl⟩, hgo.2⟩
 have hgood : Good w [g.1] := hr.goodF fun b hb => by simp only [List.mem_singleton] at hb; subst hb; exact hgo.1
 unfold Oper.wp
 rw [run_enter h.1 ho, List.map_cons, hv]
 refine (h.2 w g _ F hgood hok hV (fun hm => hap g.1 hm (by rw [hF]; simp))).mono fun e w' hR => ?_
 obtain ⟨z, v, G, rfl, hp, h1, h2, h3, h4, h5⟩ := hR
 have hsize := h4.size
 have hcu' : CuB I.Z w' g := by
  obtain ⟨i, m, t, G0, bs, k1, k2, k3, k4, k5⟩ := hcu
  obtain ⟨i', m', t', G0', bs', j1, j2, j3, j4, j5⟩ := h5.1
  exact ⟨i', m', t', G0, bs, j1, k2.congr fun b hb => h4.block b (k2.lt b hb) (by simpa using hZg b (k3 b hb)), k3, j4, k5⟩
 obtain ⟨I', hr', hZ', hF'⟩ := hr.moved hu hn h4 h5 hZg hcu'
 obtain ⟨I2, g1, g2⟩ := outV_ok (hout z) (hf z) hr' h1 h2 fun b hb => ⟨.inl (Nat.le_trans hr.ext.size (h3 b hb).1), (Vr.lt h1 b hb), (h3 b hb).2, fun hz => by rw [hZ'] at hz; have := hr.old b hz; have := (h3 b hb).1; omega, fun i hi => by rw [hF'] at hi; have := (hr.lt i b hi).1; have := (h3 b hb).1; omega⟩
 refine hK _ _ _ ⟨z, hp, rfl⟩ ⟨I2, g1.put ?_ g2⟩
 have : (σ.adds (rs z)).n = σ.n := adds_n (rs z)
 rw [this]; exact hd
theorem R_calld {f : FuncId} {x : Operand} {l : List Operand} {tys : Array TypeId} {ins : List V0} {p : τ → Prop} {out : τ → V} {g : Nat × Value} {u : Nat} {y : τ → S} {rs : τ → List (Nat × R)} (n : Nat) (h : FnD P f ins p out) (ho : o.op = .call { callee := .value (.func f), args := (x :: l).toArray, argTypes := tys }) (hg : o.guard = none) (hd : o.dst.all (fun d => Nat.blt d σ.n) = true)
 (hx : Get σ true x (.one (.pp u 0))) (hu : look σ.res u = some (.cur g)) (hn : nvB u σ.slots σ.res = true) (ha : ArgsD σ u true l ins) (hout : ∀ z, outV n (out z) = some (y z, rs z)) (hf : ∀ z, ((rs z).all fun x => !σ.has x.1) = true) : OpE P ops o σ fun σ' => ∃ z, p z ∧ σ' = (σ.adds (rs z)).put o.dst (true, y z) :=
 R_calldG n h ho (.no hg) hd hx hu hn ha hout hf
theorem R_calldq [Inhabited τ] {q : Bool} {f : FuncId} {x : Operand} {l : List Operand} {tys : Array TypeId} {ins : List V0} {p : τ → Prop} {out : τ → V} {g : Nat × Value} {u : Nat} {y : τ → S} (n : Nat) (h : FnD P f ins p out) (ho : o.op = .call { callee := .value (.func f), args := (x :: l).toArray, argTypes := tys }) (hg : Grd ops o σ q) (hd : o.dst.all (fun d => Nat.blt d σ.n) = true)
 (hx : Get σ q x (.one (.pp u 0))) (hu : look σ.res u = some (.cur g)) (hn : nvB u σ.slots σ.res = true) (ha : ArgsD σ u q l ins) (hout : ∀ z, outV n (out z) = some (y z, [])) : OpE P ops o σ fun σ' => ∃ z, (q = true → p z) ∧ σ' = σ.put o.dst (q, y z) := by
 cases q with
 | true =>
  intro w0 a w hr K Q hK
  refine R_calldG (rs := fun _ => []) n h ho hg hd hx hu hn ha hout (fun _ => rfl) w0 a w hr K Q fun σ' a' w' ⟨z, hz, e⟩ hr' => hK σ' a' w' ⟨z, fun _ => hz, e⟩ hr'
 | false =>
  rintro w0 a w ⟨I, hr⟩ K Q hK
  rw [hg.wanted hr]
  exact hK _ _ _ ⟨default, fun h => (by cases h), rfl⟩ ⟨I, hr.put hd rfl⟩
theorem R_calln {f : FuncId} {x : Operand} {tys : Array TypeId} {bs : List Int} (u : Nat) (h : FnN P f) (ho : o.op = .call { callee := .value (.func f), args := [x].toArray, argTypes := tys }) (hg : o.guard = none) (hd : o.dst.all (fun d => Nat.blt d σ.n) = true)
 (hx : Get σ true x (.one (.t (.sl 1 (byR bs))))) (hb : ∀ n ∈ bs, 0 ≤ n ∧ n < 256) (hf : σ.has u = false) : OpE P ops o σ fun σ' => ∃ g, σ' = (σ.add u (.cur g)).put o.dst (true, .a (.one (.pp u 0))) := by
 rintro w0 a w ⟨I, hr⟩ K Q hK
 simp only [Region.wanted, hg, if_true]
 obtain ⟨G, hC, hZ⟩ : VE I w (.t (.sl 1 (byR bs))) (a.eval x) := hx.va hr rfl
 unfold Oper.wp
 rw [run_enter h.1 ho]
 refine (h.2 w _ G bs hr.good hC hb).mono fun e w' hR => ?_
 obtain ⟨g, i, m, t, rfl, h1, h2, h3, h4, h5⟩ := hR
 have hlt : g < w'.heap.size := (Array.getElem?_eq_some_iff.1 h3).1
 have hr' := hr.add (id := u) hf h5 (G := [g]) (u := undef) (b := g) (r := .cur (g, a.eval x)) ⟨by simp, fun b hb => by simp only [List.mem_singleton] at hb; subst hb; exact ⟨h1, hlt, h2⟩⟩
  ⟨by simp [Ip.set], by simp [Ip.set], i, m, t, G, bs, h3, hC.mono h5, hZ, h4, hb⟩
 exact hK _ _ _ ⟨(g, a.eval x), rfl⟩ ⟨_, hr'.put hd (by show Value.pointer _ = Value.pointer _; simp [Ip.set])⟩
end
end Go.Q
