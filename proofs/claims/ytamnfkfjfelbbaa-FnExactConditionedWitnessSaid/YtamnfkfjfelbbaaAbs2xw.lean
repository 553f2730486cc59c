import Derived.Test.YtamnfkfjfelbbaaAbs1xw
import Derived.Test.YtamnfkfjfelbbaaTabxw
import Derived.Orders
set_option linter.unusedVariables false
set_option linter.unusedSimpArgs false
namespace Go.Q
open Go.RowKit
inductive E where
 | t (x : T)
 | rf (id : Nat)
 | vw (id : Nat) (x : T)
 | pp (id off : Nat)
 | pr (id k i j : Nat)
 | sb (id k i j : Nat)
 | tl (id k j : Nat)
 | pf (id k m : Nat)
 | no
inductive A where
 | one (e : E)
 | agg (l : List E)
inductive S where
 | a (x : A)
 | tup (l : List A)
theorem U {α : Sort _} {a : α} : a = a := rfl
theorem Y : True := trivial
inductive R where
 | row (k : Nat) (rows : List (List T))
 | box (cs : List E)
 | hdr (j : Option Nat) (x : Value)
 | kept (K : List (Nat × Obj))
 | opq
 | cur (g : Nat × Value)
 | mp (b : Nat) (f : Int → Int → Int → Int)
structure St where
 n : Nat
 slots : List (Nat × (Bool × S))
 res : List (Nat × R)
def look {α : Type} : List (Nat × α) → Nat → Option α
 | [], _ => none
 | (i, x) :: r, j => bif Nat.beq i j then some x else look r j
theorem look_cons {α : Type} (i : Nat) (x : α) (r : List (Nat × α)) (j : Nat) : look ((i, x) :: r) j = if i = j then some x else look r j := by
 rw [look]
 by_cases h : i = j
 · subst h; simp [Nat.beq_refl]
 · have : Nat.beq i j = false := by
    cases hb : Nat.beq i j with
    | false => rfl
    | true => exact absurd (Nat.eq_of_beq_eq_true hb) h
   rw [this, if_neg h]; rfl
structure Ip where
 Z : Nat → Prop
 F : Nat → List Nat
 hd : Nat → Value
 B : Nat → Nat
def VE (I : Ip) (w : World) : E → Value → Prop
 | .t x, c => ∃ G, C false w x c G ∧ ∀ b ∈ G, I.Z b
 | .rf id, c => c = I.hd id ∧ ∃ a l k, c = .slice a l k
 | .vw id x, c => ∃ G, C false w x c G ∧ ∀ b ∈ G, b ∈ I.F id
 | .pp id off, c => c = .pointer (some ⟨I.B id, off, none⟩)
 | .pr id k i j, c => ∃ g n m, I.hd id = .slice (some ⟨g, 0, none⟩) n m ∧ c = .pointer (some ⟨g, i * k + j, none⟩)
 | .sb id k i j, c => ∃ g n m, I.hd id = .slice (some ⟨g, 0, none⟩) n m ∧ g ∈ I.F id ∧ g < w.heap.size ∧ w.cell? ⟨g, i * k + j, none⟩ = some c
 | .tl id k j, c => ∃ a a' n m, I.hd id = .slice a n m ∧ c = .slice a' (n - j) (m - j) ∧ j ≤ n ∧ n ≤ m ∧ (j < m → ∃ g, a = some ⟨g, 0, none⟩ ∧ a' = some ⟨g, j * k, none⟩)
 | .pf id _ m, c => ∃ a n M, I.hd id = .slice a n M ∧ c = .slice a m M ∧ m ≤ n
 | .no, _ => True
def VEs (I : Ip) (w : World) : List E → List Value → Prop
 | [], cs => cs = []
 | e :: r, cs => ∃ c cr, cs = c :: cr ∧ VE I w e c ∧ VEs I w r cr
def VA (I : Ip) (w : World) : A → Value → Prop
 | .one e, v => VE I w e v
 | .agg l, v => ∃ cs, v = .agg (List.toArray cs) ∧ VEs I w l cs
def VAs (I : Ip) (w : World) : List A → List Value → Prop
 | [], cs => cs = []
 | e :: r, cs => ∃ c cr, cs = c :: cr ∧ VA I w e c ∧ VAs I w r cr
def VS (I : Ip) (w : World) : Bool × S → Value → Prop
 | (p, x), v => if p = true then (match x with | .a x => VA I w x v | .tup l => ∃ vs, v = .tuple (List.toArray vs) ∧ VAs I w l vs) else v = undef
def byR (bs : List Int) : List (List T) := bs.map fun n => [.v (.int .u8 n)]
def CuB (Z : Nat → Prop) (w : World) (g : Nat × Value) : Prop := ∃ i h e G bs, w.heap[g.1]? = some (.cells #[g.2, .int .i64 i, .int .i64 h] e (0, 0)) ∧ C false w (.sl 1 (byR bs)) g.2 G ∧ (∀ b ∈ G, Z b) ∧ 0 ≤ i ∧ ∀ n ∈ bs, 0 ≤ n ∧ n < 256
theorem CuB.congr {Z Z' : Nat → Prop} {w w' : World} {g : Nat × Value} (h : CuB Z w g) (h0 : w'.heap[g.1]? = w.heap[g.1]?) (hZ : ∀ b, b < w.heap.size → Z b → Z' b ∧ w'.heap[b]? = w.heap[b]?) : CuB Z' w' g := by
 obtain ⟨i, x, e, G, bs, h1, h2, h3, h4, h5⟩ := h
 exact ⟨i, x, e, G, bs, h0.trans h1, h2.congr fun b hb => (hZ b (h2.lt b hb) (h3 b hb)).2, fun b hb => (hZ b (h2.lt b hb) (h3 b hb)).1, h4, h5⟩
theorem CuB.lt {Z : Nat → Prop} {w : World} {g : Nat × Value} (h : CuB Z w g) : g.1 < w.heap.size := by
 obtain ⟨i, x, e, G, bs, h1, _⟩ := h
 exact (Array.getElem?_eq_some_iff.1 h1).1
def wfI (x : Int) : Prop := -9223372036854775808 ≤ x ∧ x ≤ 9223372036854775807
def MapB (w : World) (b : Nat) (f : Int → Int → Int → Int) : Prop := ∃ es k, w.heap[b]? = some (.map es k) ∧ ∀ e ∈ es.toList, ∃ x y z : Int, e.key = .agg #[.int .i64 x, .int .i64 y, .int .i64 z] ∧ (wfI x ∧ wfI y ∧ wfI z) ∧ e.val = .int .i64 (f x y z)
theorem MapB.congr {w w' : World} {b : Nat} {f : Int → Int → Int → Int} (h : MapB w b f) (h0 : w'.heap[b]? = w.heap[b]?) : MapB w' b f := by
 obtain ⟨es, k, h1, h2⟩ := h
 exact ⟨es, k, h0.trans h1, h2⟩
theorem MapB.lt {w : World} {b : Nat} {f : Int → Int → Int → Int} (h : MapB w b f) : b < w.heap.size := by
 obtain ⟨es, k, h1, _⟩ := h
 exact (Array.getElem?_eq_some_iff.1 h1).1
def RR (I : Ip) (w : World) (id : Nat) : R → Prop
 | .row k rows => C true w (.sl k rows) (I.hd id) (I.F id)
 | .box cs => I.F id = [I.B id] ∧ ∃ vs e, w.heap[I.B id]? = some (.cells (List.toArray vs) e (0, 0)) ∧ VEs I w cs vs
 | .hdr j x => I.F id = [] ∧ ∀ i, j = some i → I.hd i = x
 | .kept K => I.F id = [] ∧ ∀ x ∈ K, w.heap[x.1]? = some x.2 ∧ I.Z x.1
 | .opq => True
 | .cur g => I.F id = [g.1] ∧ I.B id = g.1 ∧ CuB I.Z w g
 | .mp b f => I.F id = [b] ∧ MapB w b f
structure Chg (w w' : World) (G : List Nat) : Prop where
 os : w'.os = w.os
 tape : w'.tape = w.tape
 output : w'.output = w.output
 size : w.heap.size ≤ w'.heap.size
 block : ∀ k, k < w.heap.size → k ∉ G → w'.heap[k]? = w.heap[k]?
theorem Chg.refl (w : World) (G : List Nat) : Chg w w G := ⟨rfl, rfl, rfl, Nat.le_refl _, fun _ _ _ => rfl⟩
theorem Chg.later {w w' w1 : World} {G : List Nat} (h : Chg w w' G) (hx : Ext w' w1) : Chg w w1 G :=
 ⟨hx.os.trans h.os, hx.tape.trans h.tape, hx.output.trans h.output, Nat.le_trans h.size hx.size, fun k hk hn => (hx.block (Nat.lt_of_lt_of_le hk h.size)).trans (h.block k hk hn)⟩
theorem Chg.toExt {w w' : World} (h : Chg w w' []) : Ext w w' := (Ext.refl w).trans' h.os h.tape h.output h.size fun k hk => h.block k hk (by simp)
structure Base where
 W : World
 H : List Nat
 good : Good W H
def Base.own (w0 : Base) (b : Nat) : Prop := w0.W.heap.size ≤ b ∨ b ∈ w0.H
structure RelI (I : Ip) (w0 : Base) (σ : St) (a : Act) (w : World) : Prop where
 ext : Chg w0.W w w0.H
 defers : a.defers = []
 size : a.tmps.size = σ.n
 slots : ∀ i x, look σ.slots i = some x → VS I w x (a.tmps.getD i undef)
 res : ∀ id r, look σ.res id = some r → RR I w id r
 old : ∀ b, I.Z b → b < w.heap.size
 lt : ∀ id, ∀ b ∈ I.F id, b < w.heap.size ∧ ¬ I.Z b
 own : ∀ id r, look σ.res id = some r → (I.F id).Nodup ∧ ∀ b ∈ I.F id, w0.own b ∧ Thaw w b
 apart : ∀ i j, i ≠ j → ∀ b ∈ I.F i, b ∉ I.F j
def Rel (w0 : Base) (σ : St) (a : Act) (w : World) : Prop := ∃ I, RelI I w0 σ a w
theorem RelI.goodF {I : Ip} {w0 : Base} {σ : St} {a : Act} {w : World} (h : RelI I w0 σ a w) {G : List Nat} (hG : ∀ b ∈ G, w0.own b) : Good w G := w0.good.step h.ext.size h.ext.block hG
theorem RelI.good {I : Ip} {w0 : Base} {σ : St} {a : Act} {w : World} (h : RelI I w0 σ a w) : Good w [] := h.goodF fun _ hb => by cases hb

theorem VE.mono {I : Ip} {w w' : World} (hx : Ext w w') {e : E} {c : Value} (h : VE I w e c) : VE I w' e c := by
 cases e with
 | t x => obtain ⟨G, h1, h2⟩ := h; exact ⟨G, h1.mono hx, h2⟩
 | vw id x => obtain ⟨G, h1, h2⟩ := h; exact ⟨G, h1.mono hx, h2⟩
 | rf id => exact h
 | tl id k j => exact h
 | pf id k j => exact h
 | pp id o => exact h
 | pr id k i j => exact h
 | sb id k i j => obtain ⟨g, n, m, h1, h2, h3, h4⟩ := h; exact ⟨g, n, m, h1, h2, heap_lt (hx.block h3) h3, (World.cell?_of_block (a := ⟨g, _, none⟩) (hx.block h3)).trans h4⟩
 | no => trivial
theorem VEs.mono {I : Ip} {w w' : World} (hx : Ext w w') : ∀ {l : List E} {cs : List Value}, VEs I w l cs → VEs I w' l cs
 | [], _, h => h
 | _ :: _, _, ⟨c, cr, h1, h2, h3⟩ => ⟨c, cr, h1, h2.mono hx, h3.mono hx⟩
theorem VA.mono {I : Ip} {w w' : World} (hx : Ext w w') {x : A} {v : Value} (h : VA I w x v) : VA I w' x v := by
 cases x with
 | one e => exact VE.mono hx h
 | agg l => obtain ⟨cs, h1, h2⟩ := h; exact ⟨cs, h1, h2.mono hx⟩
theorem VAs.mono {I : Ip} {w w' : World} (hx : Ext w w') : ∀ {l : List A} {cs : List Value}, VAs I w l cs → VAs I w' l cs
 | [], _, h => h
 | _ :: _, _, ⟨c, cr, h1, h2, h3⟩ => ⟨c, cr, h1, h2.mono hx, h3.mono hx⟩
theorem VS.mono {I : Ip} {w w' : World} (hx : Ext w w') {x : Bool × S} {v : Value} (h : VS I w x v) : VS I w' x v := by
 obtain ⟨p, x⟩ := x
 cases p
 · exact h
 · cases x with
   | a x => exact VA.mono hx h
   | tup l => obtain ⟨vs, h1, h2⟩ := h; exact ⟨vs, h1, h2.mono hx⟩
theorem RR.mono {I : Ip} {w w' : World} (hx : Ext w w') {id : Nat} {r : R} (h : RR I w id r) : RR I w' id r := by
 cases r with
 | row k rows => exact C.mono h hx
 | box cs =>
  obtain ⟨h1, vs, e, h2, h3⟩ := h
  exact ⟨h1, vs, e, (hx.block (Array.getElem?_eq_some_iff.1 h2).1).trans h2, h3.mono hx⟩
 | hdr j x => exact h
 | opq => trivial
 | cur g => exact ⟨h.1, h.2.1, h.2.2.congr (hx.block h.2.2.lt) fun b hb hz => ⟨hz, hx.block hb⟩⟩
 | mp b f => exact ⟨h.1, h.2.congr (hx.block h.2.lt)⟩
 | kept K => exact ⟨h.1, fun x hx' => ⟨(hx.block (Array.getElem?_eq_some_iff.1 (h.2 x hx').1).1).trans (h.2 x hx').1, (h.2 x hx').2⟩⟩
theorem RelI.later {I : Ip} {w0 : Base} {w w' : World} {σ : St} {a : Act} (h : RelI I w0 σ a w) (hx : Ext w w') : RelI I w0 σ a w' :=
 ⟨h.ext.later hx, h.defers, h.size, fun i x hi => (h.slots i x hi).mono hx, fun id r hi => (h.res id r hi).mono hx, fun b hb => Nat.lt_of_lt_of_le (h.old b hb) hx.size,
  fun id b hb => ⟨Nat.lt_of_lt_of_le (h.lt id b hb).1 hx.size, (h.lt id b hb).2⟩,
  fun id r hi => ⟨(h.own id r hi).1, fun b hb => ⟨((h.own id r hi).2 b hb).1, ((h.own id r hi).2 b hb).2.ext hx⟩⟩, h.apart⟩
def St.put (σ : St) (d : Option Tmp) (x : Bool × S) : St := match d with | some d => { σ with slots := (d, x) :: σ.slots } | none => σ
theorem RelI.put {I : Ip} {w0 : Base} {w : World} {σ : St} {a : Act} (h : RelI I w0 σ a w) {d : Option Tmp} {x : Bool × S} {v : Value} (hd : d.all (fun d => Nat.blt d σ.n) = true) (hv : VS I w x v) : RelI I w0 (σ.put d x) (a.put d v) w := by
 cases d with
 | none => exact h
 | some d =>
  have hd' : d < a.tmps.size := by rw [h.size]; have h2 : Nat.blt d σ.n = true := hd; exact Nat.le_of_ble_eq_true h2
  refine ⟨h.ext, h.defers, by simp [Act.put, St.put, h.size], fun i y hi => ?_, h.res, h.old, h.lt, h.own, h.apart⟩
  rw [St.put, look_cons] at hi
  by_cases e : d = i
  · subst e
    rw [if_pos rfl] at hi
    cases hi
    simpa [Act.put, hd'] using hv
  · rw [if_neg e] at hi
    have := h.slots i y hi
    simpa [Act.put, Array.getElem?_setIfInBounds_ne e] using this
def E.has (id : Nat) : E → Bool
 | .rf i | .vw i _ | .pp i _ | .pr i _ _ _ | .sb i _ _ _ | .tl i _ _ | .pf i _ _ => Nat.beq i id
 | _ => false
def A.has (id : Nat) : A → Bool
 | .one e => e.has id
 | .agg l => l.any (E.has id)
def S.has (id : Nat) : S → Bool
 | .a x => x.has id
 | .tup l => l.any (A.has id)
def R.has (id : Nat) : R → Bool
 | .row _ _ => false
 | .box cs => cs.any (E.has id)
 | .hdr (some j) _ => Nat.beq j id
 | .hdr none _ => false
 | .kept _ => false
 | .opq => false
 | .cur _ => false
 | .mp _ _ => false
def St.has (σ : St) (id : Nat) : Bool := σ.slots.any (fun x => x.2.2.has id) || σ.res.any (fun x => Nat.beq x.1 id || x.2.has id)
def Ip.set (I : Ip) (id : Nat) (G : List Nat) (v : Value) (b : Nat) : Ip :=
 ⟨I.Z, fun i => if i = id then G else I.F i, fun i => if i = id then v else I.hd i, fun i => if i = id then b else I.B i⟩
theorem beq_ne {i j : Nat} (h : Nat.beq i j = false) : i ≠ j := fun e => by subst e; rw [Nat.beq_refl] at h; cases h
theorem VE.set {I : Ip} {w : World} {id : Nat} {G : List Nat} {u : Value} {b : Nat} {e : E} {c : Value} (he : e.has id = false) (h : VE I w e c) : VE (I.set id G u b) w e c := by
 cases e with
 | t x => exact h
 | no => trivial
 | rf i => simp only [VE, Ip.set] at h ⊢; rw [if_neg (beq_ne he)]; exact h
 | tl i k j => simp only [VE, Ip.set] at h ⊢; simp only [if_neg (beq_ne he)]; exact h
 | pf i k j => simp only [VE, Ip.set] at h ⊢; simp only [if_neg (beq_ne he)]; exact h
 | vw i x => simp only [VE, Ip.set] at h ⊢; simp only [if_neg (beq_ne he)]; exact h
 | pp i o => simp only [VE, Ip.set] at h ⊢; rw [if_neg (beq_ne he)]; exact h
 | pr i k p q => simp only [VE, Ip.set] at h ⊢; rw [if_neg (beq_ne he)]; exact h
 | sb i k p q => simp only [VE, Ip.set] at h ⊢; simp only [if_neg (beq_ne he)]; exact h
theorem VEs.set {I : Ip} {w : World} {id : Nat} {G : List Nat} {u : Value} {b : Nat} : ∀ {l : List E} {cs : List Value}, l.any (E.has id) = false → VEs I w l cs → VEs (I.set id G u b) w l cs
 | [], _, _, h => h
 | _ :: _, _, he, ⟨c, cr, h1, h2, h3⟩ => by
  simp only [List.any_cons, Bool.or_eq_false_iff] at he
  exact ⟨c, cr, h1, h2.set he.1, h3.set he.2⟩
theorem VA.set {I : Ip} {w : World} {id : Nat} {G : List Nat} {u : Value} {b : Nat} {x : A} {v : Value} (he : x.has id = false) (h : VA I w x v) : VA (I.set id G u b) w x v := by
 cases x with
 | one e => exact VE.set he h
 | agg l => obtain ⟨cs, h1, h2⟩ := h; exact ⟨cs, h1, h2.set he⟩
theorem VAs.set {I : Ip} {w : World} {id : Nat} {G : List Nat} {u : Value} {b : Nat} : ∀ {l : List A} {cs : List Value}, l.any (A.has id) = false → VAs I w l cs → VAs (I.set id G u b) w l cs
 | [], _, _, h => h
 | _ :: _, _, he, ⟨c, cr, h1, h2, h3⟩ => by
  simp only [List.any_cons, Bool.or_eq_false_iff] at he
  exact ⟨c, cr, h1, h2.set he.1, h3.set he.2⟩
theorem VS.set {I : Ip} {w : World} {id : Nat} {G : List Nat} {u : Value} {b : Nat} {x : Bool × S} {v : Value} (he : x.2.has id = false) (h : VS I w x v) : VS (I.set id G u b) w x v := by
 obtain ⟨p, x⟩ := x
 cases p
 · exact h
 · cases x with
   | a x => exact VA.set he h
   | tup l => obtain ⟨vs, h1, h2⟩ := h; exact ⟨vs, h1, h2.set he⟩
theorem RR.set {I : Ip} {w : World} {id : Nat} {G : List Nat} {u : Value} {b : Nat} {i : Nat} {r : R} (hi : i ≠ id) (he : r.has id = false) (h : RR I w i r) : RR (I.set id G u b) w i r := by
 cases r with
 | row k rows => simp only [RR, Ip.set, if_neg hi] at h ⊢; exact h
 | box cs =>
  obtain ⟨h1, vs, e, h2, h3⟩ := h
  refine ⟨by simp only [Ip.set, if_neg hi]; exact h1, vs, e, by simp only [Ip.set, if_neg hi]; exact h2, h3.set he⟩
 | kept K => exact ⟨by simp only [Ip.set, if_neg hi]; exact h.1, h.2⟩
 | opq => trivial
 | cur g => simp only [RR, Ip.set, if_neg hi] at h ⊢; exact h
 | mp b f => simp only [RR, Ip.set, if_neg hi] at h ⊢; exact h
 | hdr j x =>
  refine ⟨by simp only [Ip.set, if_neg hi]; exact h.1, fun k hk => ?_⟩
  subst hk
  simp only [Ip.set, if_neg (beq_ne he)]
  exact h.2 k rfl
theorem look_mem {α : Type} : ∀ {l : List (Nat × α)} {i : Nat} {x : α}, look l i = some x → (i, x) ∈ l
 | [], _, _, h => by cases h
 | (j, y) :: l, i, x, h => by
  rw [look_cons] at h
  by_cases e : j = i
  · subst e; rw [if_pos rfl] at h; cases h; simp
  · rw [if_neg e] at h; simp [look_mem h]
theorem St.has_slot {σ : St} {id i : Nat} {x : Bool × S} (h : σ.has id = false) (hi : look σ.slots i = some x) : x.2.has id = false := by
 simp only [St.has, Bool.or_eq_false_iff, List.any_eq_false] at h
 simpa using h.1 _ (look_mem hi)
theorem St.has_res {σ : St} {id i : Nat} {r : R} (h : σ.has id = false) (hi : look σ.res i = some r) : i ≠ id ∧ r.has id = false := by
 simp only [St.has, Bool.or_eq_false_iff, List.any_eq_false] at h
 have := h.2 _ (look_mem hi)
 simp only [Bool.or_eq_true, not_or, Bool.not_eq_true] at this
 exact ⟨beq_ne this.1, this.2⟩
def St.add (σ : St) (id : Nat) (r : R) : St := { σ with res := (id, r) :: σ.res }
theorem RelI.add {I : Ip} {w0 : Base} {w w' : World} {σ : St} {a : Act} (h : RelI I w0 σ a w) {id : Nat} (hf : σ.has id = false) (hx : Ext w w') {G : List Nat} {u : Value} {b : Nat} {r : R}
 (hG : G.Nodup ∧ ∀ b ∈ G, w.heap.size ≤ b ∧ b < w'.heap.size ∧ Thaw w' b) (hr : RR (I.set id G u b) w' id r) : RelI (I.set id G u b) w0 (σ.add id r) a w' := by
 have h' := h.later hx
 have key : ∀ i r', look (σ.add id r).res i = some r' → (i = id ∧ r' = r) ∨ (i ≠ id ∧ look σ.res i = some r') := by
  intro i r' hi
  rw [St.add, look_cons] at hi
  by_cases e : id = i
  · rw [if_pos e] at hi; cases hi; exact .inl ⟨e.symm, rfl⟩
  · rw [if_neg e] at hi; exact .inr ⟨fun e' => e e'.symm, hi⟩
 have Fid : (I.set id G u b).F id = G := by simp [Ip.set]
 have Foth : ∀ i, i ≠ id → (I.set id G u b).F i = I.F i := fun i hi => by simp [Ip.set, hi]
 refine ⟨h'.ext, h'.defers, h'.size, fun i x hi => (h'.slots i x hi).set (St.has_slot hf hi), fun i r' hi => ?_, h'.old, fun i b hb => ?_, fun i r' hi => ?_, fun i j hne => ?_⟩
 · rcases key i r' hi with ⟨rfl, rfl⟩ | ⟨e, hi⟩
   · exact hr
   · exact (h'.res i r' hi).set e (St.has_res hf hi).2
 · by_cases e : i = id
   · rw [e, Fid] at hb
     exact ⟨(hG.2 b hb).2.1, fun hz => by have := h.old b hz; have := (hG.2 b hb).1; omega⟩
   · rw [Foth i e] at hb; exact h'.lt i b hb
 · rcases key i r' hi with ⟨rfl, rfl⟩ | ⟨e, hi⟩
   · rw [Fid]
     exact ⟨hG.1, fun b hb => ⟨.inl (Nat.le_trans h.ext.size (hG.2 b hb).1), (hG.2 b hb).2.2⟩⟩
   · rw [Foth i e]; exact h'.own i r' hi
 · by_cases ei : i = id
   · by_cases ej : j = id
     · exact absurd (ei.trans ej.symm) hne
     · rw [ei, Fid, Foth j ej]
       exact fun b hb hb' => by have := (h.lt j b hb').1; have := (hG.2 b hb).1; omega
   · by_cases ej : j = id
     · rw [ej, Fid, Foth i ei]
       exact fun b hb hb' => by have := (h.lt i b hb).1; have := (hG.2 b hb').1; omega
     · rw [Foth i ei, Foth j ej]; exact h.apart i j hne
def E.pur (id : Nat) : E → E
 | .rf i => bif Nat.beq i id then .no else .rf i
 | .vw i x => bif Nat.beq i id then .no else .vw i x
 | .pr i k p q => bif Nat.beq i id then .no else .pr i k p q
 | .sb i k p q => bif Nat.beq i id then .no else .sb i k p q
 | .tl i k j => bif Nat.beq i id then .no else .tl i k j
 | .pf i k j => bif Nat.beq i id then .no else .pf i k j
 | e => e
def A.pur (id : Nat) : A → A
 | .one e => .one (e.pur id)
 | .agg l => .agg (l.map (E.pur id))
def S.pur (id : Nat) : S → S
 | .a x => .a (x.pur id)
 | .tup l => .tup (l.map (A.pur id))
def R.pur (id : Nat) : R → R
 | .row k rows => .row k rows
 | .box cs => .box (cs.map (E.pur id))
 | .hdr j x => .hdr (match j with | some j => bif Nat.beq j id then none else some j | none => none) x
 | .kept K => .kept K
 | .opq => .opq
 | .cur g => .cur g
 | .mp b f => .mp b f
def setR : List (Nat × R) → Nat → R → List (Nat × R)
 | [], _, _ => []
 | (i, x) :: l, id, r => bif Nat.beq i id then (i, r) :: l else (i, x) :: setR l id r
def St.pur (σ : St) (id : Nat) : St := { σ with slots := σ.slots.map (fun x => (x.1, (x.2.1, x.2.2.pur id))), res := σ.res.map (fun x => (x.1, x.2.pur id)) }
def St.chg (σ : St) (id : Nat) (r : R) : St := { σ.pur id with res := setR (σ.pur id).res id r }
theorem look_map {α β : Type} (f : α → β) : ∀ (l : List (Nat × α)) (i : Nat), look (l.map fun x => (x.1, f x.2)) i = (look l i).map f
 | [], _ => rfl
 | (j, y) :: l, i => by
  rw [List.map_cons, look_cons, look_cons]
  by_cases e : j = i
  · rw [if_pos e, if_pos e]; rfl
  · rw [if_neg e, if_neg e]; exact look_map f l i
theorem look_setR : ∀ (l : List (Nat × R)) (id : Nat) (r : R) (i : Nat) (x : R), look (setR l id r) i = some x → (i = id ∧ x = r ∧ ∃ y, look l id = some y) ∨ (i ≠ id ∧ look l i = some x)
 | [], _, _, _, _, h => by cases h
 | (j, y) :: l, id, r, i, x, h => by
  rw [setR] at h
  by_cases e : j = id
  · subst e
    simp only [Nat.beq_refl, cond_true] at h
    rw [look_cons] at h
    by_cases e : j = i
    · rw [if_pos e] at h; cases h; exact .inl ⟨e.symm, rfl, y, by rw [look_cons, if_pos rfl]⟩
    · rw [if_neg e] at h; exact .inr ⟨fun h => e h.symm, by rw [look_cons, if_neg e]; exact h⟩
  · have eb : Nat.beq j id = false := by
     cases hb : Nat.beq j id with
     | false => rfl
     | true => exact absurd (Nat.eq_of_beq_eq_true hb) e
    simp only [eb, cond_false] at h
    rw [look_cons] at h
    by_cases e' : j = i
    · rw [if_pos e'] at h; cases h
      exact .inr ⟨fun h => e (e'.trans h), by rw [look_cons, if_pos e']⟩
    · rw [if_neg e'] at h
      rcases look_setR l id r i x h with ⟨h1, h2, y', h3⟩ | ⟨h1, h2⟩
      · exact .inl ⟨h1, h2, y', by rw [look_cons, if_neg e]; exact h3⟩
      · exact .inr ⟨h1, by rw [look_cons, if_neg e']; exact h2⟩
theorem Chg.ext {w0 : Base} {w w' : World} {G : List Nat} (h : Chg w0.W w w0.H) (hc : Chg w w' G) (hG : ∀ b ∈ G, w0.own b) : Chg w0.W w' w0.H :=
 ⟨hc.os.trans h.os, hc.tape.trans h.tape, hc.output.trans h.output, Nat.le_trans h.size hc.size, fun k hk hn => (hc.block k (Nat.lt_of_lt_of_le hk h.size) fun hm => by
  rcases hG k hm with g | g
  · omega
  · exact hn g).trans (h.block k hk hn)⟩
theorem VE.pur {I : Ip} {w w' : World} {id : Nat} {G : List Nat} {u : Value} (hc : Chg w w' (I.F id)) (hZ : ∀ b, I.Z b → b ∉ I.F id) (hv : ∀ i, i ≠ id → ∀ b ∈ I.F i, b ∉ I.F id) {e : E} {c : Value} (h : VE I w e c) :
 VE (I.set id G u (I.B id)) w' (e.pur id) c := by
 have hb : ∀ (i : Nat), (bif Nat.beq i id then true else false) = true ↔ i = id := fun i => by
  cases hb : Nat.beq i id with
  | false => simp [beq_ne hb]
  | true => simp [Nat.eq_of_beq_eq_true hb]
 cases e with
 | t x => obtain ⟨G, h1, h2⟩ := h; exact ⟨G, h1.congr fun b hb => hc.block b (h1.lt b hb) (hZ b (h2 b hb)), h2⟩
 | no => trivial
 | rf i =>
  simp only [E.pur]
  cases e : Nat.beq i id with
  | true => trivial
  | false => simp only [cond_false, VE, Ip.set] at h ⊢; rw [if_neg (beq_ne e)]; exact h
 | tl i k j =>
  simp only [E.pur]
  cases e : Nat.beq i id with
  | true => trivial
  | false => simp only [cond_false, VE, Ip.set] at h ⊢; simp only [if_neg (beq_ne e)]; exact h
 | pf i k j =>
  simp only [E.pur]
  cases e : Nat.beq i id with
  | true => trivial
  | false => simp only [cond_false, VE, Ip.set] at h ⊢; simp only [if_neg (beq_ne e)]; exact h
 | vw i x =>
  simp only [E.pur]
  cases e : Nat.beq i id with
  | true => trivial
  | false =>
   obtain ⟨G', h1, h2⟩ := h
   simp only [cond_false, VE, Ip.set, if_neg (beq_ne e)]
   exact ⟨G', h1.congr fun b hb => hc.block b (h1.lt b hb) (hv i (beq_ne e) b (h2 b hb)), h2⟩
 | pr i k p q =>
  simp only [E.pur]
  cases e : Nat.beq i id with
  | true => trivial
  | false => simp only [cond_false, VE, Ip.set] at h ⊢; rw [if_neg (beq_ne e)]; exact h
 | sb i k p q =>
  simp only [E.pur]
  cases e : Nat.beq i id with
  | true => trivial
  | false =>
   obtain ⟨g, n, m, h1, h2, h3, h4⟩ := h
   have hb' := hc.block g h3 (hv i (beq_ne e) g h2)
   simp only [cond_false, VE, Ip.set, if_neg (beq_ne e)]
   exact ⟨g, n, m, h1, h2, heap_lt hb' h3, (World.cell?_of_block (a := ⟨g, _, none⟩) hb').trans h4⟩
 | pp i o =>
  simp only [E.pur, VE, Ip.set] at h ⊢
  by_cases e : i = id
  · rw [if_pos e, ← e]; exact h
  · rw [if_neg e]; exact h
theorem VEs.pur {I : Ip} {w w' : World} {id : Nat} {G : List Nat} {u : Value} (hc : Chg w w' (I.F id)) (hZ : ∀ b, I.Z b → b ∉ I.F id) (hv : ∀ i, i ≠ id → ∀ b ∈ I.F i, b ∉ I.F id) : ∀ {l : List E} {cs : List Value}, VEs I w l cs →
 VEs (I.set id G u (I.B id)) w' (l.map (E.pur id)) cs
 | [], _, h => h
 | _ :: _, _, ⟨c, cr, h1, h2, h3⟩ => ⟨c, cr, h1, h2.pur hc hZ hv, h3.pur hc hZ hv⟩
theorem VA.pur {I : Ip} {w w' : World} {id : Nat} {G : List Nat} {u : Value} (hc : Chg w w' (I.F id)) (hZ : ∀ b, I.Z b → b ∉ I.F id) (hv : ∀ i, i ≠ id → ∀ b ∈ I.F i, b ∉ I.F id) {x : A} {v : Value} (h : VA I w x v) :
 VA (I.set id G u (I.B id)) w' (x.pur id) v := by
 cases x with
 | one e => exact VE.pur hc hZ hv h
 | agg l => obtain ⟨cs, h1, h2⟩ := h; exact ⟨cs, h1, h2.pur hc hZ hv⟩
theorem VAs.pur {I : Ip} {w w' : World} {id : Nat} {G : List Nat} {u : Value} (hc : Chg w w' (I.F id)) (hZ : ∀ b, I.Z b → b ∉ I.F id) (hv : ∀ i, i ≠ id → ∀ b ∈ I.F i, b ∉ I.F id) : ∀ {l : List A} {cs : List Value}, VAs I w l cs →
 VAs (I.set id G u (I.B id)) w' (l.map (A.pur id)) cs
 | [], _, h => h
 | _ :: _, _, ⟨c, cr, h1, h2, h3⟩ => ⟨c, cr, h1, h2.pur hc hZ hv, h3.pur hc hZ hv⟩
theorem VS.pur {I : Ip} {w w' : World} {id : Nat} {G : List Nat} {u : Value} (hc : Chg w w' (I.F id)) (hZ : ∀ b, I.Z b → b ∉ I.F id) (hv : ∀ i, i ≠ id → ∀ b ∈ I.F i, b ∉ I.F id) {x : Bool × S} {v : Value} (h : VS I w x v) :
 VS (I.set id G u (I.B id)) w' (x.1, x.2.pur id) v := by
 obtain ⟨p, x⟩ := x
 cases p
 · exact h
 · cases x with
   | a x => exact VA.pur hc hZ hv h
   | tup l => obtain ⟨vs, h1, h2⟩ := h; exact ⟨vs, h1, h2.pur hc hZ hv⟩
theorem Thaw.chg {w w' : World} {G : List Nat} (hc : Chg w w' G) {b : Nat} (h : Thaw w b) (hb : b ∉ G) : Thaw w' b := by
 obtain ⟨c, e, h⟩ := h
 exact ⟨c, e, (hc.block b (Array.getElem?_eq_some_iff.1 h).1 hb).trans h⟩
def Free (I : Ip) (w0 : Base) (w : World) (b : Nat) : Prop := w0.own b ∧ b < w.heap.size ∧ Thaw w b ∧ ¬ I.Z b ∧ ∀ i, b ∉ I.F i
theorem RelI.chg {I : Ip} {w0 : Base} {w w' : World} {σ : St} {a : Act} (h : RelI I w0 σ a w) {id : Nat} {r0 : R} (h0 : look σ.res id = some r0) (hc : Chg w w' (I.F id)) {G : List Nat} {u : Value} {r : R}
 (hG : G.Nodup ∧ ∀ b ∈ G, w0.own b ∧ b < w'.heap.size ∧ Thaw w' b ∧ (b ∈ I.F id ∨ w.heap.size ≤ b ∨ Free I w0 w b)) (hr : RR (I.set id G u (I.B id)) w' id r) : RelI (I.set id G u (I.B id)) w0 (σ.chg id r) a w' := by
 have hZ : ∀ b, I.Z b → b ∉ I.F id := fun b hz hb => (h.lt id b hb).2 hz
 have hv : ∀ i, i ≠ id → ∀ b ∈ I.F i, b ∉ I.F id := fun i hi => h.apart i id hi
 have Fid : (I.set id G u (I.B id)).F id = G := by simp [Ip.set]
 have Foth : ∀ i, i ≠ id → (I.set id G u (I.B id)).F i = I.F i := fun i hi => by simp [Ip.set, hi]
 have key : ∀ i r', look (σ.chg id r).res i = some r' → (i = id ∧ r' = r) ∨ (i ≠ id ∧ ∃ y, look σ.res i = some y ∧ r' = y.pur id) := by
  intro i r' hi
  rcases look_setR _ _ _ _ _ hi with ⟨h1, h2, _⟩ | ⟨h1, h2⟩
  · exact .inl ⟨h1, h2⟩
  · refine .inr ⟨h1, ?_⟩
    rw [St.pur, look_map] at h2
    obtain ⟨y, hy, e⟩ := Option.map_eq_some_iff.1 h2
    exact ⟨y, hy, e.symm⟩
 refine ⟨Chg.ext h.ext hc fun b hb => ((h.own id r0 h0).2 b hb).1, h.defers, h.size, fun i x hi => ?_, fun i r' hi => ?_, fun b hb => Nat.lt_of_lt_of_le (h.old b hb) hc.size, fun i b hb => ?_, fun i r' hi => ?_, fun i j hne => ?_⟩
 · have hi' : look (σ.slots.map fun x => (x.1, (x.2.1, x.2.2.pur id))) i = some x := hi
   rw [look_map (fun x : Bool × S => (x.1, x.2.pur id))] at hi'
   obtain ⟨y, hy, rfl⟩ := Option.map_eq_some_iff.1 hi'
   exact (h.slots i y hy).pur hc hZ hv
 · rcases key i r' hi with ⟨rfl, rfl⟩ | ⟨e, y, hy, rfl⟩
   · exact hr
   · have := h.res i y hy
     cases y with
     | row k rows =>
      have this : C true w (.sl k rows) (I.hd i) (I.F i) := this
      show C true w' (.sl k rows) _ _
      simp only [Ip.set, if_neg e]
      exact this.congr fun b hb => hc.block b (this.lt b hb) (hv i e b hb)
     | box cs =>
      obtain ⟨h1, vs, t, h2, h3⟩ := this
      refine ⟨by simpa only [Ip.set, if_neg e] using h1, vs, t, ?_, h3.pur hc hZ hv⟩
      simp only [Ip.set, if_neg e]
      exact (hc.block _ (Array.getElem?_eq_some_iff.1 h2).1 (hv i e _ (by rw [h1]; simp))).trans h2
     | opq => trivial
     | cur g =>
      have this : I.F i = [g.1] ∧ I.B i = g.1 ∧ CuB I.Z w g := this
      refine ⟨by simpa only [Ip.set, if_neg e] using this.1, by simpa only [Ip.set, if_neg e] using this.2.1, ?_⟩
      exact this.2.2.congr (hc.block _ this.2.2.lt (hv i e _ (by rw [this.1]; simp))) fun b hb hz => ⟨hz, hc.block b hb (hZ b hz)⟩
     | mp b f =>
      have this : I.F i = [b] ∧ MapB w b f := this
      exact ⟨by simpa only [Ip.set, if_neg e] using this.1, this.2.congr (hc.block _ this.2.lt (hv i e _ (by rw [this.1]; simp)))⟩
     | kept K => exact ⟨by simp only [Ip.set, if_neg e]; exact this.1, fun x hx => ⟨(hc.block x.1 (h.old _ (this.2 x hx).2) (hZ _ (this.2 x hx).2)).trans (this.2 x hx).1, (this.2 x hx).2⟩⟩
     | hdr j x =>
      refine ⟨by simp only [Ip.set, if_neg e]; exact this.1, fun k hk => ?_⟩
      cases j with
      | none => cases hk
      | some j =>
       simp only at hk
       cases hb : Nat.beq j id with
       | true => rw [hb] at hk; cases hk
       | false =>
        rw [hb] at hk
        cases hk
        simp only [Ip.set, if_neg (beq_ne hb)]
        exact this.2 _ rfl
 · by_cases e : i = id
   · rw [e, Fid] at hb
     have g := hG.2 b hb
     refine ⟨g.2.1, fun hz => ?_⟩
     rcases g.2.2.2 with g | g | g
     · exact (h.lt id b g).2 hz
     · have := h.old b hz; omega
     · exact g.2.2.2.1 hz
   · rw [Foth i e] at hb
     exact ⟨Nat.lt_of_lt_of_le (h.lt i b hb).1 hc.size, (h.lt i b hb).2⟩
 · rcases key i r' hi with ⟨rfl, rfl⟩ | ⟨e, y, hy, rfl⟩
   · rw [Fid]; exact ⟨hG.1, fun b hb => ⟨(hG.2 b hb).1, (hG.2 b hb).2.2.1⟩⟩
   · rw [Foth i e]
     exact ⟨(h.own i y hy).1, fun b hb => ⟨((h.own i y hy).2 b hb).1, ((h.own i y hy).2 b hb).2.chg hc (hv i e b hb)⟩⟩
 · by_cases ei : i = id
   · by_cases ej : j = id
     · exact absurd (ei.trans ej.symm) hne
     · rw [ei, Fid, Foth j ej]
       intro b hb hb'
       rcases (hG.2 b hb).2.2.2 with g | g | g
       · exact h.apart id j (fun e => ej e.symm) b g hb'
       · have := (h.lt j b hb').1; omega
       · exact g.2.2.2.2 j hb'
   · by_cases ej : j = id
     · rw [ej, Fid, Foth i ei]
       intro b hb hb'
       rcases (hG.2 b hb').2.2.2 with g | g | g
       · exact h.apart i id ei b hb g
       · have := (h.lt i b hb).1; omega
       · exact g.2.2.2.2 i hb
     · rw [Foth i ei, Foth j ej]; exact h.apart i j hne
end Go.Q
